/- scope.Order. -/
import Derived.Test.YtmcihkfbgcfccaaHGroup
namespace Go.Proofs.Ytmcihkfbgcfccaa.H
open Go.RowKit Go.Proofs.Ytmcihkfbgcfccaa.Z Go.Proofs.YtmcihkfbgcfccaaW.PrintWords Go.Proofs.YtmcihkfbgcfccaaW.PrintLast Go.Proofs.YtmcihkfbgcfccaaW.PrintMore
set_option linter.unusedVariables false
set_option linter.unusedSimpArgs false
theorem addTo_len (xs : List Int) (x : Int) : (addTo xs x).length ≤ xs.length + 1 := by
  unfold addTo
  split
  · omega
  · simp
theorem addAll_len : ∀ (xs ys : List Int), (addAll xs ys).length ≤ xs.length + ys.length
  | xs, [] => by simp [addAll]
  | xs, y :: ys => by
    have h1 := addAll_len (addTo xs y) ys
    have h2 := addTo_len xs y
    simp only [addAll, List.foldl_cons, List.length_cons] at *
    omega
theorem bfsGo_len (L : List Ins) : ∀ (n : Nat) (s : List Int) (a : Nat), (bfsGo L n s a).length ≤ n
  | 0, _, _ => by simp [bfsGo]
  | n + 1, s, a => by
    rw [bfsGo]
    split
    · simp
    · split
      · have := bfsGo_len L n s (a + 1); omega
      · rename_i x _
        have := bfsGo_len L n (addAll s x.needs) (a + 1)
        simp only [List.length_cons]
        omega
theorem insAt_bd {L : List Ins} {id : Int} {x : Ins} (h : insAt L id = some x) : 1 ≤ id ∧ id ≤ L.length := by
  unfold insAt at h
  split at h
  · rename_i h1
    obtain ⟨h2, _⟩ := List.getElem?_eq_some_iff.1 h
    omega
  · cases h
theorem bfsGo_mem (L : List Ins) : ∀ (n : Nat) (s : List Int) (a : Nat), ∀ y ∈ bfsGo L n s a, 1 ≤ y ∧ y ≤ L.length
  | 0, _, _, y, h => by simp [bfsGo] at h
  | n + 1, s, a, y, h => by
    rw [bfsGo] at h
    split at h
    · simp at h
    · split at h
      · exact bfsGo_mem L n s (a + 1) y h
      · rename_i id _ _ x hx
        rcases List.mem_cons.1 h with rfl | h
        · exact insAt_bd hx
        · exact bfsGo_mem L n (addAll s x.needs) (a + 1) y h
theorem globsOf_mem (L : List Ins) (s : Int) : ∀ n : Nat, ∀ y ∈ globsOf L s n, 1 ≤ y ∧ y ≤ n
  | 0, y, h => by simp [globsOf] at h
  | n + 1, y, h => by
    rw [globsOf] at h
    split at h
    · split at h
      · rcases List.mem_append.1 h with h | h
        · have := globsOf_mem L s n y h; omega
        · simp at h; omega
      · have := globsOf_mem L s n y h; omega
    · have := globsOf_mem L s n y h; omega
/-- Where the symbols of an instance are looked for. -/
def orderOf (L : List Ins) (id root : Int) : List Int :=
  match insAt L id with
  | none => []
  | some x => addAll [] ((if x.sy = true then [id] else []) ++ globsOf L x.sp L.length ++ groupOf L root)
theorem all_wf {L : List Ins} {root sp : Int} {pre : List Int} (hL : L.length ≤ 12) (hp : ∀ y ∈ pre, (Lit.int .i64 y).wf = true) : ∀ y ∈ pre ++ globsOf L sp L.length ++ groupOf L root, (Lit.int .i64 y).wf = true := by
  intro y hy
  rcases List.mem_append.1 hy with hy | hy
  · rcases List.mem_append.1 hy with hy | hy
    · exact hp y hy
    · have := globsOf_mem L sp _ y hy
      exact wf_small (by omega) (by omega)
  · have := bfsGo_mem L _ _ _ y hy
    exact wf_small (by omega) (by omega)
set_option maxRecDepth 100000 in
set_option maxHeartbeats 2000000 in
theorem order_calls (w : World) (bt : Nat) (L : List Ins) (id root : Int) (hT : TabR w bt L) (hL : L.length ≤ 12) (hneeds : ∀ x ∈ L, x.needs.length ≤ 1000 ∧ ∀ y ∈ x.needs, 1 ≤ y ∧ y ≤ L.length) (hid : (Lit.int .i64 id).wf = true) (hr : (Lit.int .i64 root).wf = true) :
    Calls Try.prog 13 #[.pointer (some ⟨bt, 0, none⟩), .int .i64 id, .int .i64 root] w fun e w' => ∃ v, e = .returned v ∧ (Kd.int .i64).R 3 w' w.heap.size (fun _ => True) v (orderOf L id root) ∧ Below w.heap.size w w' := by
  have HT := Aside0.mk hT
  have HN := Aside0.mk hneeds
  obtain ⟨res, hres⟩ : ∃ res, orderOf L id root = res := ⟨_, rfl⟩
  rw [hres]
  have HRS := Aside0.mk hres
  clear hT hneeds hres
  go_enter Try.func13, Try.ntmps13
  go_wp2_with fail
  refine (get_T w bt L id HT.out hid).mono ?_
  rintro e w1 ⟨hw1, ⟨b, x, rfl, hx, hI⟩ | ⟨rfl, hx⟩⟩
  · subst hw1
    obtain ⟨_, hsp, hsy, _⟩ := hI.cells
    have hgl := globsOf_len L x.sp L.length
    have hgr := bfsGo_len L (L.length + 2) [root] 0
    have hgr : (groupOf L root).length ≤ L.length + 2 := hgr
    cases hsyx : x.sy with
    | true =>
      have HALL : Aside0 (orderOf L id root = addAll [] ([id] ++ globsOf L x.sp L.length ++ groupOf L root)) := ⟨by rw [orderOf, hx]; simp only [hsyx, if_true]⟩
      have HPW := Aside0.mk (all_wf (L := L) (root := root) (sp := x.sp) (pre := [id]) hL (by simpa using hid))
      have HPL : Aside0 (([id] : List Int).length = 1) := ⟨rfl⟩
      rw [hsyx] at hsy
      clear hx hI hsyx
      go_wp2_with ((with_reducible refine gate_builtin (b := .append) (xs := #[.tmp 23, .tmp 25]) rfl ?_); at_builtin; refine Kd.R_append (Kd.int .i64) (w0 := w1) w1.heap.size rfl (.tmp 23) (.tmp 25) 31 3 (.int .i64 0) 8 rfl Try.underlying31 info3 rfl (by decide) (by omega) (.slice none 0 0) ([] : List Int) id [.int .i64 id] (fun _ => True) (fun _ => False) rfl rfl ?aP (fun _ hk => hk.elim) ?aF ?aO ?aB ?aS ?aL ?_; (case aP => exact rfl); (case aB => exact Below.refl _ _); (case aF => exact (fun _ _ => trivial)); (case aO => exact Kd.R_nil _ _ _ _ _); (case aS => exact Nat.le_refl _); (case aL => simp); intro va wa hoa hba hga hata; have HA := Aside0.mk hoa; have HBA := Aside0.mk hba; have hspa := (hba.cell (World.block_lt_of_cell? w1 _ hsp)).trans hsp; clear hoa hba hga hata hsp hsy)
      refine (globals_calls wa bt L x.sp (HT.out.below HBA.out) (by omega)).mono ?_
      rintro e w2 ⟨v2, rfl, hv2, hb2⟩
      obtain ⟨A2, c2, rfl⟩ := Kd.R_slice hv2
      have HC2 := Aside0.mk (Kd.R_reads' hv2).2.2
      have HB2 := Aside0.mk (below_then HBA.out HBA.out.size hb2)
      have HA2 := Aside0.mk (Kd.R_below HA.out hb2)
      have hsz2 := HB2.out.size
      clear hv2 hb2 HBA HA
      go_wp2_with ((with_reducible refine gate_builtin (b := .append) (xs := #[.tmp 27, .tmp 33]) rfl ?_); at_builtin; refine Kd.R_append_row (Value.int .i64) (0 : Int) (w0 := w1) w1.heap.size rfl (.tmp 27) (.tmp 33) 31 3 (.int .i64 0) 8 rfl Try.underlying31 info3 rfl (by decide) va [id] (globsOf L x.sp L.length) A2 _ c2 (fun _ => True) rfl rfl (fun _ _ => trivial) HA2.out HC2.out HB2.out hsz2 (by rw [HPL.out]; omega) ?_; intro v3 w3 ho3 hb3 hg3 hat3; have HO3 := Aside0.mk ho3; have HB3 := Aside0.mk hb3; clear ho3 hb3 hg3 hat3 HC2 HB2 HA2)
      refine (group_calls w3 bt L root (HT.out.below HB3.out) hL HN.out hr).mono ?_
      rintro e w4 ⟨v4, rfl, hv4, hb4⟩
      obtain ⟨A4, c4, rfl⟩ := Kd.R_slice hv4
      have HC4 := Aside0.mk (Kd.R_reads' hv4).2.2
      have HB4 := Aside0.mk (below_then HB3.out HB3.out.size hb4)
      have HO4 := Aside0.mk (Kd.R_below HO3.out hb4)
      have hsz4 := HB4.out.size
      clear hv4 hb4 HB3 HO3
      obtain ⟨all, HAL⟩ : ∃ all, Aside0 ([id] ++ globsOf L x.sp L.length ++ groupOf L root = all) := ⟨_, ⟨rfl⟩⟩
      go_wp2_with ((with_reducible refine gate_builtin (b := .append) (xs := #[.tmp 35, .tmp 38]) rfl ?_); at_builtin; refine Kd.R_append_row (Value.int .i64) (0 : Int) (w0 := w1) w1.heap.size rfl (.tmp 35) (.tmp 38) 31 3 (.int .i64 0) 8 rfl Try.underlying31 info3 rfl (by decide) v3 ([id] ++ globsOf L x.sp L.length) (groupOf L root) A4 _ c4 (fun _ => True) rfl rfl (fun _ _ => trivial) HO4.out HC4.out HB4.out hsz4 (by rw [List.length_append, HPL.out]; omega) ?_; intro v5 w5 ho5 hb5 hg5 hat5; rw [HAL.out] at ho5; obtain ⟨A5, c5, rfl⟩ := Kd.R_slice ho5; have HO5 := Aside0.mk (Kd.R_reads' ho5).2.2; have HB5 := Aside0.mk hb5; clear ho5 hb5 hg5 hat5 HC4 HB4 HO4)
      have hall := HALL.out
      have hlen5 : ([id] ++ globsOf L x.sp L.length ++ groupOf L root).length ≤ 40 := by rw [List.length_append, List.length_append, HPL.out]; omega
      have HWF5 := Aside0.mk (HPW.out)
      have hal := HAL.out
      rw [hal] at hall hlen5 HWF5
      have HRES := Aside0.mk hall
      clear hall hal HAL HALL HPW HPL
      have HN5 := Aside0.mk (OnceV.new w5 w5 (Below.refl _ _))
      have HBA5 := Aside0.mk (below_alloc (Below.refl w5.heap.size w5) (.cells #[.slice none 0 0, .map none] 105))
      obtain ⟨w6, hw6⟩ : ∃ w6, w6 = w5.alloc (.cells #[.slice none 0 0, .map none] 105) := ⟨_, rfl⟩
      rw [← hw6] at HN5 HBA5 ⊢
      clear hw6
      go_loopw [44] (fun v44 wr => ∃ i : Nat, i ≤ all.length ∧ v44 = .int .i64 i ∧ Aside0 (∃ vs, OnceV w5.heap.size wr w5.heap.size vs (addAll [] (all.take i))) ∧ Aside0 (Below w5.heap.size w5 wr)) (fun v44 _ => all.length - (intOf v44).toNat)
      case atStart => exact ⟨0, by omega, rfl, ⟨_, by simpa [addAll] using HN5.out⟩, HBA5⟩
      case round =>
        obtain ⟨i, hi, rfl, HON, HB⟩ := hrel
        by_cases hlt : (i : Int) < all.length
        · have hin : i < all.length := by omega
          obtain ⟨ad, rfl, hp⟩ := int_at HO5.out i hin
          replace hp := (HB.out.cell (World.block_lt_of_cell? w5 _ hp)).trans hp
          obtain ⟨vs, hon⟩ := HON.out
          have hsn := addAll_snoc [] (all.take i) all[i]
          rw [← List.take_succ_eq_append_getElem hin] at hsn
          have hadd := add_calls w5 wr w5.heap.size vs (addAll [] (all.take i)) all[i] hon HB.out (HWF5.out _ (List.getElem_mem hin)) (by have := addAll_len [] (all.take i); have := List.length_take_le i all; simp only [List.length_nil] at *; omega)
          rw [← hsn] at hadd
          obtain ⟨y, hy⟩ : ∃ y, all[i] = y := ⟨_, rfl⟩
          rw [hy] at hp hadd
          have HADD := Aside0.mk hadd
          clear hadd hsn hy hon HON HB
          go_wp2_with fail
          refine HADD.out.mono ?_
          rintro e w7 ⟨rfl, vs', g1, g2, g3⟩
          have HON := Aside0.mk g1
          have HB := Aside0.mk g3
          clear g1 g2 g3 HADD hp
          go_wp2
          refine ⟨⟨i + 1, by omega, by simp, ⟨vs', HON.out⟩, HB⟩, ?_⟩
          simp only [intOf]
          omega
        · obtain rfl : i = all.length := by omega
          obtain ⟨vs, hon⟩ := HON.out
          rw [List.take_length] at hon
          obtain ⟨mv, q1, q2, q3, q4⟩ := hon.out
          have hc0 : wr.cell? ⟨w5.heap.size, 0, none⟩ = some vs := (blk_cell q1 0).trans rfl
          have HQ3 := Aside0.mk q3
          clear hon HON q1 q2 q3 q4
          go_wp2
          go_ret
          rw [HRS.out.symm.trans HRES.out]
          exact ⟨_, rfl, Kd.R_lower HQ3.out HB5.out.size, below_then HB5.out HB5.out.size HB.out⟩
    | false =>
      have HALL : Aside0 (orderOf L id root = addAll [] ([] ++ globsOf L x.sp L.length ++ groupOf L root)) := ⟨by rw [orderOf, hx]; simp only [hsyx]; rfl⟩
      have HPW := Aside0.mk (all_wf (L := L) (root := root) (sp := x.sp) (pre := []) hL (by simp))
      have HPL : Aside0 (([] : List Int).length = 0) := ⟨rfl⟩
      have HA : Aside0 ((Kd.int .i64).R 3 w1 w1.heap.size (fun _ => True) (.slice none 0 0) ([] : List Int)) := ⟨Kd.R_nil _ _ _ _ _⟩
      have HBA := Aside0.mk (Below.refl w1.heap.size w1)
      rw [hsyx] at hsy
      clear hx hI hsyx
      go_wp2_with fail
      refine (globals_calls w1 bt L x.sp (HT.out.below HBA.out) (by omega)).mono ?_
      rintro e w2 ⟨v2, rfl, hv2, hb2⟩
      obtain ⟨A2, c2, rfl⟩ := Kd.R_slice hv2
      have HC2 := Aside0.mk (Kd.R_reads' hv2).2.2
      have HB2 := Aside0.mk (below_then HBA.out HBA.out.size hb2)
      have HA2 := Aside0.mk (Kd.R_below HA.out hb2)
      have hsz2 := HB2.out.size
      clear hv2 hb2 HBA HA
      go_wp2_with ((with_reducible refine gate_builtin (b := .append) (xs := #[.tmp 27, .tmp 33]) rfl ?_); at_builtin; refine Kd.R_append_row (Value.int .i64) (0 : Int) (w0 := w1) w1.heap.size rfl (.tmp 27) (.tmp 33) 31 3 (.int .i64 0) 8 rfl Try.underlying31 info3 rfl (by decide) (.slice none 0 0) ([] : List Int) (globsOf L x.sp L.length) A2 _ c2 (fun _ => True) rfl rfl (fun _ _ => trivial) HA2.out HC2.out HB2.out hsz2 (by rw [HPL.out]; omega) ?_; intro v3 w3 ho3 hb3 hg3 hat3; have HO3 := Aside0.mk ho3; have HB3 := Aside0.mk hb3; clear ho3 hb3 hg3 hat3 HC2 HB2 HA2)
      refine (group_calls w3 bt L root (HT.out.below HB3.out) hL HN.out hr).mono ?_
      rintro e w4 ⟨v4, rfl, hv4, hb4⟩
      obtain ⟨A4, c4, rfl⟩ := Kd.R_slice hv4
      have HC4 := Aside0.mk (Kd.R_reads' hv4).2.2
      have HB4 := Aside0.mk (below_then HB3.out HB3.out.size hb4)
      have HO4 := Aside0.mk (Kd.R_below HO3.out hb4)
      have hsz4 := HB4.out.size
      clear hv4 hb4 HB3 HO3
      obtain ⟨all, HAL⟩ : ∃ all, Aside0 (([] : List Int) ++ globsOf L x.sp L.length ++ groupOf L root = all) := ⟨_, ⟨rfl⟩⟩
      go_wp2_with ((with_reducible refine gate_builtin (b := .append) (xs := #[.tmp 35, .tmp 38]) rfl ?_); at_builtin; refine Kd.R_append_row (Value.int .i64) (0 : Int) (w0 := w1) w1.heap.size rfl (.tmp 35) (.tmp 38) 31 3 (.int .i64 0) 8 rfl Try.underlying31 info3 rfl (by decide) v3 (([] : List Int) ++ globsOf L x.sp L.length) (groupOf L root) A4 _ c4 (fun _ => True) rfl rfl (fun _ _ => trivial) HO4.out HC4.out HB4.out hsz4 (by rw [List.length_append, HPL.out]; omega) ?_; intro v5 w5 ho5 hb5 hg5 hat5; rw [HAL.out] at ho5; obtain ⟨A5, c5, rfl⟩ := Kd.R_slice ho5; have HO5 := Aside0.mk (Kd.R_reads' ho5).2.2; have HB5 := Aside0.mk hb5; clear ho5 hb5 hg5 hat5 HC4 HB4 HO4)
      have hall := HALL.out
      have hlen5 : (([] : List Int) ++ globsOf L x.sp L.length ++ groupOf L root).length ≤ 40 := by rw [List.length_append, List.length_append, HPL.out]; omega
      have HWF5 := Aside0.mk (HPW.out)
      have hal := HAL.out
      rw [hal] at hall hlen5 HWF5
      have HRES := Aside0.mk hall
      clear hall hal HAL HALL HPW HPL
      have HN5 := Aside0.mk (OnceV.new w5 w5 (Below.refl _ _))
      have HBA5 := Aside0.mk (below_alloc (Below.refl w5.heap.size w5) (.cells #[.slice none 0 0, .map none] 105))
      obtain ⟨w6, hw6⟩ : ∃ w6, w6 = w5.alloc (.cells #[.slice none 0 0, .map none] 105) := ⟨_, rfl⟩
      rw [← hw6] at HN5 HBA5 ⊢
      clear hw6
      go_loopw [44] (fun v44 wr => ∃ i : Nat, i ≤ all.length ∧ v44 = .int .i64 i ∧ Aside0 (∃ vs, OnceV w5.heap.size wr w5.heap.size vs (addAll [] (all.take i))) ∧ Aside0 (Below w5.heap.size w5 wr)) (fun v44 _ => all.length - (intOf v44).toNat)
      case atStart => exact ⟨0, by omega, rfl, ⟨_, by simpa [addAll] using HN5.out⟩, HBA5⟩
      case round =>
        obtain ⟨i, hi, rfl, HON, HB⟩ := hrel
        by_cases hlt : (i : Int) < all.length
        · have hin : i < all.length := by omega
          obtain ⟨ad, rfl, hp⟩ := int_at HO5.out i hin
          replace hp := (HB.out.cell (World.block_lt_of_cell? w5 _ hp)).trans hp
          obtain ⟨vs, hon⟩ := HON.out
          have hsn := addAll_snoc [] (all.take i) all[i]
          rw [← List.take_succ_eq_append_getElem hin] at hsn
          have hadd := add_calls w5 wr w5.heap.size vs (addAll [] (all.take i)) all[i] hon HB.out (HWF5.out _ (List.getElem_mem hin)) (by have := addAll_len [] (all.take i); have := List.length_take_le i all; simp only [List.length_nil] at *; omega)
          rw [← hsn] at hadd
          obtain ⟨y, hy⟩ : ∃ y, all[i] = y := ⟨_, rfl⟩
          rw [hy] at hp hadd
          have HADD := Aside0.mk hadd
          clear hadd hsn hy hon HON HB
          go_wp2_with fail
          refine HADD.out.mono ?_
          rintro e w7 ⟨rfl, vs', g1, g2, g3⟩
          have HON := Aside0.mk g1
          have HB := Aside0.mk g3
          clear g1 g2 g3 HADD hp
          go_wp2
          refine ⟨⟨i + 1, by omega, by simp, ⟨vs', HON.out⟩, HB⟩, ?_⟩
          simp only [intOf]
          omega
        · obtain rfl : i = all.length := by omega
          obtain ⟨vs, hon⟩ := HON.out
          rw [List.take_length] at hon
          obtain ⟨mv, q1, q2, q3, q4⟩ := hon.out
          have hc0 : wr.cell? ⟨w5.heap.size, 0, none⟩ = some vs := (blk_cell q1 0).trans rfl
          have HQ3 := Aside0.mk q3
          clear hon HON q1 q2 q3 q4
          go_wp2
          go_ret
          rw [HRS.out.symm.trans HRES.out]
          exact ⟨_, rfl, Kd.R_lower HQ3.out HB5.out.size, below_then HB5.out HB5.out.size HB.out⟩
  · subst hw1
    have ho : res = [] := HRS.out.symm.trans (by rw [orderOf, hx])
    have HO := Aside0.mk ho
    clear ho hx HRS
    go_wp2
    go_ret
    rw [HO.out]
    exact ⟨_, rfl, Kd.R_nil _ _ _ _ _, Below.refl _ _⟩
end Go.Proofs.Ytmcihkfbgcfccaa.H
