/- (*Table).Need. -/
import Derived.Test.YtmcihkfbgcfccaaHAdd
namespace Go.Proofs.Ytmcihkfbgcfccaa.H
open Go.RowKit Go.Proofs.Ytmcihkfbgcfccaa.Z Go.Proofs.YtmcihkfbgcfccaaW.PrintWords Go.Proofs.YtmcihkfbgcfccaaW.PrintLast Go.Proofs.YtmcihkfbgcfccaaW.PrintMore
set_option linter.unusedVariables false
set_option linter.unusedSimpArgs false
theorem look_range (n : Nat) (g : Nat → Nat) (i : Nat) (h : i < n) : look ((List.range n).map g) ((i : Int) + 1) = some (g i) := by
  unfold look
  rw [if_pos (by omega), show ((i : Int) + 1 - 1).toNat = i by omega]
  simp [h]
/-- An instance that needs one more. -/
def moreNeed (L : List Ins) (i o : Nat) : List Ins := match L[i]? with
  | some x => L.set i { x with needs := x.needs ++ [(o : Int) + 1] }
  | none => L
theorem moreNeed_len (L : List Ins) (i o : Nat) : (moreNeed L i o).length = L.length := by
  unfold moreNeed
  split <;> simp
theorem moreNeed_at {L : List Ins} {i o k : Nat} {x : Ins} (h : (moreNeed L i o)[k]? = some x) (hi : i < L.length) : if k = i then ∃ y, L[k]? = some y ∧ x = { y with needs := y.needs ++ [(o : Int) + 1] } else L[k]? = some x := by
  unfold moreNeed at h
  rw [List.getElem?_eq_getElem hi] at h
  simp only at h
  by_cases hk : k = i
  · subst hk
    rw [if_pos rfl]
    rw [List.getElem?_set_self hi] at h
    injection h with h
    exact ⟨_, List.getElem?_eq_getElem hi, h.symm⟩
  · rw [if_neg hk]
    rwa [List.getElem?_set_ne (Ne.symm hk)] at h
theorem need_end {w0 W w8 : World} {bt : Nat} {L : List Ins} {s : Nat → Option Addr × Nat} {S : Nat → Prop} {bm : Nat} {vI v6 : Value} {g : Nat → Nat} {nv : Nat → Value} {i o : Nat} {x : Ins} (hT : TabO w0 W bt L s S) (hi : L[i]? = some x)
    (h1 : W.heap[bt]? = some (.cells #[.int .i64 12, .int .i64 (L.length + 1), vI, .map (some bm)] 114 (0, 0))) (h2 : TabMap W bm ((List.range L.length).map g)) (h3 : kP.R 52 W w0.heap.size (fun _ => True) vI ((List.range L.length).map g))
    (h4 : w0.heap.size ≤ bt) (h5 : w0.heap.size ≤ bm)
    (h6 : ∀ k x, L[k]? = some x → W.heap[g k]? = some (.cells (instT (k + 1) x.sp x.sy x.vd (.slice (s k).1 x.syms.length (s k).2) (nv k) x.gl) 74 (0, 0)) ∧ (Kd.int .i64).R 3 W w0.heap.size (fun _ => True) (nv k) x.needs)
    (h7 : ∀ j, j < L.length → w0.heap.size ≤ g j) (h8 : ∀ j k, j < L.length → k < L.length → j ≠ k → g j ≠ g k) (h9 : ∀ j k, j < L.length → k < L.length → j ≠ k → ∀ b, (nv j).ownBlock = some b → (nv k).ownBlock ≠ some b)
    (h10 : ∀ k, S k ↔ (k = bt ∨ k = bm ∨ vI.ownBlock = some k ∨ (∃ j, j < L.length ∧ g j = k) ∨ ∃ j, j < L.length ∧ (nv j).ownBlock = some k))
    (hp : w8.heap[g i]? = some (.cells (instT (i + 1) x.sp x.sy x.vd (.slice (s i).1 x.syms.length (s i).2) v6 x.gl) 74 (0, 0))) (hrow : (Kd.int .i64).R 3 w8 w0.heap.size (fun _ => True) v6 (x.needs ++ [(o : Int) + 1]))
    (hk : ∀ k, k < W.heap.size → k ≠ g i → some k ≠ (nv i).ownBlock → w8.heap[k]? = W.heap[k]?) (hb : Below w0.heap.size w0 w8) (hsz : W.heap.size ≤ w8.heap.size)
    (hat : v6.ownBlock = (nv i).ownBlock ∨ ∃ b, v6.ownBlock = some b ∧ W.heap.size ≤ b) :
    ∃ S', TabO w0 w8 bt (moreNeed L i o) s S' ∧ Kept W w8 S ∧ ∀ k, S' k → S k ∨ W.heap.size ≤ k := by
  have hil : i < L.length := (List.getElem?_eq_some_iff.1 hi).1
  obtain ⟨hgi, hni⟩ := h6 i x hi
  have hnity := Kd.R_typed hni
  have notn : ∀ {k q : Nat} {cells : Array Value}, W.heap[k]? = some (.cells cells q (0, 0)) → q ≠ 3 → some k ≠ (nv i).ownBlock := fun hc hq e => by
    obtain ⟨cells', hc'⟩ := hnity _ e.symm
    rw [hc] at hc'
    injection hc' with hc'
    injection hc' with _ hc' _
    exact hq hc'
  have notg : ∀ {k q : Nat} {cells : Array Value}, W.heap[k]? = some (.cells cells q (0, 0)) → q ≠ 74 → k ≠ g i := fun hc hq e => by
    rw [e, hgi] at hc
    injection hc with hc
    injection hc with _ hc _
    exact hq hc.symm
  have kbt : w8.heap[bt]? = W.heap[bt]? := hk bt (heap_lt_of h1) (notg h1 (by decide)) (notn h1 (by decide))
  have kbm : w8.heap[bm]? = W.heap[bm]? := by
    obtain ⟨D, g1, ⟨es, clock, g2, g3⟩, g4⟩ := h2
    refine hk bm (heap_lt_of g2) (fun e => ?_) (fun e => ?_)
    · rw [e, hgi] at g2
      injection g2 with g2
      cases g2
    · obtain ⟨cells', hc'⟩ := hnity _ e.symm
      rw [g2] at hc'
      injection hc' with hc'
      cases hc'
  have kI : ∀ k, vI.ownBlock = some k → w8.heap[k]? = W.heap[k]? := fun k hkk => by
    obtain ⟨cells, hc⟩ := Kd.R_typed h3 k hkk
    exact hk k (heap_lt_of hc) (notg hc (by decide)) (notn hc (by decide))
  have kg : ∀ k, k < L.length → k ≠ i → w8.heap[g k]? = W.heap[g k]? := fun k hkl hne => by
    have hc := (h6 k L[k] (List.getElem?_eq_getElem hkl)).1
    exact hk _ (heap_lt_of hc) (h8 k i hkl hil hne) (notn hc (by decide))
  have kn : ∀ k b, k < L.length → k ≠ i → (nv k).ownBlock = some b → w8.heap[b]? = W.heap[b]? := fun k b hkl hne hb1 => by
    obtain ⟨cells, hc⟩ := Kd.R_typed (h6 k L[k] (List.getElem?_eq_getElem hkl)).2 b hb1
    exact hk b (heap_lt_of hc) (notg hc (by decide)) (fun e => h9 k i hkl hil hne b hb1 e.symm)
  have hml := moreNeed_len L i o
  refine ⟨fun k => k = bt ∨ k = bm ∨ vI.ownBlock = some k ∨ (∃ j, j < L.length ∧ g j = k) ∨ ∃ j, j < L.length ∧ (if j = i then v6 else nv j).ownBlock = some k, ⟨hb, fun k y hy => ?_, bm, vI, g, fun k => if k = i then v6 else nv k, ?_, ?_, ?_, h4, h5, fun k y hy => ?_, ?_, ?_, ?_, ?_⟩, ⟨hsz, fun k hlt hn => ?_⟩, fun k hk' => ?_⟩
  · have := moreNeed_at hy hil
    by_cases hki : k = i
    · rw [if_pos hki] at this
      obtain ⟨z, hz, rfl⟩ := this
      exact hT.syms k z hz
    · rw [if_neg hki] at this
      exact hT.syms k y this
  · rw [hml]
    exact kbt.trans h1
  · rw [hml]
    exact h2.kept kbm
  · rw [hml]
    exact Kd.R_mono (Kd.R_step (Kd.R_tight rfl h3) (fun k hk' _ => kI k hk'.symm)) (fun _ _ => trivial)
  · have := moreNeed_at hy hil
    by_cases hki : k = i
    · rw [if_pos hki] at this
      obtain ⟨z, hz, rfl⟩ := this
      subst hki
      rw [hi] at hz
      injection hz with hz
      subst hz
      simp only [if_true]
      exact ⟨hp, hrow⟩
    · rw [if_neg hki] at this
      simp only [if_neg hki]
      have hkl := (List.getElem?_eq_some_iff.1 this).1
      obtain ⟨q1, q2⟩ := h6 k y this
      exact ⟨(kg k hkl hki).trans q1, row_own q2 (fun b hb1 _ => kn k b hkl hki hb1)⟩
  · rw [hml]
    exact h7
  · rw [hml]
    exact h8
  · rw [hml]
    intro j k hj hk' hne b hb1
    have hold : ∀ m c, m < L.length → m ≠ i → (nv m).ownBlock = some c → v6.ownBlock ≠ some c := fun m c hm hmi hc e => by
      rcases hat with hat | ⟨b', hb', hle⟩
      · rw [hat] at e
        exact h9 m i hm hil hmi c hc e
      · rw [hb'] at e
        injection e with e
        obtain ⟨cells, hcc⟩ := Kd.R_typed (h6 m L[m] (List.getElem?_eq_getElem hm)).2 c hc
        have := heap_lt_of hcc
        omega
    by_cases h0 : j = i
    · simp only [if_pos h0] at hb1
      by_cases h00 : k = i
      · omega
      · simp only [if_neg h00]
        exact fun e => hold k b hk' h00 e hb1
    · simp only [if_neg h0] at hb1
      by_cases h00 : k = i
      · simp only [if_pos h00]
        exact hold j b hj h0 hb1
      · simp only [if_neg h00]
        exact h9 j k hj hk' hne b hb1
  · rw [hml]
    exact fun _ => Iff.rfl
  · exact hk k hlt (fun e => hn ((h10 k).2 (.inr (.inr (.inr (.inl ⟨i, hil, e.symm⟩)))))) (fun e => hn ((h10 k).2 (.inr (.inr (.inr (.inr ⟨i, hil, e.symm⟩))))))
  · rcases hk' with h | h | h | h | ⟨j, hj, h⟩
    · exact .inl ((h10 k).2 (.inl h))
    · exact .inl ((h10 k).2 (.inr (.inl h)))
    · exact .inl ((h10 k).2 (.inr (.inr (.inl h))))
    · exact .inl ((h10 k).2 (.inr (.inr (.inr (.inl h)))))
    · by_cases h0 : j = i
      · rw [if_pos h0] at h
        rcases hat with hat | ⟨b', hb', hle⟩
        · exact .inl ((h10 k).2 (.inr (.inr (.inr (.inr ⟨i, hil, hat ▸ h⟩)))))
        · rw [hb'] at h
          injection h with h
          exact .inr (by omega)
      · rw [if_neg h0] at h
        exact .inl ((h10 k).2 (.inr (.inr (.inr (.inr ⟨j, hj, h⟩)))))
set_option maxRecDepth 100000 in
set_option maxHeartbeats 2000000 in
theorem needT_calls (w0 W : World) (bt : Nat) (L : List Ins) (s : Nat → Option Addr × Nat) (S : Nat → Prop) (h : TabO w0 W bt L s S) (hl : L.length ≤ 12) (i o : Nat) (x : Ins) (hi : L[i]? = some x) (ho : o < L.length) (hn : x.needs.length ≤ 1000) :
    Calls Try.prog 29 #[.pointer (some ⟨bt, 0, none⟩), .int .i64 ((i : Int) + 1), .int .i64 ((o : Int) + 1)] W fun e W' => e = .returned (.bool true) ∧
      ∃ S', TabO w0 W' bt (moreNeed L i o) s S' ∧ Kept W W' S ∧ ∀ k, S' k → S k ∨ W.heap.size ≤ k := by
  have HT := Aside0.mk h
  obtain ⟨bm, vI, g, nv, h1, h2, h3, h4, h5, h6, h7, h8, h9, h10⟩ := h.out
  have hil : i < L.length := (List.getElem?_eq_some_iff.1 hi).1
  obtain ⟨hgi, hni⟩ := h6 i x hi
  obtain ⟨nA, nc, hnv⟩ := Kd.R_slice hni
  have HEND := Aside0.mk (fun (w8 : World) (v6 : Value) => need_end (w8 := w8) (v6 := v6) (o := o) h hi h1 h2 h3 h4 h5 h6 h7 h8 h9 h10)
  have hget1 := get_calls W bt bm _ _ _ _ ((i : Int) + 1) h1 h2 (wf_small (by omega) (by omega))
  have hget2 := get_calls W bt bm _ _ _ _ ((o : Int) + 1) h1 h2 (wf_small (by omega) (by omega))
  rw [look_range _ _ _ hil, show ptrV (some (g i)) = .pointer (some ⟨g i, 0, none⟩) from rfl] at hget1
  rw [look_range _ _ _ ho, show ptrV (some (g o)) = .pointer (some ⟨g o, 0, none⟩) from rfl] at hget2
  have HG1 := Aside0.mk hget1
  have HG2 := Aside0.mk hget2
  have HI := Aside0.mk hgi
  have hbase := h.below.size
  have hgib := h7 i hil
  rw [hnv] at hni hgi HEND
  have HN := Aside0.mk hni
  have z67 : W.cell? ⟨g i, 67, none⟩ = some (.slice nA x.needs.length nc) := (blk_cell hgi 67).trans rfl
  have f67 := blk_frozen hgi 67
  have HGI := Aside0.mk hgi
  have HO := Aside0.mk ho
  clear h h1 h2 h3 h4 h5 h6 h7 h8 h9 h10 hget1 hget2 hni hgi HI hnv hi ho
  go_enter Try.func29, Try.ntmps29
  go_wp2_with fail
  refine HG1.out.mono ?_
  rintro e w' ⟨rfl, hw'⟩
  rw [hw']
  clear hw' w'
  go_wp2_with fail
  refine HG2.out.mono ?_
  rintro e w' ⟨rfl, hw'⟩
  rw [hw']
  clear hw' w'
  go_wp2_with ((with_reducible refine gate_builtin (b := .append) (xs := #[.tmp 23, .tmp 25]) rfl ?_); at_builtin; refine Kd.R_append (Kd.int .i64) (w0 := w0) w0.heap.size rfl (.tmp 23) (.tmp 25) 31 3 (.int .i64 0) 8 rfl Try.underlying31 info3 rfl (by decide) (by omega) (.slice nA x.needs.length nc) x.needs ((o : Int) + 1) [.int .i64 ((o : Int) + 1)] (fun _ => True) (fun _ => False) rfl rfl ?aP (fun _ hk => hk.elim) ?aF ?aO ?aB ?aS ?aL ?_; (case aP => exact rfl); (case aB => exact HT.out.below); (case aF => exact (fun _ _ => trivial)); (case aO => exact HN.out); (case aS => exact hbase); (case aL => omega); intro v5 w5 ho hb hg hat; obtain ⟨A5, c5, rfl⟩ := Kd.R_slice ho; have HGI5 := Aside0.mk (blk_grown HGI.out hg (Kd.R_ne HN.out HGI.out (by decide))); have HO5 := Aside0.mk ho; have HB5 := Aside0.mk hb; have HG5 := Aside0.mk hg; have HAT5 := Aside0.mk hat; clear ho hb hg hat; have z67' : w5.cell? ⟨g i, 67, none⟩ = some (.slice nA x.needs.length nc) := (blk_cell HGI5.out 67).trans rfl; have f67' := blk_frozen HGI5.out 67; clear z67 f67)
  go_ret
  have hl5 : (x.needs ++ [(o : Int) + 1]).length = x.needs.length + 1 := by simp
  have hO := HO5.out
  have hA := HAT5.out
  rw [hl5] at hO hA
  refine ⟨rfl, HEND.out _ (.slice A5 (x.needs.length + 1) c5) ?_ ?_ ?_ ?_ ?_ hA⟩
  · exact blk_set HGI5.out 67 _
  · exact Kd.R_set hO HGI5.out (by decide) 67 _
  · intro k hk h1 h2
    rw [Below.heap_setCell _ ⟨g i, 67, none⟩ _ _ h1]
    exact HG5.out.block k hk h2
  · exact HB5.out.setCell (p := ⟨g i, 67, none⟩) hgib _
  · rw [World.size_setCell]
    exact HG5.out.size
end Go.Proofs.Ytmcihkfbgcfccaa.H
