/- scope.Resolve. -/
import Derived.Test.YtmcihkfbgcfccaaHOrder
import Derived.Test.YtmcihkfbgcfccaaHIn
namespace Go.Proofs.Ytmcihkfbgcfccaa.H
open Go.RowKit Go.Proofs.Ytmcihkfbgcfccaa.Z Go.Proofs.YtmcihkfbgcfccaaW.PrintWords Go.Proofs.YtmcihkfbgcfccaaW.PrintLast Go.Proofs.YtmcihkfbgcfccaaW.PrintMore
set_option linter.unusedVariables false
set_option linter.unusedSimpArgs false
/-- Where the symbol of a number of an instance is. -/
def resOf (k : Nat) (L : List Ins) (id root sym : Int) : Option (Int × Int × Bool × Int) :=
  match insAt L id with
  | none => some (0, 0, false, 230)
  | some x => if sym < 0 ∨ sym ≥ x.syms.length then some (0, 0, false, 230) else
    if sym = 0 then some (0, 0, false, 0) else
    if (rd_T76 x.syms sym).f4 = true ∧ (rd_T76 x.syms sym).f3 = 0 then some (id, sym, true, 0) else
    (inGo k L (rd_T76 x.syms sym).f0 (rd_T76 x.syms sym).f1 (orderOf L id root)).bind fun p =>
      if p.2.2 = true then some (p.1, p.2.1, true, 0) else if (rd_T76 x.syms sym).f3 = 2 then some (0, 0, false, 0) else some (0, 0, false, 230)
theorem res_results (tmps : Array Value) (W : World) (g : Nat) (c0 c1 : Value) (r e : Value) (hp : tmps[8]? = some (.pointer (some ⟨g, 0, none⟩))) (hr : tmps[9]? = some r) (he : tmps[10]? = some e) (hg : W.heap[g]? = some (.cells #[c0, c1] 41 (0, 0))) :
    (results Try.f18 tmps).run Try.prog W = .ok (.tuple #[.agg #[c0, c1], r, e]) W := by
  have h : Try.f18.results = #[.cell 8 41, .tmp 9, .tmp 10] := rfl
  have hl := run_loadVar_row (P := Try.prog) W g 41 41 #[c0, c1] (0, 0) _ hg Try.underlying41 rfl (by kernel_rfl)
  simp [results, h, hp, hr, he, asAddr, hl]
noncomputable def res_T9 : Bool × List (List Nat × List Nat) := rtab .any (opsOf Try.f18 9)
theorem res_tab9 : rtab .any (opsOf Try.f18 9) = res_T9 := rfl
def res_B9 : List Nat := [0, 0, 0, 0, 14, 0, 32, 0, 128, 511, 1023, 2047, 2047, 0, 12287, 32767]
theorem res_bits9 : waitsOk res_T9.2 res_B9 = true := by kernel_rfl
theorem addAll_mem : ∀ (ys xs : List Int) (y : Int), y ∈ addAll xs ys → y ∈ xs ∨ y ∈ ys
  | [], xs, y, h => .inl h
  | z :: ys, xs, y, h => by
    rcases addAll_mem ys (addTo xs z) y h with h | h
    · rcases addTo_mem h with h | rfl
      · exact .inl h
      · exact .inr (by simp)
    · exact .inr (by simp [h])
theorem order_bd {L : List Ins} {id root : Int} (hL : L.length ≤ 12) (hid : (Lit.int .i64 id).wf = true) : (∀ x ∈ orderOf L id root, (Lit.int .i64 x).wf = true) ∧ (orderOf L id root).length ≤ 1000000 := by
  unfold orderOf
  split
  · simp
  · rename_i x _
    constructor
    · intro y hy
      rcases addAll_mem _ _ y hy with h | h
      · simp at h
      · refine all_wf (L := L) (root := root) (sp := x.sp) (pre := if x.sy = true then [id] else []) hL (fun z hz => ?_) y h
        split at hz
        · simp at hz; subst hz; exact hid
        · simp at hz
    · have h1 := addAll_len [] ((if x.sy = true then [id] else []) ++ globsOf L x.sp L.length ++ groupOf L root)
      have h2 := globsOf_len L x.sp L.length
      have h3 : (groupOf L root).length ≤ L.length + 2 := bfsGo_len L (L.length + 2) [root] 0
      have h4 : (if x.sy = true then [id] else []).length ≤ 1 := by split <;> simp
      simp only [List.length_append, List.length_nil] at h1
      omega
set_option maxRecDepth 100000 in
set_option maxHeartbeats 2000000 in
theorem resolve_calls (k : Nat) (w : World) (bt : Nat) (L : List Ins) (id root sym : Int) (r1 r2 : Int) (r3 : Bool) (r4 : Int) (hT : TabR w bt L) (hL : L.length ≤ 12) (hneeds : ∀ x ∈ L, x.needs.length ≤ 1000 ∧ ∀ y ∈ x.needs, 1 ≤ y ∧ y ≤ L.length) (hid : (Lit.int .i64 id).wf = true) (hr : (Lit.int .i64 root).wf = true)
    (hres : resOf k L id root sym = some (r1, r2, r3, r4)) :
    Calls Try.prog 18 #[.pointer (some ⟨bt, 0, none⟩), .int .i64 id, .int .i64 root, .int .i64 sym] w fun e w' => e = .returned (.tuple #[.agg #[.int .i64 r1, .int .i64 r2], .bool r3, .int .i64 r4]) ∧ Below w.heap.size w w' := by
  have HT := Aside0.mk hT
  have HN := Aside0.mk hneeds
  have HRES := Aside0.mk hres
  clear hT hneeds hres
  obtain ⟨wb, hwb⟩ : ∃ wb, wb = w.alloc (.cells #[.int .i64 0, .int .i64 0] 41) := ⟨_, rfl⟩
  have hbl : wb.heap[w.heap.size]? = some (.cells #[.int .i64 0, .int .i64 0] 41 (0, 0)) := by rw [hwb]; exact heap_alloc_new w _
  have HBL := Aside0.mk hbl
  have HBW := Aside0.mk (show Below w.heap.size w wb by rw [hwb]; exact below_alloc (Below.refl _ _) _)
  have HWB := Aside0.mk hwb
  have hy0 := (blk_cell hbl 0).trans rfl
  have hy1 := (blk_cell hbl 1).trans rfl
  have hf0 := blk_frozen hbl 0
  have hf1 := blk_frozen hbl 1
  clear hbl hwb
  go_enter Try.func18, Try.ntmps18
  go_wp2_with fail
  rw [← HWB.out]
  refine (get_T wb bt L id (HT.out.below HBW.out) hid).mono ?_
  rintro e w1 ⟨hw1, ⟨b, x, rfl, hx, hI⟩ | ⟨rfl, hx⟩⟩
  · subst hw1
    obtain ⟨sA, sc, nA, nc, i1, i2, i3, i4, i5⟩ := hI.out
    have hs62 : w1.cell? ⟨b, 62, none⟩ = some (.slice sA x.syms.length sc) := (blk_cell i1 62).trans rfl
    have HSC := Aside0.mk i2
    have hR := HRES.out
    rw [resOf, hx] at hR
    simp only at hR
    clear i1 i2 i4 i5 hI hx
    by_cases c1 : sym < 0 ∨ sym ≥ x.syms.length
    · rw [if_pos c1] at hR
      simp only [Option.some.injEq, Prod.mk.injEq] at hR
      obtain ⟨rfl, rfl, rfl, rfl⟩ := hR
      have hs := blk_set (blk_set HBL.out 0 (.int .i64 0)) 1 (.int .i64 0)
      have HS := Aside0.mk hs
      clear hs
      by_cases c2 : sym < 0
      · clear c1
        go_wp2
        refine bodyPost_ret (res_results _ _ w.heap.size (.int .i64 0) (.int .i64 0) _ _ rfl rfl rfl (by simpa using HS.out)) rfl ⟨rfl, ?_⟩
        exact (HBW.out.setCell (p := ⟨w.heap.size, 0, none⟩) (Nat.le_refl _) _).setCell (p := ⟨w.heap.size, 1, none⟩) (Nat.le_refl _) _
      · have c3 : (x.syms.length : Int) ≤ sym := by omega
        clear c1
        go_wp2
        refine bodyPost_ret (res_results _ _ w.heap.size (.int .i64 0) (.int .i64 0) _ _ rfl rfl rfl (by simpa using HS.out)) rfl ⟨rfl, ?_⟩
        exact (HBW.out.setCell (p := ⟨w.heap.size, 0, none⟩) (Nat.le_refl _) _).setCell (p := ⟨w.heap.size, 1, none⟩) (Nat.le_refl _) _
    · rw [if_neg c1] at hR
      have p1 : 0 ≤ sym := by omega
      have p2 : sym < (x.syms.length : Int) := by omega
      clear c1
      obtain ⟨ad, e0, hx0, hx1, hx2, hx3, hx4, hx5, hx6⟩ := at_T76 HSC.out sym p1 p2
      subst e0
      rcases hS : rd_T76 x.syms sym with ⟨nm, ver, hdn, bd, df, vl, sz⟩
      rw [hS] at hx0 hx1 hx2 hx3 hx4 hx5 hx6 hR
      simp only at hx0 hx1 hx2 hx3 hx4 hx5 hx6 hR
      have HR2 := Aside0.mk hR
      clear hR hS
      go_upto_region 5 with (fail)
      obtain ⟨w2, hw2⟩ : ∃ w2, w2 = w1.alloc (.cells #[.string nm, .string ver, .bool hdn, .int .i64 bd, .bool df, .int .u64 vl, .int .u64 sz] 76) := ⟨_, rfl⟩
      rw [← hw2]
      have hbk : w2.heap[w1.heap.size]? = some (.cells #[.string nm, .string ver, .bool hdn, .int .i64 bd, .bool df, .int .u64 vl, .int .u64 sz] 76 (0, 0)) := by rw [hw2]; exact heap_alloc_new w1 _
      have HB2 := Aside0.mk (show Below w1.heap.size w1 w2 by rw [hw2]; exact below_alloc (Below.refl _ _) _)
      have hb0 := heap_lt_of HBL.out
      have HBL2 := Aside0.mk ((HB2.out.block _ hb0).trans HBL.out)
      have HBW2 := Aside0.mk (below_then HBW.out HBW.out.size HB2.out)
      clear hw2 hx0 hx1 hx2 hx3 hx4 hx5 hx6 hs62 hy0 hy1 hf0 hf1
      have hy0 := (blk_cell HBL2.out 0).trans rfl
      have hy1 := (blk_cell HBL2.out 1).trans rfl
      have hf0 := blk_frozen HBL2.out 0
      have hf1 := blk_frozen HBL2.out 1
      have hz3 : w2.cell? ⟨w1.heap.size, 3, none⟩ = some (.int .i64 bd) := (blk_cell hbk 3).trans rfl
      have hz4 : w2.cell? ⟨w1.heap.size, 4, none⟩ = some (.bool df) := (blk_cell hbk 4).trans rfl
      have HBK := Aside0.mk hbk
      clear hbk
      by_cases c3 : sym = 0
      · have hR := HR2.out
        rw [if_pos c3] at hR
        simp only [Option.some.injEq, Prod.mk.injEq] at hR
        obtain ⟨rfl, rfl, rfl, rfl⟩ := hR
        have HS := Aside0.mk (blk_set (blk_set HBL2.out 0 (.int .i64 0)) 1 (.int .i64 0))
        subst c3
        clear HR2
        go_wp2
        refine bodyPost_ret (res_results _ _ w.heap.size (.int .i64 0) (.int .i64 0) _ _ rfl rfl rfl (by simpa using HS.out)) rfl ⟨rfl, ?_⟩
        exact (HBW2.out.setCell (p := ⟨w.heap.size, 0, none⟩) (Nat.le_refl _) _).setCell (p := ⟨w.heap.size, 1, none⟩) (Nat.le_refl _) _
      · have hR := HR2.out
        rw [if_neg c3] at hR
        by_cases c4 : df = true ∧ bd = 0
        · rw [if_pos c4] at hR
          simp only [Option.some.injEq, Prod.mk.injEq] at hR
          obtain ⟨rfl, rfl, rfl, rfl⟩ := hR
          obtain ⟨rfl, rfl⟩ := c4
          have HS := Aside0.mk (blk_set (blk_set HBL2.out 0 (.int .i64 id)) 1 (.int .i64 sym))
          clear HR2
          go_wp2
          refine bodyPost_ret (res_results _ _ w.heap.size (.int .i64 id) (.int .i64 sym) _ _ rfl rfl rfl (by simpa using HS.out)) rfl ⟨rfl, ?_⟩
          exact (HBW2.out.setCell (p := ⟨w.heap.size, 0, none⟩) (Nat.le_refl _) _).setCell (p := ⟨w.heap.size, 1, none⟩) (Nat.le_refl _) _
        · rw [if_neg c4] at hR
          have HR3 := Aside0.mk hR
          clear hR HR2
          have hsplit : (df = false) ∨ (df = true ∧ bd ≠ 0) := by
            cases df
            · exact .inl rfl
            · exact .inr ⟨rfl, fun e => c4 ⟨rfl, e⟩⟩
          clear c4
          rcases hsplit with rfl | ⟨rfl, c5⟩
          all_goals
            go_upto_region 9 with (fail)
            obtain ⟨⟨i, n, f⟩, hin, hR⟩ := Option.bind_eq_some_iff.mp HR3.out
            simp only at hR
            have HIN := Aside0.mk hin
            have HR4 := Aside0.mk hR
            have HOW := Aside0.mk (order_bd (L := L) (id := id) (root := root) hL hid)
            have hbkl := heap_lt_of HBK.out
            have hBd : Below w2.heap.size w2 w2.drew := below_drew1 (Below.refl _ _)
            clear hin hR HR3
            refine start_ (n := 16) (S := fun w' => Below w2.heap.size w2 w') (ds := []) #[false, false, false, false, false, false, false, false, false, false, false, false, false, false, false, false] (by kernel_rfl) rfl rfl hBd (fun hHeld => ?_); refine with_tabW res_tab9 res_bits9 (fun HT_ HW_ => ?_)
            refine pure_ (i := 0) (N := some 57) (v := ?_) (a' := ?_) #[true, false, false, false, false, false, false, false, false, false, false, false, false, false, false, false] rfl rfl (any_of HT_.out (by kernel_rfl)) (fun _ _ _ h => h) (Or.inl ⟨by rfl, ?_⟩) ?_ ?_
            rotate_left
            · intro w'
              go_simp
              with_reducible rfl
            rotate_left
            · simp only [Act.put, List.setIfInBounds_toArray, List.set_cons_zero, List.set_cons_succ, i64_w, i32_w]
              rfl
            refine pure_ (i := 1) (N := some 58) (v := ?_) (a' := ?_) #[true, true, false, false, false, false, false, false, false, false, false, false, false, false, false, false] rfl rfl (any_of HT_.out (by kernel_rfl)) (fun _ _ _ h => h) (Or.inl ⟨by rfl, ?_⟩) ?_ ?_
            rotate_left
            · intro w'
              go_simp
              with_reducible rfl
            rotate_left
            · simp only [Act.put, List.setIfInBounds_toArray, List.set_cons_zero, List.set_cons_succ, i64_w, i32_w]
              rfl
            refine pure_ (i := 2) (N := some 59) (v := ?_) (a' := ?_) #[true, true, true, false, false, false, false, false, false, false, false, false, false, false, false, false] rfl rfl (any_of HT_.out (by kernel_rfl)) (fun _ _ _ h => h) (Or.inl ⟨by rfl, ?_⟩) ?_ ?_
            rotate_left
            · intro w'
              go_simp
              with_reducible rfl
            rotate_left
            · simp only [Act.put, List.setIfInBounds_toArray, List.set_cons_zero, List.set_cons_succ, i64_w, i32_w]
              rfl
            refine pure_ (i := 3) (N := some 60) (v := ?_) (a' := ?_) #[true, true, true, true, false, false, false, false, false, false, false, false, false, false, false, false] rfl rfl (any_of HT_.out (by kernel_rfl)) (fun _ _ _ h => h) (Or.inl ⟨by rfl, ?_⟩) ?_ ?_
            rotate_left
            · intro w'
              go_simp
              with_reducible rfl
            rotate_left
            · simp only [Act.put, List.setIfInBounds_toArray, List.set_cons_zero, List.set_cons_succ, i64_w, i32_w]
              rfl
            refine pure_ (i := 5) (N := some 62) (v := ?_) (a' := ?_) #[true, true, true, true, false, true, false, false, false, false, false, false, false, false, false, false] rfl rfl (any_of HT_.out (by kernel_rfl)) (fun _ _ _ h => h) (Or.inl ⟨by rfl, ?_⟩) ?_ ?_
            rotate_left
            · intro w'
              go_simp
              with_reducible rfl
            rotate_left
            · simp only [Act.put, List.setIfInBounds_toArray, List.set_cons_zero, List.set_cons_succ, i64_w, i32_w]
              rfl
            refine take_ (i := 6) (N := some 63) (v := ?_) (a' := ?_) #[true, true, true, true, false, true, true, false, false, false, false, false, false, false, false, false] rfl rfl (take_ofW HT_.out HW_.out (by kernel_rfl)) (fun _ _ _ h => h) (Or.inl ⟨by rfl, ?_⟩) hHeld ?_ ?_
            rotate_left
            · intro w' s0
              have q0 : w'.cell? ⟨w1.heap.size, 0, none⟩ = some (.string nm) := (s0.cell (p := ⟨w1.heap.size, 0, none⟩) hbkl).trans ((blk_cell HBK.out 0).trans rfl)
              clear s0
              go_simp
              with_reducible rfl
            rotate_left
            · simp only [Act.put, List.setIfInBounds_toArray, List.set_cons_zero, List.set_cons_succ, i64_w, i32_w]
              rfl
            refine pure_ (i := 7) (N := some 64) (v := ?_) (a' := ?_) #[true, true, true, true, false, true, true, true, false, false, false, false, false, false, false, false] rfl rfl (any_of HT_.out (by kernel_rfl)) (fun _ _ _ h => h) (Or.inl ⟨by rfl, ?_⟩) ?_ ?_
            rotate_left
            · intro w'
              go_simp
              with_reducible rfl
            rotate_left
            · simp only [Act.put, List.setIfInBounds_toArray, List.set_cons_zero, List.set_cons_succ, i64_w, i32_w]
              rfl
            refine take_ (i := 8) (N := some 65) (v := ?_) (a' := ?_) #[true, true, true, true, false, true, true, true, true, false, false, false, false, false, false, false] rfl rfl (take_ofW HT_.out HW_.out (by kernel_rfl)) (fun _ _ _ h => h) (Or.inl ⟨by rfl, ?_⟩) hHeld ?_ ?_
            rotate_left
            · intro w' s0
              have q0 : w'.cell? ⟨w1.heap.size, 1, none⟩ = some (.string ver) := (s0.cell (p := ⟨w1.heap.size, 1, none⟩) hbkl).trans ((blk_cell HBK.out 1).trans rfl)
              clear s0
              go_simp
              with_reducible rfl
            rotate_left
            · simp only [Act.put, List.setIfInBounds_toArray, List.set_cons_zero, List.set_cons_succ, i64_w, i32_w]
              rfl
            refine join_ (σ := Value × Nat) 2 #[true, true, true, true, true, true, true, true, true, true, true, true, true, true, false, false] (fun s => [(61, s.1), (66, .tuple #[.agg #[.int .i64 i, .int .i64 n], .bool f]), (56, .tuple #[.agg #[.int .i64 i, .int .i64 n], .bool f]), (67, .agg #[.int .i64 i, .int .i64 n]), (68, .bool f), (13, .pointer (some ⟨s.2, 0, none⟩))]) (fun s w' => w'.heap[s.2]? = some (.cells #[.int .i64 0, .int .i64 0] 41 (0, 0)) ∧ Below w2.heap.size w2 w' ∧ w2.heap.size ≤ s.2) ?jc (fun hJ => ?jp)
            case jc =>
              intro s w' hF
              refine norm_ (a' := ?_) ?_ ?_
              rotate_left
              · simp only [putAll, Act.put, List.setIfInBounds_toArray, List.set_cons_zero, List.set_cons_succ, i64_w, i32_w]
                rfl
              have hq0 : w'.cell? ⟨s.2, 0, none⟩ = some (.int .i64 0) := (blk_cell hF.1 0).trans rfl
              have hq1 : w'.cell? ⟨s.2, 1, none⟩ = some (.int .i64 0) := (blk_cell hF.1 1).trans rfl
              have hg0 := blk_frozen hF.1 0
              have hg1 := blk_frozen hF.1 1
              refine one_ (i := 14) (N := none) #[true, true, true, true, true, true, true, true, true, true, true, true, true, true, true, false] rfl rfl (one_of HT_.out (by kernel_rfl)) (by decide) (fun K hK => ?_)
              refine skip_ (w1 := ?_) (by rfl) rfl ?_ ?_
              rotate_left
              · go_simp
                rfl
              refine hK.out _ _ ((hF.2.1.setCell (p := ⟨s.2, 0, none⟩) hF.2.2 _).setCell (p := ⟨s.2, 1, none⟩) hF.2.2 _) (fun hHeld2 => ?_)
              clear hK K
              refine pure_ (i := 15) (N := some 14) (v := ?_) (a' := ?_) #[true, true, true, true, true, true, true, true, true, true, true, true, true, true, true, true] rfl rfl (any_of HT_.out (by kernel_rfl)) (fun _ _ _ h => h) (Or.inl ⟨by rfl, ?_⟩) ?_ ?_
              rotate_left
              · intro w'
                go_simp
                with_reducible rfl
              rotate_left
              · simp only [Act.put, List.setIfInBounds_toArray, List.set_cons_zero, List.set_cons_succ, i64_w, i32_w]
                rfl
              refine done_ (done_of HT_.out (by kernel_rfl)) ?_
              obtain ⟨w9, hw9⟩ : ∃ w9, w9 = (w'.setCell ⟨s.2, 0, none⟩ (.int .i64 i)).setCell ⟨s.2, 1, none⟩ (.int .i64 n) := ⟨_, rfl⟩
              rw [← hw9] at hHeld2 ⊢
              have hs9 := blk_set (blk_set hF.1 0 (.int .i64 i)) 1 (.int .i64 n)
              simp only [List.size_toArray, List.length_cons, List.length_nil, List.setIfInBounds_toArray, List.set_cons_zero, List.set_cons_succ] at hs9
              rw [← hw9] at hs9
              have hr0 : w9.cell? ⟨s.2, 0, none⟩ = some (.int .i64 i) := (blk_cell hs9 0).trans rfl
              have hr1 : w9.cell? ⟨s.2, 1, none⟩ = some (.int .i64 n) := (blk_cell hs9 1).trans rfl
              have HB9 := Aside0.mk hHeld2
              have HBL9 := Aside0.mk ((hHeld2.block _ (heap_lt_of HBL2.out)).trans HBL2.out)
              have HBW9 := Aside0.mk (below_then HBW2.out HBW2.out.size hHeld2)
              have hv3 : w9.cell? ⟨w1.heap.size, 3, none⟩ = some (.int .i64 bd) := (hHeld2.cell (p := ⟨w1.heap.size, 3, none⟩) hbkl).trans hz3
              clear hHeld2 hw9 hF hq0 hq1 hg0 hg1 hs9 hy0 hy1 hf0 hf1 hz3 hz4
              have hy0 := (blk_cell HBL9.out 0).trans rfl
              have hy1 := (blk_cell HBL9.out 1).trans rfl
              have hf0 := blk_frozen HBL9.out 0
              have hf1 := blk_frozen HBL9.out 1
              have hR := HR4.out
              obtain ⟨v61, g13⟩ := s
              simp only at hr0 hr1 ⊢
              cases f with
              | true =>
                rw [if_pos rfl] at hR
                simp only [Option.some.injEq, Prod.mk.injEq] at hR
                obtain ⟨rfl, rfl, rfl, rfl⟩ := hR
                have HS := Aside0.mk (blk_set (blk_set HBL9.out 0 (.int .i64 i)) 1 (.int .i64 n))
                clear HR4
                go_wp2
                refine bodyPost_ret (res_results _ _ w.heap.size (.int .i64 i) (.int .i64 n) _ _ rfl rfl rfl (by simpa using HS.out)) rfl ⟨rfl, ?_⟩
                exact (HBW9.out.setCell (p := ⟨w.heap.size, 0, none⟩) (Nat.le_refl _) _).setCell (p := ⟨w.heap.size, 1, none⟩) (Nat.le_refl _) _
              | false =>
                rw [if_neg (by simp)] at hR
                have HS := Aside0.mk (blk_set (blk_set HBL9.out 0 (.int .i64 0)) 1 (.int .i64 0))
                by_cases c6 : bd = 2
                · rw [if_pos c6] at hR
                  simp only [Option.some.injEq, Prod.mk.injEq] at hR
                  obtain ⟨rfl, rfl, rfl, rfl⟩ := hR
                  rw [c6] at hv3
                  clear HR4
                  go_wp2
                  refine bodyPost_ret (res_results _ _ w.heap.size (.int .i64 0) (.int .i64 0) _ _ rfl rfl rfl (by simpa using HS.out)) rfl ⟨rfl, ?_⟩
                  exact (HBW9.out.setCell (p := ⟨w.heap.size, 0, none⟩) (Nat.le_refl _) _).setCell (p := ⟨w.heap.size, 1, none⟩) (Nat.le_refl _) _
                · rw [if_neg c6] at hR
                  simp only [Option.some.injEq, Prod.mk.injEq] at hR
                  obtain ⟨rfl, rfl, rfl, rfl⟩ := hR
                  have b6 : (bd == 2) = false := beq_eq_false_iff_ne.mpr c6
                  clear HR4
                  go_wp2
                  refine bodyPost_ret (res_results _ _ w.heap.size (.int .i64 0) (.int .i64 0) _ _ rfl rfl rfl (by simpa using HS.out)) rfl ⟨rfl, ?_⟩
                  exact (HBW9.out.setCell (p := ⟨w.heap.size, 0, none⟩) (Nat.le_refl _) _).setCell (p := ⟨w.heap.size, 1, none⟩) (Nat.le_refl _) _
            case jp =>
              refine two_ (i := 4) (j := 13) (Ni := some 61) (Nj := some 13) #[true, true, true, true, true, true, true, true, true, false, false, false, false, false, false, false] #[true, true, true, true, false, true, true, true, true, false, false, false, false, true, false, false] rfl rfl rfl rfl (two_of HT_.out (by kernel_rfl)) (by decide) (by decide) (fun K hK => ?_) (fun K hK => ?_)
              · refine goes_ Try.func13 (by kernel_rfl) rfl #[.pointer (some ⟨bt, 0, none⟩), .int .i64 id, .int .i64 root] (by rfl) rfl rfl (by (try simp only [List.map_toArray, List.map_cons, List.map_nil]); first | done | rfl) ?_
                refine (order_calls (w2.drew) bt L id root ((HT.out.below HBW2.out).below hBd) hL HN.out hid hr).mono ?_
                rintro e w4 ⟨v61, rfl, hv61, hb61⟩
                obtain ⟨A61, c61, rfl⟩ := Kd.R_slice hv61
                have HC61 := Aside0.mk (Kd.R_reads' hv61)
                have HB61 := Aside0.mk (below_then hBd (hBd).size hb61)
                refine ⟨_, rfl, ?_⟩
                refine hK.out _ _ HB61.out (fun hHeld61 => ?_)
                clear hv61 hb61 hK K
                refine norm_ (a' := ?_) ?_ ?_
                rotate_left
                · show Act.put _ (some 61) _ = _
                  simp only [Act.put, List.setIfInBounds_toArray, List.set_cons_zero, List.set_cons_succ, i64_w, i32_w]
                  rfl
                refine two_ (i := 9) (j := 13) (Ni := some 66) (Nj := some 13) #[true, true, true, true, true, true, true, true, true, true, false, false, false, false, false, false] #[true, true, true, true, true, true, true, true, true, false, false, false, false, true, false, false] rfl rfl rfl rfl (two_of HT_.out (by kernel_rfl)) (by decide) (by decide) (fun K hK => ?_) (fun K hK => ?_)
                · refine goes_ Try.func20 (by kernel_rfl) rfl #[.pointer (some ⟨bt, 0, none⟩), .slice A61 (orderOf L id root).length c61, .string nm, .string ver] (by rfl) rfl rfl (by (try simp only [List.map_toArray, List.map_cons, List.map_nil]); first | done | rfl) ?_
                  refine (in_calls k w4 bt L A61 c61 (orderOf L id root) nm ver i n f ((HT.out.below HBW2.out).below HB61.out) (HC61.out.2.2) HC61.out.2.1 HOW.out.1 HOW.out.2 HIN.out).mono ?_
                  rintro e w5 ⟨rfl, hb66⟩
                  have HB66 := Aside0.mk (below_then HB61.out (HB61.out).size hb66)
                  refine ⟨_, rfl, ?_⟩
                  refine hK.out _ _ HB66.out (fun hHeld66 => ?_)
                  clear hK K
                  refine norm_ (a' := ?_) ?_ ?_
                  rotate_left
                  · show Act.put _ (some 66) _ = _
                    simp only [Act.put, List.setIfInBounds_toArray, List.set_cons_zero, List.set_cons_succ, i64_w, i32_w]
                    rfl
                  refine pure_ (i := 10) (N := some 56) (v := ?_) (a' := ?_) #[true, true, true, true, true, true, true, true, true, true, true, false, false, false, false, false] rfl rfl (any_of HT_.out (by kernel_rfl)) (fun _ _ _ h => h) (Or.inl ⟨by rfl, ?_⟩) ?_ ?_
                  rotate_left
                  · intro w'
                    go_simp
                    with_reducible rfl
                  rotate_left
                  · simp only [Act.put, List.setIfInBounds_toArray, List.set_cons_zero, List.set_cons_succ, i64_w, i32_w]
                    rfl
                  refine pure_ (i := 11) (N := some 67) (v := ?_) (a' := ?_) #[true, true, true, true, true, true, true, true, true, true, true, true, false, false, false, false] rfl rfl (any_of HT_.out (by kernel_rfl)) (fun _ _ _ h => h) (Or.inl ⟨by rfl, ?_⟩) ?_ ?_
                  rotate_left
                  · intro w'
                    go_simp
                    with_reducible rfl
                  rotate_left
                  · simp only [Act.put, List.setIfInBounds_toArray, List.set_cons_zero, List.set_cons_succ, i64_w, i32_w]
                    rfl
                  refine pure_ (i := 12) (N := some 68) (v := ?_) (a' := ?_) #[true, true, true, true, true, true, true, true, true, true, true, true, true, false, false, false] rfl rfl (any_of HT_.out (by kernel_rfl)) (fun _ _ _ h => h) (Or.inl ⟨by rfl, ?_⟩) ?_ ?_
                  rotate_left
                  · intro w'
                    go_simp
                    with_reducible rfl
                  rotate_left
                  · simp only [Act.put, List.setIfInBounds_toArray, List.set_cons_zero, List.set_cons_succ, i64_w, i32_w]
                    rfl
                  refine one_ (i := 13) (N := some 13) #[true, true, true, true, true, true, true, true, true, true, true, true, true, true, false, false] rfl rfl (one_of HT_.out (by kernel_rfl)) (by decide) (fun K hK => ?_)
                  refine value_ (w1 := ?_) (v := ?_) (by rfl) rfl ?_ ?_
                  rotate_left 2
                  · go_simp
                    constructor
                    · rfl
                    · rfl
                  have HBAA := Aside0.mk ((HB66.out).alloc (HB66.out).size (.cells #[.int .i64 0, .int .i64 0] 41))
                  have HBKA := Aside0.mk (heap_alloc_new w5 (.cells #[.int .i64 0, .int .i64 0] 41))
                  refine hK.out _ _ HBAA.out (fun hHeldAA => ?_)
                  clear hK K
                  refine norm_ (a' := ?_) ?_ ?_
                  rotate_left
                  · show Act.put _ (some 13) _ = _
                    simp only [Act.put, List.setIfInBounds_toArray, List.set_cons_zero, List.set_cons_succ, i64_w, i32_w]
                    rfl
                  exact norm_ (a' := putAll _ _) (by rfl) (hJ (_, w5.heap.size) _ ⟨HBKA.out, HBAA.out, HB66.out.size⟩)
                · refine value_ (w1 := ?_) (v := ?_) (by rfl) rfl ?_ ?_
                  rotate_left 2
                  · go_simp
                    constructor
                    · rfl
                    · rfl
                  have HBAB := Aside0.mk ((HB61.out).alloc (HB61.out).size (.cells #[.int .i64 0, .int .i64 0] 41))
                  have HBKB := Aside0.mk (heap_alloc_new w4 (.cells #[.int .i64 0, .int .i64 0] 41))
                  refine hK.out _ _ HBAB.out (fun hHeldAB => ?_)
                  clear hK K
                  refine norm_ (a' := ?_) ?_ ?_
                  rotate_left
                  · show Act.put _ (some 13) _ = _
                    simp only [Act.put, List.setIfInBounds_toArray, List.set_cons_zero, List.set_cons_succ, i64_w, i32_w]
                    rfl
                  refine one_ (i := 9) (N := some 66) #[true, true, true, true, true, true, true, true, true, true, false, false, false, true, false, false] rfl rfl (one_of HT_.out (by kernel_rfl)) (by decide) (fun K hK => ?_)
                  refine goes_ Try.func20 (by kernel_rfl) rfl #[.pointer (some ⟨bt, 0, none⟩), .slice A61 (orderOf L id root).length c61, .string nm, .string ver] (by rfl) rfl rfl (by (try simp only [List.map_toArray, List.map_cons, List.map_nil]); first | done | rfl) ?_
                  refine (in_calls k (w4.alloc (.cells #[.int .i64 0, .int .i64 0] 41)) bt L A61 c61 (orderOf L id root) nm ver i n f ((HT.out.below HBW2.out).below HBAB.out) (Kd.C_alloc HC61.out.2.2 _) HC61.out.2.1 HOW.out.1 HOW.out.2 HIN.out).mono ?_
                  rintro e w5 ⟨rfl, hb66⟩
                  have HB66 := Aside0.mk (below_then HBAB.out (HBAB.out).size hb66)
                  refine ⟨_, rfl, ?_⟩
                  refine hK.out _ _ HB66.out (fun hHeld66 => ?_)
                  clear hK K
                  refine norm_ (a' := ?_) ?_ ?_
                  rotate_left
                  · show Act.put _ (some 66) _ = _
                    simp only [Act.put, List.setIfInBounds_toArray, List.set_cons_zero, List.set_cons_succ, i64_w, i32_w]
                    rfl
                  refine pure_ (i := 10) (N := some 56) (v := ?_) (a' := ?_) #[true, true, true, true, true, true, true, true, true, true, true, false, false, true, false, false] rfl rfl (any_of HT_.out (by kernel_rfl)) (fun _ _ _ h => h) (Or.inl ⟨by rfl, ?_⟩) ?_ ?_
                  rotate_left
                  · intro w'
                    go_simp
                    with_reducible rfl
                  rotate_left
                  · simp only [Act.put, List.setIfInBounds_toArray, List.set_cons_zero, List.set_cons_succ, i64_w, i32_w]
                    rfl
                  refine pure_ (i := 11) (N := some 67) (v := ?_) (a' := ?_) #[true, true, true, true, true, true, true, true, true, true, true, true, false, true, false, false] rfl rfl (any_of HT_.out (by kernel_rfl)) (fun _ _ _ h => h) (Or.inl ⟨by rfl, ?_⟩) ?_ ?_
                  rotate_left
                  · intro w'
                    go_simp
                    with_reducible rfl
                  rotate_left
                  · simp only [Act.put, List.setIfInBounds_toArray, List.set_cons_zero, List.set_cons_succ, i64_w, i32_w]
                    rfl
                  refine pure_ (i := 12) (N := some 68) (v := ?_) (a' := ?_) #[true, true, true, true, true, true, true, true, true, true, true, true, true, true, false, false] rfl rfl (any_of HT_.out (by kernel_rfl)) (fun _ _ _ h => h) (Or.inl ⟨by rfl, ?_⟩) ?_ ?_
                  rotate_left
                  · intro w'
                    go_simp
                    with_reducible rfl
                  rotate_left
                  · simp only [Act.put, List.setIfInBounds_toArray, List.set_cons_zero, List.set_cons_succ, i64_w, i32_w]
                    rfl
                  exact norm_ (a' := putAll _ _) (by rfl) (hJ (_, w4.heap.size) _ ⟨(hb66.block _ (heap_lt_of HBKB.out)).trans HBKB.out, HB66.out, HB61.out.size⟩)
              · refine value_ (w1 := ?_) (v := ?_) (by rfl) rfl ?_ ?_
                rotate_left 2
                · go_simp
                  constructor
                  · rfl
                  · rfl
                have HBAC := Aside0.mk ((hBd).alloc (hBd).size (.cells #[.int .i64 0, .int .i64 0] 41))
                have HBKC := Aside0.mk (heap_alloc_new (w2.drew) (.cells #[.int .i64 0, .int .i64 0] 41))
                refine hK.out _ _ HBAC.out (fun hHeldAC => ?_)
                clear hK K
                refine norm_ (a' := ?_) ?_ ?_
                rotate_left
                · show Act.put _ (some 13) _ = _
                  simp only [Act.put, List.setIfInBounds_toArray, List.set_cons_zero, List.set_cons_succ, i64_w, i32_w]
                  rfl
                refine one_ (i := 4) (N := some 61) #[true, true, true, true, true, true, true, true, true, false, false, false, false, true, false, false] rfl rfl (one_of HT_.out (by kernel_rfl)) (by decide) (fun K hK => ?_)
                refine goes_ Try.func13 (by kernel_rfl) rfl #[.pointer (some ⟨bt, 0, none⟩), .int .i64 id, .int .i64 root] (by rfl) rfl rfl (by (try simp only [List.map_toArray, List.map_cons, List.map_nil]); first | done | rfl) ?_
                refine (order_calls (w2.drew.alloc (.cells #[.int .i64 0, .int .i64 0] 41)) bt L id root ((HT.out.below HBW2.out).below HBAC.out) hL HN.out hid hr).mono ?_
                rintro e w4 ⟨v61, rfl, hv61, hb61⟩
                obtain ⟨A61, c61, rfl⟩ := Kd.R_slice hv61
                have HC61 := Aside0.mk (Kd.R_reads' hv61)
                have HB61 := Aside0.mk (below_then HBAC.out (HBAC.out).size hb61)
                refine ⟨_, rfl, ?_⟩
                refine hK.out _ _ HB61.out (fun hHeld61 => ?_)
                have HBKD := Aside0.mk ((hb61.block _ (heap_lt_of HBKC.out)).trans HBKC.out)
                clear hv61 hb61 hK K
                refine norm_ (a' := ?_) ?_ ?_
                rotate_left
                · show Act.put _ (some 61) _ = _
                  simp only [Act.put, List.setIfInBounds_toArray, List.set_cons_zero, List.set_cons_succ, i64_w, i32_w]
                  rfl
                refine one_ (i := 9) (N := some 66) #[true, true, true, true, true, true, true, true, true, true, false, false, false, true, false, false] rfl rfl (one_of HT_.out (by kernel_rfl)) (by decide) (fun K hK => ?_)
                refine goes_ Try.func20 (by kernel_rfl) rfl #[.pointer (some ⟨bt, 0, none⟩), .slice A61 (orderOf L id root).length c61, .string nm, .string ver] (by rfl) rfl rfl (by (try simp only [List.map_toArray, List.map_cons, List.map_nil]); first | done | rfl) ?_
                refine (in_calls k w4 bt L A61 c61 (orderOf L id root) nm ver i n f ((HT.out.below HBW2.out).below HB61.out) (HC61.out.2.2) HC61.out.2.1 HOW.out.1 HOW.out.2 HIN.out).mono ?_
                rintro e w5 ⟨rfl, hb66⟩
                have HB66 := Aside0.mk (below_then HB61.out (HB61.out).size hb66)
                refine ⟨_, rfl, ?_⟩
                refine hK.out _ _ HB66.out (fun hHeld66 => ?_)
                clear hK K
                refine norm_ (a' := ?_) ?_ ?_
                rotate_left
                · show Act.put _ (some 66) _ = _
                  simp only [Act.put, List.setIfInBounds_toArray, List.set_cons_zero, List.set_cons_succ, i64_w, i32_w]
                  rfl
                refine pure_ (i := 10) (N := some 56) (v := ?_) (a' := ?_) #[true, true, true, true, true, true, true, true, true, true, true, false, false, true, false, false] rfl rfl (any_of HT_.out (by kernel_rfl)) (fun _ _ _ h => h) (Or.inl ⟨by rfl, ?_⟩) ?_ ?_
                rotate_left
                · intro w'
                  go_simp
                  with_reducible rfl
                rotate_left
                · simp only [Act.put, List.setIfInBounds_toArray, List.set_cons_zero, List.set_cons_succ, i64_w, i32_w]
                  rfl
                refine pure_ (i := 11) (N := some 67) (v := ?_) (a' := ?_) #[true, true, true, true, true, true, true, true, true, true, true, true, false, true, false, false] rfl rfl (any_of HT_.out (by kernel_rfl)) (fun _ _ _ h => h) (Or.inl ⟨by rfl, ?_⟩) ?_ ?_
                rotate_left
                · intro w'
                  go_simp
                  with_reducible rfl
                rotate_left
                · simp only [Act.put, List.setIfInBounds_toArray, List.set_cons_zero, List.set_cons_succ, i64_w, i32_w]
                  rfl
                refine pure_ (i := 12) (N := some 68) (v := ?_) (a' := ?_) #[true, true, true, true, true, true, true, true, true, true, true, true, true, true, false, false] rfl rfl (any_of HT_.out (by kernel_rfl)) (fun _ _ _ h => h) (Or.inl ⟨by rfl, ?_⟩) ?_ ?_
                rotate_left
                · intro w'
                  go_simp
                  with_reducible rfl
                rotate_left
                · simp only [Act.put, List.setIfInBounds_toArray, List.set_cons_zero, List.set_cons_succ, i64_w, i32_w]
                  rfl
                exact norm_ (a' := putAll _ _) (by rfl) (hJ (_, w2.drew.heap.size) _ ⟨(hb66.block _ (heap_lt_of HBKD.out)).trans HBKD.out, HB66.out, hBd.size⟩)
  · subst hw1
    have hR := HRES.out
    rw [resOf, hx] at hR
    simp only [Option.some.injEq, Prod.mk.injEq] at hR
    obtain ⟨rfl, rfl, rfl, rfl⟩ := hR
    clear hx
    go_wp2
    have hs := blk_set (blk_set HBL.out 0 (.int .i64 0)) 1 (.int .i64 0)
    refine bodyPost_ret (res_results _ _ w.heap.size (.int .i64 0) (.int .i64 0) _ _ rfl rfl rfl (by simpa using hs)) rfl ⟨rfl, ?_⟩
    exact (HBW.out.setCell (p := ⟨w.heap.size, 0, none⟩) (Nat.le_refl _) _).setCell (p := ⟨w.heap.size, 1, none⟩) (Nat.le_refl _) _
end Go.Proofs.Ytmcihkfbgcfccaa.H
