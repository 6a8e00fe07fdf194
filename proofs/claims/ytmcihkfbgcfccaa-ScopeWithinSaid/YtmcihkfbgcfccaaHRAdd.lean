/- messuageref22.Add. -/
import Derived.Test.YtmcihkfbgcfccaaHRNeed
import Derived.Great.BuildSlice
namespace Go.Proofs.Ytmcihkfbgcfccaa.H
open Go.RowKit Go.Proofs.Ytmcihkfbgcfccaa.Z Go.Proofs.YtmcihkfbgcfccaaW.PrintWords Go.Proofs.YtmcihkfbgcfccaaW.PrintLast Go.Proofs.YtmcihkfbgcfccaaW.PrintMore
set_option linter.unusedVariables false
set_option linter.unusedSimpArgs false
set_option maxRecDepth 100000 in
theorem fill94 (r : Raw) : Instr.fill (fun i => some (i * 74, 74)) ((Array.range (1 * 74)).map ((Value.agg Z94).cells[· % (Value.agg Z94).cells.size]!)) [(0, Value.agg r.cells)] = some r.cells := by
  kernel_rfl
theorem run_one94 (w : World) (r : Raw) : (Instr.buildSlice 25 1 #[(0, .agg r.cells)]).run Try.prog w = .ok (.slice (some ⟨w.heap.size, 0, none⟩) 1 1) (w.alloc (.cells r.cells 94)) := by
  obtain ⟨i0, hi, hzz⟩ := Option.map_eq_some_iff.1 info94
  simp only [Prod.mk.injEq] at hzz
  obtain ⟨hz0, hz1, hz2⟩ := hzz
  refine run_buildSlice w 25 94 1 _ _ i0 (.agg Z94) Try.underlying25 hi hz0 (by rw [hz1]; omega) (by rw [hz1]; omega) ?_
  rw [hz1]
  exact fill94 r
theorem cell_far3 {w : World} {p k o : Nat} {a b c v : Value} (h : w.cell? ⟨k, o, none⟩ = some v) (hn : k ≠ p) : (((w.setCell ⟨p, 0, none⟩ a).setCell ⟨p, 1, none⟩ b).setCell ⟨p, 2, none⟩ c).cell? ⟨k, o, none⟩ = some v := by
  rw [World.cell?_of_block (w := w)]
  · exact h
  · show _ = w.heap[k]?
    rw [Below.heap_setCell _ ⟨p, 2, none⟩ _ _ hn, Below.heap_setCell _ ⟨p, 1, none⟩ _ _ hn, Below.heap_setCell _ ⟨p, 0, none⟩ _ _ hn]
theorem one94_step {ops : Array Oper} {o : Oper} {a : Act} {W : World} {K : Act → World → Prop} {Q : Exit → Act → World → Prop} {N : Tmp} (hw : Region.wanted o (yielded ops a.tmps) = true) (hN : o.dst = some N) (x : Operand) (ho : o.op = .buildSlice 25 1 #[(0, x)]) (Y : Array Value) (hx : a.eval x = .agg Y)
    (hrun : ∀ W : World, (Instr.buildSlice 25 1 #[(0, .agg Y)]).run Try.prog W = .ok (.slice (some ⟨W.heap.size, 0, none⟩) 1 1) (W.alloc (.cells Y 94))) (h : K (a.put (some N) (.slice (some ⟨W.heap.size, 0, none⟩) 1 1)) (W.alloc (.cells Y 94))) :
    if Region.wanted o (yielded ops a.tmps) = true then Oper.wp Try.prog o a W K Q else K (a.put (some N) undef) W :=
  value_ hw hN (by unfold execOp; simp [ho, hx, hrun, Result.andThen]) h
theorem radd_results (tmps : Array Value) (W : World) (g : Nat) (c0 c1 c2 : Value) (r e : Value) (hp : tmps[4]? = some (.pointer (some ⟨g, 0, none⟩))) (hr : tmps[5]? = some r) (he : tmps[6]? = some e) (hg : W.heap[g]? = some (.cells #[c0, c1, c2] 27 (0, 0))) :
    (results Try.f28 tmps).run Try.prog W = .ok (.tuple #[.agg #[c0, c1, c2], r, e]) W := by
  have h : Try.f28.results = #[.cell 4 27, .tmp 5, .tmp 6] := rfl
  have hl := run_loadVar_row (P := Try.prog) W g 27 27 #[c0, c1, c2] (0, 0) _ hg Try.underlying27 rfl (by kernel_rfl)
  simp [results, h, hp, hr, he, asAddr, hl]
noncomputable def radd_T4 : Bool × List (List Nat × List Nat) := rtab .any (opsOf Try.f28 4)
theorem radd_tab4 : rtab .any (opsOf Try.f28 4) = radd_T4 := rfl
def radd_B4 : List Nat := [0, 0, 2, 7, 0, 16, 63, 127, 255]
theorem radd_bits4 : waitsOk radd_T4.2 radd_B4 = true := by kernel_rfl
noncomputable def radd_T6 : Bool × List (List Nat × List Nat) := rtab .any (opsOf Try.f28 6)
theorem radd_tab6 : rtab .any (opsOf Try.f28 6) = radd_T6 := rfl
def radd_B6 : List Nat := [0, 0, 2, 1, 15, 31]
theorem radd_bits6 : waitsOk radd_T6.2 radd_B6 = true := by kernel_rfl
set_option maxRecDepth 100000 in
set_option maxHeartbeats 4000000 in
theorem addR_calls (w : World) (A : Option Addr) (c : Nat) (rs : List Raw) (r : Raw) (hC : kI.C w A rs.length rs) (hl : rs.length < 12) :
    Calls Try.prog 28 #[.agg #[.int .i64 12, .int .i64 ((rs.length : Int) + 1), .slice A rs.length c], .agg r.cells] w fun e w' => ∃ v, e = .returned (.tuple #[.agg #[.int .i64 12, .int .i64 ((rs.length : Int) + 1 + 1), v], .int .i64 ((rs.length : Int) + 1), .int .i64 0]) ∧
      kI.R 94 w' w.heap.size (fun _ => True) v (rs ++ [{ r with id := (rs.length : Int) + 1 }]) ∧ Below w.heap.size w w' := by
  obtain ⟨w1, hw1⟩ : ∃ w1, w1 = ((w.alloc (.cells #[.int .i64 12, .int .i64 ((rs.length : Int) + 1), .slice A rs.length c] 27)).alloc (.cells r.cells 94)).alloc (.cells #[.int .i64 0, .int .i64 0, .slice none 0 0] 27) := ⟨_, rfl⟩
  have hs1 : w1.heap.size = w.heap.size + 3 := by rw [hw1]; simp only [World.size_alloc]
  have hb2 : w1.heap[w.heap.size]? = some (.cells #[.int .i64 12, .int .i64 ((rs.length : Int) + 1), .slice A rs.length c] 27 (0, 0)) := by
    rw [hw1, Below.heap_alloc _ _ _ (by simp only [World.size_alloc]; omega), Below.heap_alloc _ _ _ (by simp only [World.size_alloc]; omega)]
    exact heap_alloc_new w _
  have hb3 : w1.heap[w.heap.size + 1]? = some (.cells r.cells 94 (0, 0)) := by
    rw [hw1, Below.heap_alloc _ _ _ (by simp only [World.size_alloc]; omega)]
    have := heap_alloc_new (w.alloc (.cells #[.int .i64 12, .int .i64 ((rs.length : Int) + 1), .slice A rs.length c] 27)) (.cells r.cells 94)
    rwa [World.size_alloc] at this
  have hb4 : w1.heap[w.heap.size + 1 + 1]? = some (.cells #[.int .i64 0, .int .i64 0, .slice none 0 0] 27 (0, 0)) := by
    rw [hw1]
    have := heap_alloc_new ((w.alloc (.cells #[.int .i64 12, .int .i64 ((rs.length : Int) + 1), .slice A rs.length c] 27)).alloc (.cells r.cells 94)) (.cells #[.int .i64 0, .int .i64 0, .slice none 0 0] 27)
    rwa [World.size_alloc, World.size_alloc] at this
  have hB : Below w.heap.size w w1 := by rw [hw1]; exact (((Below.refl _ w).alloc (Nat.le_refl _) _).alloc (by simp) _).alloc (by simp; omega) _
  have hC0 := Aside0.mk hC
  have HB := Aside0.mk hB
  have HW := Aside0.mk hw1
  have H2 := Aside0.mk hb2
  have H4 := Aside0.mk hb4
  obtain ⟨r', hr'⟩ : ∃ r' : Raw, r' = { r with id := (rs.length : Int) + 1 } := ⟨_, rfl⟩
  rw [← hr']
  have hset : r.cells.setIfInBounds 0 (.int .i64 ((rs.length : Int) + 1)) = r'.cells := by rw [hr']; rfl
  have HROW : Aside0 (∀ (W : World) (g : Nat), W.heap[g]? = some (.cells r'.cells 94 (0, 0)) → ReadsRow (kI.K W) 74 W (some ⟨g, 0, none⟩) 1 [r']) := ⟨fun W g hg => ⟨rfl, by omega, fun _ => ⟨_, rfl, fun j p hj => by
    have hj0 : j = 0 := by
      have := (List.getElem?_eq_some_iff.1 hj).1
      simp at this; omega
    subst hj0
    obtain rfl : r' = p := by simpa using hj
    refine ⟨r'.cells.toList, rfl, rfl, fun i u hu => ?_⟩
    rw [Nat.zero_mul, Nat.zero_add, Addr.add_mid, Nat.zero_add, blk_cell hg i, ← hu]
    simp⟩⟩⟩
  have hone : ∀ W : World, (Instr.buildSlice 25 1 #[(0, .agg r'.cells)]).run Try.prog W = .ok (.slice (some ⟨W.heap.size, 0, none⟩) 1 1) (W.alloc (.cells r'.cells 94)) := fun W => run_one94 W r'
  have hs0 := Raw.size r'
  have hy0 : r'.cells[0]? = some (.int .i64 ((rs.length : Int) + 1)) := by rw [hr']; rfl
  have hz0 : w1.cell? ⟨w.heap.size + 1, 0, none⟩ = some (.int .i64 r.id) := (blk_cell hb3 0).trans rfl
  have hfz := blk_frozen hb3 0
  obtain ⟨X, hX⟩ : ∃ X, r.cells = X := ⟨_, rfl⟩
  obtain ⟨Y, hY⟩ : ∃ Y, r'.cells = Y := ⟨_, rfl⟩
  rw [hX] at hw1 hb3 HW hset ⊢
  rw [hY] at hset HROW hone hs0 hy0
  have H3 := Aside0.mk hb3
  have HSET := Aside0.mk hset
  have HONE := Aside0.mk hone
  have HSY := Aside0.mk hs0
  have HY0 := Aside0.mk hy0
  have y0 : w1.cell? ⟨w.heap.size, 0, none⟩ = some (.int .i64 12) := (blk_cell hb2 0).trans rfl
  have y1 : w1.cell? ⟨w.heap.size, 1, none⟩ = some (.int .i64 ((rs.length : Int) + 1)) := (blk_cell hb2 1).trans rfl
  have y2 : w1.cell? ⟨w.heap.size, 2, none⟩ = some (.slice A rs.length c) := (blk_cell hb2 2).trans rfl
  have b12 : ((rs.length : Int) == 12) = false := beq_eq_false_iff_ne.mpr (by omega)
  clear hC hw1 hb2 hb3 hb4 hB hX hY hset hone hs0 hy0 hr'
  go_enter Try.func28, Try.ntmps28
  go_upto_region 1 with (fail)
  rw [← HW.out]
  go_upto_region 4 with (fail)
  obtain ⟨w2, hw2⟩ : ∃ w2, w2 = w1.setCell ⟨w.heap.size + 1, 0, none⟩ (.int .i64 ((rs.length : Int) + 1)) := ⟨_, rfl⟩
  rw [← hw2]
  have hs2 : w2.heap.size = w1.heap.size := by rw [hw2, World.size_setCell]
  have hp : w2.heap[w.heap.size]? = some (.cells #[.int .i64 12, .int .i64 ((rs.length : Int) + 1), .slice A rs.length c] 27 (0, 0)) := by rw [hw2, Below.heap_setCell _ ⟨w.heap.size + 1, 0, none⟩ _ _ (by show w.heap.size ≠ w.heap.size + 1; omega)]; exact H2.out
  have hq : w2.heap[w.heap.size + 1]? = some (.cells Y 94 (0, 0)) := by rw [hw2, ← HSET.out]; exact blk_set H3.out 0 _
  have hr4 : w2.heap[w.heap.size + 1 + 1]? = some (.cells #[.int .i64 0, .int .i64 0, .slice none 0 0] 27 (0, 0)) := by rw [hw2, Below.heap_setCell _ ⟨w.heap.size + 1, 0, none⟩ _ _ (by show w.heap.size + 1 + 1 ≠ w.heap.size + 1; omega)]; exact H4.out
  have hbw2 : Below w.heap.size w w2 := by rw [hw2]; exact HB.out.setCell (p := ⟨w.heap.size + 1, 0, none⟩) (by show w.heap.size ≤ w.heap.size + 1; omega) _
  have hc2 : kI.C w2 A rs.length rs := Kd.C_below hC0.out hbw2
  clear y0 y1 y2 hz0 hfz hw2 H2 H3 H4 HSET HW
  have y0 : w2.cell? ⟨w.heap.size, 0, none⟩ = some (.int .i64 12) := (blk_cell hp 0).trans rfl
  have y1 : w2.cell? ⟨w.heap.size, 1, none⟩ = some (.int .i64 ((rs.length : Int) + 1)) := (blk_cell hp 1).trans rfl
  have y2 : w2.cell? ⟨w.heap.size, 2, none⟩ = some (.slice A rs.length c) := (blk_cell hp 2).trans rfl
  have HP := Aside0.mk hp
  have HQ := Aside0.mk hq
  have HR4 := Aside0.mk hr4
  have HBW2 := Aside0.mk hbw2
  have HC := Aside0.mk hc2
  have hpl := heap_lt_of hp
  have hql := heap_lt_of hq
  have hrl := heap_lt_of hr4
  have hBd : Below w2.heap.size w2 w2.drew := below_drew1 (Below.refl _ _)
  clear hp hq hr4 hbw2 hc2 hs2 hs1
  refine start_ (n := 9) (S := fun w' => Below w2.heap.size w2 w') (ds := [8]) #[false, false, false, false, false, false, false, false, false] (by kernel_rfl) rfl rfl hBd (fun hHeld => ?_); refine with_tabW radd_tab4 radd_bits4 (fun HT_ HW_ => ?_)
  refine pure_ (i := 1) (N := some 18) (v := ?_) (a' := ?_) #[false, true, false, false, false, false, false, false, false] rfl rfl (any_of HT_.out (by kernel_rfl)) (fun _ _ _ h => h) (Or.inl ⟨by rfl, ?_⟩) ?_ ?_
  rotate_left
  · intro w'
    go_simp
    with_reducible rfl
  rotate_left
  · simp only [Act.put, List.setIfInBounds_toArray, List.set_cons_zero, List.set_cons_succ, i64_w, i32_w]
    rfl
  refine take_ (i := 2) (N := some 19) (v := ?_) (a' := ?_) #[false, true, true, false, false, false, false, false, false] rfl rfl (take_ofW HT_.out HW_.out (by kernel_rfl)) (fun _ _ _ h => h) (Or.inl ⟨by rfl, ?_⟩) hHeld ?_ ?_
  rotate_left
  · intro w' s0
    have q0 : w'.cell? ⟨w.heap.size, 2, none⟩ = some (.slice A rs.length c) := (s0.cell (p := ⟨w.heap.size, 2, none⟩) hpl).trans y2
    clear s0
    go_simp
    with_reducible rfl
  rotate_left
  · simp only [Act.put, List.setIfInBounds_toArray, List.set_cons_zero, List.set_cons_succ, i64_w, i32_w]
    rfl
  refine take_ (i := 4) (N := some 21) (a' := ?_) #[false, true, true, false, true, false, false, false, false] rfl rfl (take_ofW HT_.out HW_.out (by kernel_rfl)) (fun _ _ _ h => h) (yieldsIf_load_mid (by rfl) 94 (.tmp 3) rfl (w.heap.size + 1) 0 rfl Y.toList _ (fun w' s0 j v hj => (s0.cell (p := ⟨w.heap.size + 1, 0 + j, none⟩) hql).trans (by rw [blk_cell HQ.out (0 + j), Nat.zero_add, ← Array.getElem?_toList]; exact hj)) Try.underlying94 rfl (by rw [size94, Array.length_toList, HSY.out])) hHeld ?_ ?_
  rotate_left
  · simp only [Act.put, List.setIfInBounds_toArray, List.set_cons_zero, List.set_cons_succ, i64_w, i32_w, Array.toArray_toList]
    rfl
  refine join_ (σ := Value × Value × Nat) 3 #[true, true, true, true, true, true, false, false, false] (fun s => [(17, s.1), (20, s.2.1), (22, .slice (some ⟨s.2.2, 0, none⟩) 1 1)]) (fun s w' => kI.R 94 w' w2.heap.size (fun _ => True) s.2.1 rs ∧ w'.heap[s.2.2]? = some (.cells Y 94 (0, 0)) ∧ Below w2.heap.size w2 w' ∧ w2.heap.size ≤ s.2.2 ∧ some s.2.2 ≠ s.2.1.ownBlock) ?jc (fun hJ => ?jp)
  case jc =>
    intro s w' hF
    obtain ⟨v17, v20, g22⟩ := s
    obtain ⟨k1, k2, k3, k4, k5⟩ := hF
    simp only at k1 k2 k3 k4 k5
    have HO20 := Aside0.mk k1
    have HBK22 := Aside0.mk k2
    have HB20 := Aside0.mk k3
    have HNE := Aside0.mk k5
    clear k1 k2 k3 k5
    refine norm_ (a' := ?_) ?_ ?_
    rotate_left
    · simp only [putAll, Act.put, List.setIfInBounds_toArray, List.set_cons_zero, List.set_cons_succ, i64_w, i32_w]
      rfl
    refine one_ (i := 6) (N := some 23) #[true, true, true, true, true, true, true, false, false] rfl rfl (one_of HT_.out (by kernel_rfl)) (by decide) (fun K hK => ?_)
    refine Kd.R_append_rows_step kI (Rr := kI.K w') (w0 := w2) w2.heap.size (by rfl) (.tmp 20) (.tmp 22) 25 94 _ 696 rfl Try.underlying25 info94 rfl (by decide) (by omega) v20 rs [r'] (some ⟨g22, 0, none⟩) 1 1 (fun _ => True) (fun _ => False) rfl rfl HO20.out (HROW.out w' g22 HBK22.out) (fun _ _ h => h) (fun _ h => h.elim) (fun _ _ => trivial) HB20.out HB20.out.size (by omega) ?_
    intro v23 w6 ho hb hg hat
    obtain ⟨A23, c23, rfl⟩ := Kd.R_slice ho
    have HO23 := Aside0.mk ho
    have HB23 := Aside0.mk hb
    clear ho hb hg hat
    refine hK.out _ _ HB23.out (fun hHeld23 => ?_)
    clear hK K
    refine norm_ (a' := ?_) ?_ ?_
    rotate_left
    · show Act.put _ (some 23) _ = _
      simp only [Act.put, List.setIfInBounds_toArray, List.set_cons_zero, List.set_cons_succ, i64_w, i32_w]
      rfl
    refine pure_ (i := 7) (N := some 24) (v := ?_) (a' := ?_) #[true, true, true, true, true, true, true, true, false] rfl rfl (any_of HT_.out (by kernel_rfl)) (fun _ _ _ h => h) (Or.inl ⟨by rfl, ?_⟩) ?_ ?_
    rotate_left
    · intro w'
      go_simp
      with_reducible rfl
    rotate_left
    · simp only [Act.put, List.setIfInBounds_toArray, List.set_cons_zero, List.set_cons_succ, i64_w, i32_w]
      rfl
    have hp6 := (HB23.out.block _ hpl).trans HP.out
    have z2 : w6.cell? ⟨w.heap.size, 2, none⟩ = some (.slice A rs.length c) := (blk_cell hp6 2).trans rfl
    have f2 := blk_frozen hp6 2
    refine last_ (i := 8) (N := none) #[true, true, true, true, true, true, true, true, true] rfl rfl (one_of HT_.out (by kernel_rfl)) (by decide) (fun K hK => ?_)
    refine skip_ (w1 := ?_) (by rfl) rfl ?_ ?_
    rotate_left
    · go_simp
      rfl
    refine hK.out _ _ ?_
    clear hK K
    refine done_ (done_of HT_.out (by kernel_rfl)) ?_
    have hln : (rs ++ [r']).length = rs.length + 1 := by simp
    have hO := HO23.out
    rw [hln] at hO
    obtain ⟨w7, hw7⟩ : ∃ w7, w7 = w6.setCell ⟨w.heap.size, 2, none⟩ (.slice A23 (rs.length + 1) c23) := ⟨_, rfl⟩
    rw [← hw7]
    have hp7 : w7.heap[w.heap.size]? = some (.cells #[.int .i64 12, .int .i64 ((rs.length : Int) + 1), .slice A23 (rs.length + 1) c23] 27 (0, 0)) := by rw [hw7]; exact blk_set hp6 2 _
    have hO7 : kI.R 94 w7 w2.heap.size (fun _ => True) (.slice A23 (rs.length + 1) c23) (rs ++ [r']) := by rw [hw7]; exact Kd.R_set hO hp6 (by decide) 2 _
    have hkp : ∀ k, k < w2.heap.size → k ≠ w.heap.size → w7.heap[k]? = w2.heap[k]? := fun k hk hn => by
      rw [hw7, Below.heap_setCell _ ⟨w.heap.size, 2, none⟩ _ _ hn]
      exact HB23.out.block k hk
    have hq7 := (hkp _ hql (by omega)).trans HQ.out
    have hr7 := (hkp _ hrl (by omega)).trans HR4.out
    have HB7 : Aside0 (Below w.heap.size w w7) := ⟨by rw [hw7]; exact (HBW2.out.trans (HB23.out.mono (by omega))).setCell (p := ⟨w.heap.size, 2, none⟩) (Nat.le_refl _) _⟩
    clear hw7 hkp z2 f2 hp6 hO hln HO20 HBK22 HB20 HNE HO23 HB23 k4
    have x0 : w7.cell? ⟨w.heap.size, 0, none⟩ = some (.int .i64 12) := (blk_cell hp7 0).trans rfl
    have x1 : w7.cell? ⟨w.heap.size, 1, none⟩ = some (.int .i64 ((rs.length : Int) + 1)) := (blk_cell hp7 1).trans rfl
    have g1 := blk_frozen hp7 1
    have HP7 := Aside0.mk hp7
    have HO7 := Aside0.mk hO7
    have HR7 := Aside0.mk hr7
    have HQ7 := Aside0.mk hq7
    clear hp7 hO7 hr7 hq7 x0 y0 y1 y2
    go_upto_region 6 with (fail)
    obtain ⟨w8, hw8⟩ : ∃ w8, w8 = w7.setCell ⟨w.heap.size, 1, none⟩ (.int .i64 ((rs.length : Int) + 1 + 1)) := ⟨_, rfl⟩
    rw [← hw8]
    have hp8 : w8.heap[w.heap.size]? = some (.cells #[.int .i64 12, .int .i64 ((rs.length : Int) + 1 + 1), .slice A23 (rs.length + 1) c23] 27 (0, 0)) := by rw [hw8]; exact blk_set HP7.out 1 _
    have hO8 : kI.R 94 w8 w2.heap.size (fun _ => True) (.slice A23 (rs.length + 1) c23) (rs ++ [r']) := by rw [hw8]; exact Kd.R_set HO7.out HP7.out (by decide) 1 _
    have hq8 : w8.heap[w.heap.size + 1]? = some (.cells Y 94 (0, 0)) := by rw [hw8, Below.heap_setCell _ ⟨w.heap.size, 1, none⟩ _ _ (by show w.heap.size + 1 ≠ w.heap.size; omega)]; exact HQ7.out
    have hr8 : w8.heap[w.heap.size + 1 + 1]? = some (.cells #[.int .i64 0, .int .i64 0, .slice none 0 0] 27 (0, 0)) := by rw [hw8, Below.heap_setCell _ ⟨w.heap.size, 1, none⟩ _ _ (by show w.heap.size + 1 + 1 ≠ w.heap.size; omega)]; exact HR7.out
    have HB8 : Aside0 (Below w.heap.size w w8) := ⟨by rw [hw8]; exact HB7.out.setCell (p := ⟨w.heap.size, 1, none⟩) (Nat.le_refl _) _⟩
    clear hw8 x1 g1 HP7 HO7 HR7 HQ7 HB7
    have x0 : w8.cell? ⟨w.heap.size, 0, none⟩ = some (.int .i64 12) := (blk_cell hp8 0).trans rfl
    have x1 : w8.cell? ⟨w.heap.size, 1, none⟩ = some (.int .i64 ((rs.length : Int) + 1 + 1)) := (blk_cell hp8 1).trans rfl
    have x2 : w8.cell? ⟨w.heap.size, 2, none⟩ = some (.slice A23 (rs.length + 1) c23) := (blk_cell hp8 2).trans rfl
    have x3 : w8.cell? ⟨w.heap.size + 1, 0, none⟩ = some (.int .i64 ((rs.length : Int) + 1)) := (blk_cell hq8 0).trans HY0.out
    have j0 : w8.cell? ⟨w.heap.size + 1 + 1, 0, none⟩ = some (.int .i64 0) := (blk_cell hr8 0).trans rfl
    have j1 : w8.cell? ⟨w.heap.size + 1 + 1, 1, none⟩ = some (.int .i64 0) := (blk_cell hr8 1).trans rfl
    have j2 : w8.cell? ⟨w.heap.size + 1 + 1, 2, none⟩ = some (.slice none 0 0) := (blk_cell hr8 2).trans rfl
    have l0 := blk_frozen hr8 0
    have l1 := blk_frozen hr8 1
    have l2 := blk_frozen hr8 2
    have HR8 := Aside0.mk hr8
    have HO8 := Aside0.mk hO8
    clear hp8 hO8 hq8 hr8
    refine start_ (n := 6) (S := fun w' => w'.cell? ⟨w.heap.size, 0, none⟩ = some (.int .i64 12) ∧ w'.cell? ⟨w.heap.size, 1, none⟩ = some (.int .i64 ((rs.length : Int) + 1 + 1)) ∧ w'.cell? ⟨w.heap.size, 2, none⟩ = some (.slice A23 (rs.length + 1) c23) ∧ w'.cell? ⟨w.heap.size + 1, 0, none⟩ = some (.int .i64 ((rs.length : Int) + 1))) (ds := []) #[false, false, false, false, false, false] (by kernel_rfl) rfl rfl ⟨x0, x1, x2, x3⟩ (fun hHeld => ?_); refine with_tabW radd_tab6 radd_bits6 (fun HT_ HW_ => ?_)
    refine pure_ (i := 1) (N := some 30) (v := ?_) (a' := ?_) #[false, true, false, false, false, false] rfl rfl (any_of HT_.out (by kernel_rfl)) (fun _ _ _ h => h) (Or.inl ⟨by rfl, ?_⟩) ?_ ?_
    rotate_left
    · intro w'
      go_simp
      with_reducible rfl
    rotate_left
    · simp only [Act.put, List.setIfInBounds_toArray, List.set_cons_zero, List.set_cons_succ, i64_w, i32_w]
      rfl
    refine take_ (i := 0) (N := some 29) (v := ?_) (a' := ?_) #[true, true, false, false, false, false] rfl rfl (take_ofW HT_.out HW_.out (by kernel_rfl)) (fun _ _ _ h => h) (Or.inl ⟨by rfl, ?_⟩) hHeld ?_ ?_
    rotate_left
    · rintro w' ⟨s0, s1, s2, s3⟩
      go_simp
      with_reducible rfl
    rotate_left
    · simp only [Act.put, List.setIfInBounds_toArray, List.set_cons_zero, List.set_cons_succ, i64_w, i32_w]
      rfl
    refine take_ (i := 2) (N := some 31) (v := ?_) (a' := ?_) #[true, true, true, false, false, false] rfl rfl (take_ofW HT_.out HW_.out (by kernel_rfl)) (fun _ _ _ h => h) (Or.inl ⟨by rfl, ?_⟩) hHeld ?_ ?_
    rotate_left
    · rintro w' ⟨s0, s1, s2, s3⟩
      go_simp
      with_reducible rfl
    rotate_left
    · simp only [Act.put, List.setIfInBounds_toArray, List.set_cons_zero, List.set_cons_succ, i64_w, i32_w]
      rfl
    have d0 : w8.drew.cell? ⟨w.heap.size + 1 + 1, 0, none⟩ = some (.int .i64 0) := j0
    have d1 : w8.drew.cell? ⟨w.heap.size + 1 + 1, 1, none⟩ = some (.int .i64 0) := j1
    have d2 : w8.drew.cell? ⟨w.heap.size + 1 + 1, 2, none⟩ = some (.slice none 0 0) := j2
    refine one_ (i := 3) (N := none) #[true, true, true, true, false, false] rfl rfl (one_of HT_.out (by kernel_rfl)) (by decide) (fun K hK => ?_)
    refine skip_ (w1 := ?_) (by rfl) rfl ?_ ?_
    rotate_left
    · go_simp
      rfl
    refine hK.out _ _ ⟨cell_far3 hHeld.1 (by omega), cell_far3 hHeld.2.1 (by omega), cell_far3 hHeld.2.2.1 (by omega), cell_far3 hHeld.2.2.2 (by omega)⟩ (fun hHeld2 => ?_)
    clear hK K hHeld2
    refine pure_ (i := 4) (N := some 5) (v := ?_) (a' := ?_) #[true, true, true, true, true, false] rfl rfl (any_of HT_.out (by kernel_rfl)) (fun _ _ _ h => h) (Or.inl ⟨by rfl, ?_⟩) ?_ ?_
    rotate_left
    · intro w'
      go_simp
      with_reducible rfl
    rotate_left
    · simp only [Act.put, List.setIfInBounds_toArray, List.set_cons_zero, List.set_cons_succ, i64_w, i32_w]
      rfl
    refine pure_ (i := 5) (N := some 6) (v := ?_) (a' := ?_) #[true, true, true, true, true, true] rfl rfl (any_of HT_.out (by kernel_rfl)) (fun _ _ _ h => h) (Or.inl ⟨by rfl, ?_⟩) ?_ ?_
    rotate_left
    · intro w'
      go_simp
      with_reducible rfl
    rotate_left
    · simp only [Act.put, List.setIfInBounds_toArray, List.set_cons_zero, List.set_cons_succ, i64_w, i32_w]
      rfl
    refine done_ (done_of HT_.out (by kernel_rfl)) ?_
    go_wp2
    have hs := blk_set (blk_set (blk_set HR8.out 0 (.int .i64 12)) 1 (.int .i64 ((rs.length : Int) + 1 + 1))) 2 (.slice A23 (rs.length + 1) c23)
    refine bodyPost_ret (radd_results _ _ (w.heap.size + 1 + 1) (.int .i64 12) (.int .i64 ((rs.length : Int) + 1 + 1)) (.slice A23 (rs.length + 1) c23) _ _ rfl rfl rfl (by simpa [heap_drew] using hs)) rfl ⟨_, rfl, ?_, ?_⟩
    · exact Kd.R_lower (Kd.R_drew (Kd.R_set (Kd.R_set (Kd.R_set HO8.out HR8.out (by decide) 0 _) (blk_set HR8.out 0 _) (by decide) 1 _) (blk_set (blk_set HR8.out 0 _) 1 _) (by decide) 2 _)) (by omega)
    · exact below_drew1 (((HB8.out.setCell (p := ⟨w.heap.size + 1 + 1, 0, none⟩) (by show w.heap.size ≤ w.heap.size + 1 + 1; omega) _).setCell (p := ⟨w.heap.size + 1 + 1, 1, none⟩) (by show w.heap.size ≤ w.heap.size + 1 + 1; omega) _).setCell (p := ⟨w.heap.size + 1 + 1, 2, none⟩) (by show w.heap.size ≤ w.heap.size + 1 + 1; omega) _)
  case jp =>
    refine two_ (i := 0) (j := 5) (Ni := some 17) (Nj := some 22) #[true, true, true, false, true, false, false, false, false] #[false, true, true, false, true, true, false, false, false] rfl rfl rfl rfl (two_of HT_.out (by kernel_rfl)) (by decide) (by decide) (fun K hK => ?_) (fun K hK => ?_)
    · refine Kd.R_lit_step kI (w0 := w2) w2.heap.size 94 (by rfl) (N := 17) rfl (xs := ([] : List Raw)) (inner := []) (ok := fun _ => True) (okp := fun _ => False) ?hra (Reps.none _ _) (fun _ hk => hk.elim) trivial (hBd) (hBd).size (by simp) ?_
      (case hra => first | (go_simp; done) | (go_simp; rfl))
      intro v17 w4 ho hb hg hnew
      have HO17 := Aside0.mk ho
      have HB17 := Aside0.mk hb
      have HG17 := Aside0.mk hg
      clear ho hb hg hnew
      refine hK.out _ _ HB17.out (fun hHeld17 => ?_)
      clear hK K
      refine norm_ (a' := ?_) ?_ ?_
      rotate_left
      · show Act.put _ (some 17) _ = _
        simp only [Act.put, List.setIfInBounds_toArray, List.set_cons_zero, List.set_cons_succ, i64_w, i32_w]
        rfl
      refine two_ (i := 3) (j := 5) (Ni := some 20) (Nj := some 22) #[true, true, true, true, true, false, false, false, false] #[true, true, true, false, true, true, false, false, false] rfl rfl rfl rfl (two_of HT_.out (by kernel_rfl)) (by decide) (by decide) (fun K hK => ?_) (fun K hK => ?_)
      · refine Kd.R_append_rows_step kI (Rr := kI.K w4) (w0 := w2) w2.heap.size (by rfl) (.tmp 17) (.tmp 19) 25 94 _ 696 rfl Try.underlying25 info94 rfl (by decide) (by omega) v17 [] rs A rs.length c (fun _ => True) (fun _ => False) rfl rfl (HO17.out) (Kd.C_below HC.out (HB17.out)) (fun _ _ h => h) (fun _ h => h.elim) (fun _ _ => trivial) (HB17.out) (HB17.out).size (by simp only [List.length_nil]; omega) ?_
        intro v20 w5 ho hb hg hat
        rw [List.nil_append] at ho
        have HO20 := Aside0.mk ho
        have HB20 := Aside0.mk hb
        have HG20 := Aside0.mk hg
        clear ho hb hg hat
        refine hK.out _ _ HB20.out (fun hHeld20 => ?_)
        clear hK K
        refine norm_ (a' := ?_) ?_ ?_
        rotate_left
        · show Act.put _ (some 20) _ = _
          simp only [Act.put, List.setIfInBounds_toArray, List.set_cons_zero, List.set_cons_succ, i64_w, i32_w]
          rfl
        refine one_ (i := 5) (N := some 22) #[true, true, true, true, true, true, false, false, false] rfl rfl (one_of HT_.out (by kernel_rfl)) (by decide) (fun K hK => ?_)
        refine one94_step (N := 22) (by rfl) rfl (.tmp 21) rfl Y rfl HONE.out ?_
        have HBB := Aside0.mk ((HB20.out).alloc (HB20.out).size (.cells Y 94))
        have HBK22 := Aside0.mk (heap_alloc_new (w5) (.cells Y 94))
        refine hK.out _ _ HBB.out (fun hHeld22 => ?_)
        clear hK K
        refine norm_ (a' := ?_) ?_ ?_
        rotate_left
        · show Act.put _ (some 22) _ = _
          simp only [Act.put, List.setIfInBounds_toArray, List.set_cons_zero, List.set_cons_succ, i64_w, i32_w]
          rfl
        exact norm_ (a' := putAll _ _) (by rfl) (hJ (_, _, w5.heap.size) _ ⟨Kd.R_alloc HO20.out _, HBK22.out, HBB.out, HB20.out.size, fun e => by dsimp only at e; have := Kd.R_lt HO20.out _ e.symm; omega⟩)
      · refine one94_step (N := 22) (by rfl) rfl (.tmp 21) rfl Y rfl HONE.out ?_
        have HBB := Aside0.mk ((HB17.out).alloc (HB17.out).size (.cells Y 94))
        have HBK22 := Aside0.mk (heap_alloc_new (w4) (.cells Y 94))
        refine hK.out _ _ HBB.out (fun hHeld22 => ?_)
        clear hK K
        refine norm_ (a' := ?_) ?_ ?_
        rotate_left
        · show Act.put _ (some 22) _ = _
          simp only [Act.put, List.setIfInBounds_toArray, List.set_cons_zero, List.set_cons_succ, i64_w, i32_w]
          rfl
        refine one_ (i := 3) (N := some 20) #[true, true, true, true, true, true, false, false, false] rfl rfl (one_of HT_.out (by kernel_rfl)) (by decide) (fun K hK => ?_)
        refine Kd.R_append_rows_step kI (Rr := kI.K (w4.alloc (.cells Y 94))) (w0 := w2) w2.heap.size (by rfl) (.tmp 17) (.tmp 19) 25 94 _ 696 rfl Try.underlying25 info94 rfl (by decide) (by omega) v17 [] rs A rs.length c (fun _ => True) (fun _ => False) rfl rfl (Kd.R_alloc HO17.out _) (Kd.C_below HC.out (HBB.out)) (fun _ _ h => h) (fun _ h => h.elim) (fun _ _ => trivial) (HBB.out) (HBB.out).size (by simp only [List.length_nil]; omega) ?_
        intro v20 w5 ho hb hg hat
        rw [List.nil_append] at ho
        have HO20 := Aside0.mk ho
        have HB20 := Aside0.mk hb
        have HG20 := Aside0.mk hg
        have HAT20 := Aside0.mk hat
        clear ho hb hg hat
        refine hK.out _ _ HB20.out (fun hHeld20 => ?_)
        clear hK K
        refine norm_ (a' := ?_) ?_ ?_
        rotate_left
        · show Act.put _ (some 20) _ = _
          simp only [Act.put, List.setIfInBounds_toArray, List.set_cons_zero, List.set_cons_succ, i64_w, i32_w]
          rfl
        exact norm_ (a' := putAll _ _) (by rfl) (hJ (_, _, w4.heap.size) _ ⟨HO20.out, blk_grown HBK22.out HG20.out (fun e => by dsimp only at e; have := Kd.R_lt HO17.out _ e.symm; omega), HB20.out, HB17.out.size, fun e => by dsimp only at e; have hz := HAT20.out; rcases hz with hz | ⟨b, hz, hle⟩; (rw [hz] at e; have := Kd.R_lt HO17.out _ e.symm; omega); (rw [hz] at e; injection e with e; rw [World.size_alloc] at hle; omega)⟩)
    · refine one94_step (N := 22) (by rfl) rfl (.tmp 21) rfl Y rfl HONE.out ?_
      have HBB := Aside0.mk ((hBd).alloc (hBd).size (.cells Y 94))
      have HBK22 := Aside0.mk (heap_alloc_new (w2.drew) (.cells Y 94))
      refine hK.out _ _ HBB.out (fun hHeld22 => ?_)
      clear hK K
      refine norm_ (a' := ?_) ?_ ?_
      rotate_left
      · show Act.put _ (some 22) _ = _
        simp only [Act.put, List.setIfInBounds_toArray, List.set_cons_zero, List.set_cons_succ, i64_w, i32_w]
        rfl
      refine one_ (i := 0) (N := some 17) #[true, true, true, false, true, true, false, false, false] rfl rfl (one_of HT_.out (by kernel_rfl)) (by decide) (fun K hK => ?_)
      refine Kd.R_lit_step kI (w0 := w2) w2.heap.size 94 (by rfl) (N := 17) rfl (xs := ([] : List Raw)) (inner := []) (ok := fun _ => True) (okp := fun _ => False) ?hrb (Reps.none _ _) (fun _ hk => hk.elim) trivial (HBB.out) (HBB.out).size (by simp) ?_
      (case hrb => first | (go_simp; done) | (go_simp; rfl))
      intro v17 w4 ho hb hg hnew
      have HO17 := Aside0.mk ho
      have HB17 := Aside0.mk hb
      have HG17 := Aside0.mk hg
      have HNEW := Aside0.mk hnew
      clear ho hb hg hnew
      refine hK.out _ _ HB17.out (fun hHeld17 => ?_)
      clear hK K
      refine norm_ (a' := ?_) ?_ ?_
      rotate_left
      · show Act.put _ (some 17) _ = _
        simp only [Act.put, List.setIfInBounds_toArray, List.set_cons_zero, List.set_cons_succ, i64_w, i32_w]
        rfl
      refine one_ (i := 3) (N := some 20) #[true, true, true, true, true, true, false, false, false] rfl rfl (one_of HT_.out (by kernel_rfl)) (by decide) (fun K hK => ?_)
      refine Kd.R_append_rows_step kI (Rr := kI.K w4) (w0 := w2) w2.heap.size (by rfl) (.tmp 17) (.tmp 19) 25 94 _ 696 rfl Try.underlying25 info94 rfl (by decide) (by omega) v17 [] rs A rs.length c (fun _ => True) (fun _ => False) rfl rfl (HO17.out) (Kd.C_below HC.out (HB17.out)) (fun _ _ h => h) (fun _ h => h.elim) (fun _ _ => trivial) (HB17.out) (HB17.out).size (by simp only [List.length_nil]; omega) ?_
      intro v20 w5 ho hb hg hat
      rw [List.nil_append] at ho
      have HO20 := Aside0.mk ho
      have HB20 := Aside0.mk hb
      have HG20 := Aside0.mk hg
      have HAT20 := Aside0.mk hat
      clear ho hb hg hat
      refine hK.out _ _ HB20.out (fun hHeld20 => ?_)
      clear hK K
      refine norm_ (a' := ?_) ?_ ?_
      rotate_left
      · show Act.put _ (some 20) _ = _
        simp only [Act.put, List.setIfInBounds_toArray, List.set_cons_zero, List.set_cons_succ, i64_w, i32_w]
        rfl
      exact norm_ (a' := putAll _ _) (by rfl) (hJ (_, _, w2.drew.heap.size) _ ⟨HO20.out, blk_grown (blk_grown HBK22.out HG17.out (by simp)) HG20.out (fun e => by dsimp only at e; have hz := HNEW.out; obtain ⟨b, hz, hle⟩ := hz; rw [hz] at e; injection e with e; rw [World.size_alloc] at hle; omega), HB20.out, hBd.size, fun e => by dsimp only at e; have hz := HAT20.out; rcases hz with hz | ⟨b, hz, hle⟩; (obtain ⟨b, hz2, hle⟩ := HNEW.out; rw [hz, hz2] at e; injection e with e; rw [World.size_alloc] at hle; omega); (rw [hz] at e; injection e with e; have := HG17.out.size; rw [World.size_alloc] at this; omega)⟩)
end Go.Proofs.Ytmcihkfbgcfccaa.H
