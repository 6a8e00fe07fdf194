/- (*Table).Add. -/
import Derived.Test.YtmcihkfbgcfccaaHOwn
namespace Go.Proofs.Ytmcihkfbgcfccaa.H
open Go.RowKit Go.Proofs.Ytmcihkfbgcfccaa.Z Go.Proofs.YtmcihkfbgcfccaaW.PrintWords Go.Proofs.YtmcihkfbgcfccaaW.PrintLast Go.Proofs.YtmcihkfbgcfccaaW.PrintMore
set_option linter.unusedVariables false
set_option linter.unusedSimpArgs false
theorem info52 : (Try.prog.info? 52).map (fun i => (i.zero, i.size, i.bytes)) = some (some (.pointer none), 1, 8) := by kernel_rfl
noncomputable def addT_T8 : Bool × List (List Nat × List Nat) := rtab .any (opsOf Try.f27 8)
theorem addT_tab8 : rtab .any (opsOf Try.f27 8) = addT_T8 := rfl
def addT_B8 : List Nat := [0, 1, 3, 7, 0, 16, 63]
theorem addT_bits8 : waitsOk addT_T8.2 addT_B8 = true := by kernel_rfl
theorem range_snoc (n : Nat) (g : Nat → Nat) (b : Nat) : (List.range (n + 1)).map (fun k => if k = n then b else g k) = (List.range n).map g ++ [b] := by
  rw [List.range_succ, List.map_append]
  congr 1
  · apply List.map_congr_left
    intro k hk
    rw [List.mem_range] at hk
    rw [if_neg (by omega)]
  · simp
theorem add_end2 {w0 W w8 : World} {bt bm : Nat} {L : List Ins} {s : Nat → Option Addr × Nat} {S : Nat → Prop} {vI v6 : Value} {g : Nat → Nat} {nv : Nat → Value} {sp : Int} {sy : Bool} {vd : Int} {gl : Bool} {syms : List S76} {sA : Option Addr} {sc : Nat} (hT : TabO w0 W bt L s S) (hl : L.length < 12)
    (h1 : W.heap[bt]? = some (.cells #[.int .i64 12, .int .i64 (L.length + 1), vI, .map (some bm)] 114 (0, 0))) (h3 : kP.R 52 W w0.heap.size (fun _ => True) vI ((List.range L.length).map g))
    (h6 : ∀ k x, L[k]? = some x → W.heap[g k]? = some (.cells (instT (k + 1) x.sp x.sy x.vd (.slice (s k).1 x.syms.length (s k).2) (nv k) x.gl) 74 (0, 0)) ∧ (Kd.int .i64).R 3 W w0.heap.size (fun _ => True) (nv k) x.needs) (h4 : w0.heap.size ≤ bt) (h5 : w0.heap.size ≤ bm)
    (h7 : ∀ j, j < L.length → w0.heap.size ≤ g j) (h8 : ∀ j k, j < L.length → k < L.length → j ≠ k → g j ≠ g k) (h9 : ∀ j k, j < L.length → k < L.length → j ≠ k → ∀ b, (nv j).ownBlock = some b → (nv k).ownBlock ≠ some b)
    (h10 : ∀ k, S k ↔ (k = bt ∨ k = bm ∨ vI.ownBlock = some k ∨ (∃ j, j < L.length ∧ g j = k) ∨ ∃ j, j < L.length ∧ (nv j).ownBlock = some k))
    (hp : w8.heap[W.heap.size]? = some (.cells (instT (L.length + 1) sp sy vd (.slice sA syms.length sc) (.slice none 0 0) gl) 74 (0, 0))) (hbt : w8.heap[bt]? = some (.cells #[.int .i64 12, .int .i64 (L.length + 1 + 1), v6, .map (some bm)] 114 (0, 0)))
    (hm : TabMap w8 bm ((List.range L.length).map g ++ [W.heap.size])) (hrow : kP.R 52 w8 w0.heap.size (fun _ => True) v6 ((List.range L.length).map g ++ [W.heap.size])) (hk : ∀ k, k < W.heap.size → k ≠ bt → k ≠ bm → some k ≠ vI.ownBlock → w8.heap[k]? = W.heap[k]?) (hb : Below w0.heap.size w0 w8)
    (hat : v6.ownBlock = vI.ownBlock ∨ ∃ b, v6.ownBlock = some b ∧ W.heap.size ≤ b) (hs : Kd.C k76 w0 sA syms.length syms) (hsc : syms.length ≤ sc) :
    ∃ S', TabO w0 w8 bt (L ++ [⟨sp, sy, vd, gl, syms, []⟩]) (fun k => if k = L.length then (sA, sc) else s k) S' ∧ Kept W w8 S ∧ ∀ k, S' k → S k ∨ W.heap.size ≤ k := by
  have hlt : ∀ {k : Nat} {x : Ins}, L[k]? = some x → k < L.length := fun hx => (List.getElem?_eq_some_iff.1 hx).1
  have hbm : ∃ es c, W.heap[bm]? = some (.map es c) := by
    rcases (hT.typed ((h10 bm).2 (.inr (.inl rfl)))).2.2 with h | ⟨cells, q, hc, hq⟩
    · exact h
    · obtain ⟨D, g1, ⟨es, clock, g2, g3⟩, g4⟩ := hm
      exact absurd hc (by
        intro hc
        obtain ⟨bm', vI', g', nv', k1, k2, _⟩ := hT.out
        rw [h1] at k1
        injection k1 with k1
        injection k1 with k1 _ _
        have e : bm = bm' := by
          have := congrArg (fun a => a[3]?) k1
          simpa using this
        subst e
        obtain ⟨D', g1', ⟨es', clock', g2', g3'⟩, g4'⟩ := k2
        rw [g2'] at hc
        injection hc with hc
        cases hc)
  have hkg : ∀ j, j < L.length → w8.heap[g j]? = W.heap[g j]? := fun j hj => by
    have hx := h6 j L[j] (List.getElem?_eq_getElem hj)
    refine hk _ (heap_lt_of hx.1) (fun e => ?_) (fun e => ?_) (fun e => ?_)
    · rw [e, h1] at hx
      have := hx.1
      injection this with this
      injection this with _ this _
      exact absurd this (by decide)
    · obtain ⟨es, c, hc⟩ := hbm
      rw [e, hc] at hx
      have := hx.1
      injection this with this
      cases this
    · exact Kd.R_ne h3 hx.1 (by decide) e
  have hkn : ∀ j k, j < L.length → (nv j).ownBlock = some k → w8.heap[k]? = W.heap[k]? := fun j k hj hkk => by
    have hx := h6 j L[j] (List.getElem?_eq_getElem hj)
    obtain ⟨cells, hc⟩ := Kd.R_typed hx.2 k hkk
    refine hk _ (heap_lt_of hc) (fun e => ?_) (fun e => ?_) (fun e => ?_)
    · rw [e, h1] at hc
      injection hc with hc
      injection hc with _ hc _
      exact absurd hc (by decide)
    · obtain ⟨es, c, hc'⟩ := hbm
      rw [e, hc'] at hc
      injection hc with hc
      cases hc
    · obtain ⟨cells', hc'⟩ := Kd.R_typed h3 k e.symm
      rw [hc] at hc'
      injection hc' with hc'
      injection hc' with _ hc' _
      exact absurd hc' (by decide)
  have hWs : W.heap.size < w8.heap.size := heap_lt_of hp
  refine ⟨fun k => k = bt ∨ k = bm ∨ v6.ownBlock = some k ∨ (∃ j, j < L.length + 1 ∧ (if j = L.length then W.heap.size else g j) = k) ∨ ∃ j, j < L.length + 1 ∧ (if j = L.length then Value.slice none 0 0 else nv j).ownBlock = some k, ⟨hb, fun k x hx => ?_, bm, v6, fun k => if k = L.length then W.heap.size else g k, fun k => if k = L.length then Value.slice none 0 0 else nv k, ?_, ?_, ?_, h4, h5, fun k x hx => ?_, fun j hj => ?_, fun j k hj hk' hne => ?_, fun j k hj hk' hne b hb1 => ?_, fun k => ?_⟩, ⟨by omega, fun k hlt' hn => ?_⟩, fun k hk' => ?_⟩
  · by_cases hkn' : k < L.length
    · rw [List.getElem?_append_left hkn'] at hx
      rw [if_neg (by omega)]
      exact hT.syms k x hx
    · have hk2 : k = L.length := by
        have := (List.getElem?_eq_some_iff.1 hx).1
        simp at this; omega
      subst hk2
      rw [List.getElem?_append_right (Nat.le_refl _)] at hx
      simp at hx
      subst hx
      rw [if_pos rfl]
      exact ⟨hs, hsc⟩
  · rw [List.length_append, List.length_singleton]
    simpa using hbt
  · rw [List.length_append, List.length_singleton, range_snoc]
    exact hm
  · rw [List.length_append, List.length_singleton, range_snoc]
    exact hrow
  · by_cases hkn' : k < L.length
    · rw [List.getElem?_append_left hkn'] at hx
      simp only [if_neg (show ¬ k = L.length by omega)]
      obtain ⟨q1, q2⟩ := h6 k x hx
      exact ⟨(hkg k hkn').trans q1, row_own q2 (fun b hb1 _ => hkn k b hkn' hb1)⟩
    · have hk2 : k = L.length := by
        have := (List.getElem?_eq_some_iff.1 hx).1
        simp at this; omega
      subst hk2
      rw [List.getElem?_append_right (Nat.le_refl _)] at hx
      simp at hx
      subst hx
      simp only [if_true]
      exact ⟨hp, Kd.R_nil _ _ _ _ _⟩
  · rw [List.length_append, List.length_singleton] at hj
    by_cases h0 : j = L.length
    · simp only [if_pos h0]
      exact hT.below.size
    · simp only [if_neg h0]
      exact h7 j (by omega)
  · rw [List.length_append, List.length_singleton] at hj hk'
    have hgl : ∀ i, i < L.length → g i < W.heap.size := fun i hi => heap_lt_of (h6 i L[i] (List.getElem?_eq_getElem hi)).1
    by_cases h0 : j = L.length
    · by_cases h00 : k = L.length
      · omega
      · simp only [if_pos h0, if_neg h00]
        have := hgl k (by omega)
        omega
    · by_cases h00 : k = L.length
      · simp only [if_neg h0, if_pos h00]
        have := hgl j (by omega)
        omega
      · simp only [if_neg h0, if_neg h00]
        exact h8 j k (by omega) (by omega) hne
  · rw [List.length_append, List.length_singleton] at hj hk'
    by_cases h0 : j = L.length
    · simp only [if_pos h0] at hb1
      simp [Value.ownBlock] at hb1
    · simp only [if_neg h0] at hb1
      by_cases h00 : k = L.length
      · simp only [if_pos h00]
        simp [Value.ownBlock]
      · simp only [if_neg h00]
        exact h9 j k (by omega) (by omega) hne b hb1
  · rw [List.length_append, List.length_singleton]
  · refine hk k hlt' (fun e => hn ((h10 k).2 (.inl e))) (fun e => hn ((h10 k).2 (.inr (.inl e)))) (fun e => hn ((h10 k).2 (.inr (.inr (.inl e.symm)))))
  · rcases hk' with h | h | h | ⟨j, hj, h⟩ | ⟨j, hj, h⟩
    · exact .inl ((h10 k).2 (.inl h))
    · exact .inl ((h10 k).2 (.inr (.inl h)))
    · rcases hat with hat | ⟨b, hb1, hle⟩
      · exact .inl ((h10 k).2 (.inr (.inr (.inl (hat ▸ h)))))
      · rw [hb1] at h
        injection h with h
        exact .inr (by omega)
    · by_cases h0 : j = L.length
      · rw [if_pos h0] at h
        exact .inr (by omega)
      · rw [if_neg h0] at h
        exact .inl ((h10 k).2 (.inr (.inr (.inr (.inl ⟨j, by omega, h⟩)))))
    · by_cases h0 : j = L.length
      · rw [if_pos h0] at h
        simp [Value.ownBlock] at h
      · rw [if_neg h0] at h
        exact .inl ((h10 k).2 (.inr (.inr (.inr (.inr ⟨j, by omega, h⟩)))))
set_option maxRecDepth 100000 in
set_option maxHeartbeats 2000000 in
theorem addT_calls (w0 W : World) (bt : Nat) (L : List Ins) (s : Nat → Option Addr × Nat) (S : Nat → Prop) (h : TabO w0 W bt L s S) (hl : L.length < 12) (sp : Int) (sy : Bool) (vd : Int) (gl : Bool) (syms : List S76) (sA : Option Addr) (sc : Nat)
    (hs : Kd.C k76 w0 sA syms.length syms) (hsc : syms.length ≤ sc) :
    Calls Try.prog 27 #[.pointer (some ⟨bt, 0, none⟩), .agg (instT 0 sp sy vd (.slice sA syms.length sc) (.slice none 0 0) gl)] W fun e W' => e = .returned (.tuple #[.int .i64 (L.length + 1), .int .i64 0]) ∧
      ∃ S', TabO w0 W' bt (L ++ [⟨sp, sy, vd, gl, syms, []⟩]) (fun k => if k = L.length then (sA, sc) else s k) S' ∧ Kept W W' S ∧ ∀ k, S' k → S k ∨ W.heap.size ≤ k := by
  have HT := Aside0.mk h
  have HS := Aside0.mk hs
  obtain ⟨bm, vI, g, nv, h1, h2, h3, h4, h5, h6, h7, h8, h9, h10⟩ := h.out
  obtain ⟨AI, cI, rfl⟩ := Kd.R_slice h3
  simp only [List.length_map, List.length_range] at h1 h3 h10
  obtain ⟨w1, hw1⟩ : ∃ w1, w1 = W.alloc (.cells (instT 0 sp sy vd (.slice sA syms.length sc) (.slice none 0 0) gl) 74) := ⟨_, rfl⟩
  have hp1 : w1.heap[W.heap.size]? = some (.cells (instT 0 sp sy vd (.slice sA syms.length sc) (.slice none 0 0) gl) 74 (0, 0)) := by rw [hw1]; exact heap_alloc_new W _
  have hbt1 : w1.heap[bt]? = some (.cells #[.int .i64 12, .int .i64 (L.length + 1), .slice AI L.length cI, .map (some bm)] 114 (0, 0)) := by rw [hw1, Below.heap_alloc _ _ _ (heap_lt_of h1)]; exact h1
  have HP1 := Aside0.mk hp1
  have HBT1 := Aside0.mk hbt1
  have HW1 := Aside0.mk hw1
  have HR := Aside0.mk h3
  have HM := Aside0.mk h2
  have HBT0 := Aside0.mk h1
  have H6 := Aside0.mk h6
  have H8 := Aside0.mk h8
  have H9 := Aside0.mk h9
  have H10 := Aside0.mk h10
  have hne : bt ≠ W.heap.size := fun e => by have := heap_lt_of h1; omega
  have hne' : W.heap.size ≠ bt := Ne.symm hne
  have z0 : w1.cell? ⟨W.heap.size, 0, none⟩ = some (.int .i64 0) := (blk_cell hp1 0).trans rfl
  have z67 : w1.cell? ⟨W.heap.size, 67, none⟩ = some (.slice none 0 0) := (blk_cell hp1 67).trans rfl
  have z68 : w1.cell? ⟨W.heap.size, 68, none⟩ = some (.slice none 0 0) := (blk_cell hp1 68).trans rfl
  have y0 : w1.cell? ⟨bt, 0, none⟩ = some (.int .i64 12) := (blk_cell hbt1 0).trans rfl
  have y1 : w1.cell? ⟨bt, 1, none⟩ = some (.int .i64 (L.length + 1)) := (blk_cell hbt1 1).trans rfl
  have y2 : w1.cell? ⟨bt, 2, none⟩ = some (.slice AI L.length cI) := (blk_cell hbt1 2).trans rfl
  have f0 := blk_frozen hp1 0
  have f67 := blk_frozen hp1 67
  have f68 := blk_frozen hp1 68
  have e1 := blk_frozen hbt1 1
  have e2 := blk_frozen hbt1 2
  have b12 : ((L.length : Int) == 12) = false := beq_eq_false_iff_ne.mpr (by omega)
  obtain ⟨X, hX⟩ : ∃ X, instT 0 sp sy vd (.slice sA syms.length sc) (.slice none 0 0) gl = X := ⟨_, rfl⟩
  have HX := Aside0.mk hX
  rw [hX] at hw1 ⊢
  have HW1' := Aside0.mk hw1
  clear h hs h1 h2 h3 h6 h8 h9 h10 hp1 hbt1 hw1 hX
  go_enter Try.func27, Try.ntmps27
  go_wp2_with fail
  rw [← HW1'.out]
  go_quiet ((fail))
  go_upto_region 4 with (fail)
  obtain ⟨w2, hw2⟩ : ∃ w2, w2 = (w1.drewN nq).setCell ⟨W.heap.size, 0, none⟩ (.int .i64 (L.length + 1)) := ⟨_, rfl⟩
  rw [← hw2]
  have hp2 : w2.heap[W.heap.size]? = some (.cells (instT (L.length + 1) sp sy vd (.slice sA syms.length sc) (.slice none 0 0) gl) 74 (0, 0)) := by rw [hw2]; exact blk_set (w := w1.drewN nq) HP1.out 0 _
  have hbt2 : w2.heap[bt]? = some (.cells #[.int .i64 12, .int .i64 (L.length + 1), .slice AI L.length cI, .map (some bm)] 114 (0, 0)) := by rw [hw2, Below.heap_setCell _ ⟨W.heap.size, 0, none⟩ _ _ hne]; exact HBT1.out
  have hk2 : ∀ k, k < W.heap.size → w2.heap[k]? = W.heap[k]? := fun k hk => by
    rw [hw2, Below.heap_setCell _ ⟨W.heap.size, 0, none⟩ _ _ (by show k ≠ W.heap.size; omega)]
    show w1.heap[k]? = _
    rw [HW1.out, Below.heap_alloc _ _ _ hk]
  have HB2 : Aside0 (Below W.heap.size W w2) := ⟨by
    rw [hw2]
    refine (pw_below_drewN ?_ nq).setCell (p := ⟨W.heap.size, 0, none⟩) (Nat.le_refl _) _
    rw [HW1.out]
    exact below_alloc (Below.refl _ _) _⟩
  clear hw2 z0 z67 z68 y0 y1 y2 f0 f67 f68 e1 e2 HP1 HBT1
  have z67 : w2.cell? ⟨W.heap.size, 67, none⟩ = some (.slice none 0 0) := (blk_cell hp2 67).trans rfl
  have f67 := blk_frozen hp2 67
  have HP2 := Aside0.mk hp2
  have HBT2 := Aside0.mk hbt2
  have HK2 := Aside0.mk hk2
  clear hp2 hbt2 hk2
  go_upto_region 5 with (go_at_call 38; refine (clone_nil _).mono ?_; rintro e w2 ⟨rfl, rfl⟩)
  obtain ⟨w3, hw⟩ : ∃ w3, w3 = w2.setCell ⟨W.heap.size, 67, none⟩ (.slice none 0 0) := ⟨_, rfl⟩
  rw [← hw]
  have hp : w3.heap[W.heap.size]? = some (.cells (instT (L.length + 1) sp sy vd (.slice sA syms.length sc) (.slice none 0 0) gl) 74 (0, 0)) := by rw [hw]; exact blk_set HP2.out 67 _
  have hbt : w3.heap[bt]? = some (.cells #[.int .i64 12, .int .i64 (L.length + 1), .slice AI L.length cI, .map (some bm)] 114 (0, 0)) := by rw [hw, Below.heap_setCell _ ⟨W.heap.size, 67, none⟩ _ _ hne]; exact HBT2.out
  have hk : ∀ k, k < W.heap.size → w3.heap[k]? = W.heap[k]? := fun k hk => by
    rw [hw, Below.heap_setCell _ ⟨W.heap.size, 67, none⟩ _ _ (by show k ≠ W.heap.size; omega)]
    exact HK2.out k hk
  have hb := HB2.out.setCell (p := ⟨W.heap.size, 67, none⟩) (Nat.le_refl _) (.slice none 0 0)
  rw [← hw] at hb
  clear hw HP2 HBT2 HK2 HB2
  have HP2 := Aside0.mk hp
  have HBT2 := Aside0.mk hbt
  have HK2 := Aside0.mk hk
  have HB2 := Aside0.mk hb
  clear hp hbt hk hb
  clear z67 f67
  have z68 : w3.cell? ⟨W.heap.size, 68, none⟩ = some (.slice none 0 0) := (blk_cell HP2.out 68).trans rfl
  have f68 := blk_frozen HP2.out 68
  go_upto_region 6 with (go_at_call 38; refine (clone_nil _).mono ?_; rintro e w3 ⟨rfl, rfl⟩)
  obtain ⟨w4, hw⟩ : ∃ w4, w4 = w3.setCell ⟨W.heap.size, 68, none⟩ (.slice none 0 0) := ⟨_, rfl⟩
  rw [← hw]
  have hp : w4.heap[W.heap.size]? = some (.cells (instT (L.length + 1) sp sy vd (.slice sA syms.length sc) (.slice none 0 0) gl) 74 (0, 0)) := by rw [hw]; exact blk_set HP2.out 68 _
  have hbt : w4.heap[bt]? = some (.cells #[.int .i64 12, .int .i64 (L.length + 1), .slice AI L.length cI, .map (some bm)] 114 (0, 0)) := by rw [hw, Below.heap_setCell _ ⟨W.heap.size, 68, none⟩ _ _ hne]; exact HBT2.out
  have hk : ∀ k, k < W.heap.size → w4.heap[k]? = W.heap[k]? := fun k hk => by
    rw [hw, Below.heap_setCell _ ⟨W.heap.size, 68, none⟩ _ _ (by show k ≠ W.heap.size; omega)]
    exact HK2.out k hk
  have hb := HB2.out.setCell (p := ⟨W.heap.size, 68, none⟩) (Nat.le_refl _) (.slice none 0 0)
  rw [← hw] at hb
  clear hw HP2 HBT2 HK2 HB2
  have HP2 := Aside0.mk hp
  have HBT2 := Aside0.mk hbt
  have HK2 := Aside0.mk hk
  have HB2 := Aside0.mk hb
  clear hp hbt hk hb
  clear z68 f68
  have y1 : w4.cell? ⟨bt, 1, none⟩ = some (.int .i64 (L.length + 1)) := (blk_cell HBT2.out 1).trans rfl
  have e1 := blk_frozen HBT2.out 1
  go_upto_region 7 with (fail)
  obtain ⟨w5, hw⟩ : ∃ w5, w5 = w4.setCell ⟨bt, 1, none⟩ (.int .i64 (L.length + 1 + 1)) := ⟨_, rfl⟩
  rw [← hw]
  have hp : w5.heap[W.heap.size]? = some (.cells (instT (L.length + 1) sp sy vd (.slice sA syms.length sc) (.slice none 0 0) gl) 74 (0, 0)) := by rw [hw, Below.heap_setCell _ ⟨bt, 1, none⟩ _ _ hne']; exact HP2.out
  have hbt : w5.heap[bt]? = some (.cells #[.int .i64 12, .int .i64 (L.length + 1 + 1), .slice AI L.length cI, .map (some bm)] 114 (0, 0)) := by rw [hw]; exact blk_set HBT2.out 1 _
  have hk : ∀ k, k < W.heap.size → k ≠ bt → w5.heap[k]? = W.heap[k]? := fun k hk hn => by
    rw [hw, Below.heap_setCell _ ⟨bt, 1, none⟩ _ _ hn]
    exact HK2.out k hk
  have hb0 : Below w0.heap.size w0 w5 := by
    rw [hw]
    exact (HT.out.below.trans (HB2.out.mono HT.out.below.size)).setCell (p := ⟨bt, 1, none⟩) h4 _
  have hsz : W.heap.size < w5.heap.size := heap_lt_of hp
  clear hw HP2 HBT2 HK2 HB2 y1 e1
  have hrow : kP.R 52 w5 w0.heap.size (fun _ => True) (.slice AI L.length cI) ((List.range L.length).map g) :=
    Kd.R_mono (Kd.R_step (Kd.R_tight rfl HR.out) (fun k hk' hlt => hk k hlt (fun e => by obtain ⟨cells, hc⟩ := Kd.R_typed HR.out k hk'.symm; subst e; have hb1 := HBT0.out; rw [hc] at hb1; injection hb1 with hb1; injection hb1 with _ hb1 _; exact absurd hb1 (by decide)))) (fun _ _ => trivial)
  have HP5 := Aside0.mk hp
  have HBT5 := Aside0.mk hbt
  have HK5 := Aside0.mk hk
  have HB5 := Aside0.mk hb0
  have HR5 := Aside0.mk hrow
  have y2 : w5.cell? ⟨bt, 2, none⟩ = some (.slice AI L.length cI) := (blk_cell hbt 2).trans rfl
  have e2 := blk_frozen hbt 2
  clear hp hbt hk hb0 hrow
  have hlen : ((List.range L.length).map g).length = L.length := by simp
  have HLEN := Aside0.mk hlen
  clear hlen
  go_upto_region 8 with ((with_reducible refine gate_builtin (b := .append) (xs := #[.tmp 40, .tmp 41]) rfl ?_); at_builtin; refine Kd.R_append kP (w0 := w0) w0.heap.size rfl (.tmp 40) (.tmp 41) 111 52 (.pointer none) 8 rfl Try.underlying111 info52 rfl (by decide) (by omega) (.slice AI L.length cI) ((List.range L.length).map g) W.heap.size [.pointer (some ⟨W.heap.size, 0, none⟩)] (fun _ => True) (fun _ => False) rfl rfl ?aP (fun _ hk => hk.elim) ?aF ?aO ?aB ?aS ?aL ?_; (case aP => exact rfl); (case aB => exact HB5.out); (case aF => exact (fun _ _ => trivial)); (case aO => exact HR5.out); (case aS => exact HB5.out.size); (case aL => rw [HLEN.out]; omega); intro v6 w6 ho hb hg hat; obtain ⟨A6, c6, rfl⟩ := Kd.R_slice ho; have HO6 := Aside0.mk ho; have HB6 := Aside0.mk hb; have HG6 := Aside0.mk hg; have HAT6 := Aside0.mk hat; have nb6 := Kd.R_ne HR5.out HBT5.out (by decide); have np6 := Kd.R_ne HR5.out HP5.out (by decide); have HBT6 := Aside0.mk (blk_grown HBT5.out hg nb6); have HP6 := Aside0.mk (blk_grown HP5.out hg np6); have y2' : w6.cell? ⟨bt, 2, none⟩ = some (.slice AI L.length cI) := (blk_cell HBT6.out 2).trans rfl; have e2' := blk_frozen HBT6.out 2; clear ho hb hg hat y2 e2)
  obtain ⟨w7, hw7⟩ : ∃ w7, w7 = w6.setCell ⟨bt, 2, none⟩ (.slice A6 (L.length + 1) c6) := ⟨_, rfl⟩
  rw [← hw7]
  have hl6 : (((List.range L.length).map g) ++ [W.heap.size]).length = L.length + 1 := by simp
  have hm6 : bm ≠ bt := fun e => by
    obtain ⟨D, g1, ⟨es, clock, g2, g3⟩, g4⟩ := HM.out
    rw [e, HBT0.out] at g2
    injection g2 with g2
    cases g2
  have hmn : some bm ≠ (Value.slice AI L.length cI).ownBlock := fun e => by
    obtain ⟨cells, hc⟩ := Kd.R_typed HR5.out bm e.symm
    obtain ⟨D, g1, ⟨es, clock, g2, g3⟩, g4⟩ := HM.out
    rw [HK5.out bm (heap_lt_of g2) hm6, g2] at hc
    injection hc with hc
    cases hc
  have hml : bm < W.heap.size := by
    obtain ⟨D, g1, ⟨es, clock, g2, g3⟩, g4⟩ := HM.out
    exact heap_lt_of g2
  have hbt7 : w7.heap[bt]? = some (.cells #[.int .i64 12, .int .i64 (L.length + 1 + 1), .slice A6 (L.length + 1) c6, .map (some bm)] 114 (0, 0)) := by rw [hw7]; exact blk_set HBT6.out 2 _
  have hp7 : w7.heap[W.heap.size]? = some (.cells (instT (L.length + 1) sp sy vd (.slice sA syms.length sc) (.slice none 0 0) gl) 74 (0, 0)) := by rw [hw7, Below.heap_setCell _ ⟨bt, 2, none⟩ _ _ hne']; exact HP6.out
  have hk7 : ∀ k, k < W.heap.size → k ≠ bt → some k ≠ (Value.slice AI L.length cI).ownBlock → w7.heap[k]? = W.heap[k]? := fun k hk h1 h2 => by
    rw [hw7, Below.heap_setCell _ ⟨bt, 2, none⟩ _ _ h1, HG6.out.block k (by omega) h2]
    exact HK5.out k hk h1
  have hb7 : Below w0.heap.size w0 w7 := by rw [hw7]; exact HB6.out.setCell (p := ⟨bt, 2, none⟩) h4 _
  have hr7 : kP.R 52 w7 w0.heap.size (fun _ => True) (.slice A6 (L.length + 1) c6) ((List.range L.length).map g ++ [W.heap.size]) := by
    have h := HO6.out
    rw [hl6] at h
    rw [hw7]
    exact Kd.R_set h HBT6.out (by decide) 2 _
  have hs7 : W.heap.size ≤ w7.heap.size := by rw [hw7, World.size_setCell]; have := HG6.out.size; omega
  have hmap7 : TabMap w7 bm ((List.range L.length).map g) := HM.out.kept (hk7 bm hml hm6 hmn)
  have hat7 : (Value.slice A6 (L.length + 1) c6).ownBlock = (Value.slice AI L.length cI).ownBlock ∨ ∃ b, (Value.slice A6 (L.length + 1) c6).ownBlock = some b ∧ W.heap.size ≤ b := by
    have h := HAT6.out
    rw [hl6] at h
    rcases h with h | ⟨b, h, hle⟩
    · exact .inl h
    · exact .inr ⟨b, h, by omega⟩
  clear hw7 HBT6 HP6 HG6 HB6 HO6 HAT6 HR5 HB5 HK5 HBT5 HP5 y2' e2' nb6 np6 hl6
  obtain ⟨w8, hrun, hmap8, hg8⟩ := TabMap.update (hmap7.below (w' := w7.drew) (below_drew1 (Below.refl _ _))) W.heap.size (by rw [List.length_map, List.length_range]; omega)
  rw [show ((List.range L.length).map g).length = L.length by simp] at hrun
  have c3 : w7.drew.cell? ⟨bt, 3, none⟩ = some (.map (some bm)) := (blk_cell hbt7 3).trans rfl
  have c0 : w7.drew.cell? ⟨W.heap.size, 0, none⟩ = some (.int .i64 (L.length + 1)) := (blk_cell hp7 0).trans rfl
  have hnm : some W.heap.size ≠ some bm := fun e => by injection e with e; omega
  have hnbt : some bt ≠ some bm := fun e => by injection e with e; exact hm6 e.symm
  have HEND := Aside0.mk (add_end2 (w8 := w8) HT.out hl HBT0.out (by have := HR.out; exact this) H6.out h4 h5 h7 H8.out H9.out H10.out (blk_grown (w := w7.drew) hp7 hg8 hnm) (blk_grown (w := w7.drew) hbt7 hg8 hnbt) hmap8
    (Kd.R_mono (Kd.R_step (Kd.R_tight rfl hr7) (fun k hk hlt => hg8.block k hlt (fun e => by
      obtain ⟨cells, hc⟩ := Kd.R_typed hr7 k hk.symm
      injection e with e
      subst e
      obtain ⟨D, g1, ⟨es, clock, g2, g3⟩, g4⟩ := hmap7
      rw [g2] at hc
      injection hc with hc
      cases hc))) (fun _ _ => trivial))
    (fun k hk h1 h2 h3 => (hg8.block k (Nat.lt_of_lt_of_le hk hs7) (fun e => h2 (by injection e))).trans (hk7 k hk h1 h3)) (Below.grown (w := w7.drew) hb7.drew hg8 (Nat.le_trans HT.out.below.size hs7) (fun k e => by injection e with e; omega)) hat7 HS.out hsc)
  have cp8 : w8.cell? ⟨W.heap.size, 0, none⟩ = some (.int .i64 (L.length + 1)) := (blk_cell (blk_grown (w := w7.drew) hp7 hg8 hnm) 0).trans rfl
  clear hbt7 hp7 hk7 hb7 hr7 hs7 hmap7 hat7 hmap8 hg8 hm6 hmn hml hnm hnbt
  refine start_ (n := 7) (S := fun w' => w'.cell? ⟨bt, 3, none⟩ = some (.map (some bm)) ∧ w'.cell? ⟨W.heap.size, 0, none⟩ = some (.int .i64 (L.length + 1))) (ds := [6]) #[false, false, false, false, false, false, false] (by kernel_rfl) rfl rfl ⟨c3, c0⟩ (fun hHeld => ?_); refine with_tabW addT_tab8 addT_bits8 (fun HT_ HW_ => ?_)
  clear c3 c0
  refine pure_ (i := 0) (N := some 45) (v := ?_) (a' := ?_) #[true, false, false, false, false, false, false] rfl rfl (any_of HT_.out (by kernel_rfl)) (fun _ _ _ h => h) (Or.inl ⟨by rfl, ?_⟩) ?_ ?_
  rotate_left
  · intro w'
    go_simp
    with_reducible rfl
  rotate_left
  · simp only [Act.put, List.setIfInBounds_toArray, List.set_cons_zero, List.set_cons_succ, i64_w, i32_w]
    rfl
  refine pure_ (i := 1) (N := some 46) (v := ?_) (a' := ?_) #[true, true, false, false, false, false, false] rfl rfl (any_of HT_.out (by kernel_rfl)) (fun _ _ _ h => h) (Or.inl ⟨by rfl, ?_⟩) ?_ ?_
  rotate_left
  · intro w'
    go_simp
    with_reducible rfl
  rotate_left
  · simp only [Act.put, List.setIfInBounds_toArray, List.set_cons_zero, List.set_cons_succ, i64_w, i32_w]
    rfl
  refine pure_ (i := 2) (N := some 47) (v := ?_) (a' := ?_) #[true, true, true, false, false, false, false] rfl rfl (any_of HT_.out (by kernel_rfl)) (fun _ _ _ h => h) (Or.inl ⟨by rfl, ?_⟩) ?_ ?_
  rotate_left
  · intro w'
    go_simp
    with_reducible rfl
  rotate_left
  · simp only [Act.put, List.setIfInBounds_toArray, List.set_cons_zero, List.set_cons_succ, i64_w, i32_w]
    rfl
  refine pure_ (i := 4) (N := some 49) (v := ?_) (a' := ?_) #[true, true, true, false, true, false, false] rfl rfl (any_of HT_.out (by kernel_rfl)) (fun _ _ _ h => h) (Or.inl ⟨by rfl, ?_⟩) ?_ ?_
  rotate_left
  · intro w'
    go_simp
    with_reducible rfl
  rotate_left
  · simp only [Act.put, List.setIfInBounds_toArray, List.set_cons_zero, List.set_cons_succ, i64_w, i32_w]
    rfl
  refine take_ (i := 3) (N := some 48) (v := ?_) (a' := ?_) #[true, true, true, true, true, false, false] rfl rfl (take_ofW HT_.out HW_.out (by kernel_rfl)) (fun _ _ _ h => h) (Or.inl ⟨by rfl, ?_⟩) hHeld ?_ ?_
  rotate_left
  · rintro w' ⟨s0, s1⟩
    go_simp
    with_reducible rfl
  rotate_left
  · simp only [Act.put, List.setIfInBounds_toArray, List.set_cons_zero, List.set_cons_succ, i64_w, i32_w]
    rfl
  refine take_ (i := 5) (N := some 50) (v := ?_) (a' := ?_) #[true, true, true, true, true, true, false] rfl rfl (take_ofW HT_.out HW_.out (by kernel_rfl)) (fun _ _ _ h => h) (Or.inl ⟨by rfl, ?_⟩) hHeld ?_ ?_
  rotate_left
  · rintro w' ⟨s0, s1⟩
    go_simp
    with_reducible rfl
  rotate_left
  · simp only [Act.put, List.setIfInBounds_toArray, List.set_cons_zero, List.set_cons_succ, i64_w, i32_w]
    rfl
  refine last_ (i := 6) (N := none) #[true, true, true, true, true, true, true] rfl rfl (one_of HT_.out (by kernel_rfl)) (by decide) (fun K hK => ?_)
  refine skip_ (w1 := w8) (by rfl) rfl ?_ ?_
  · go_simp
  refine hK.out _ _ ?_
  clear hK K hrun
  refine done_ (done_of HT_.out (by kernel_rfl)) ?_
  go_wp2
  go_ret2
  exact ⟨rfl, HEND.out⟩
end Go.Proofs.Ytmcihkfbgcfccaa.H
