-- Written by this session's program gen.py (over the kit's printer) for this seat. Not trusted: Lean checks it.
import Derived.Test.YtmcihkfbgcfccaaZ0
namespace Go.Proofs.Ytmcihkfbgcfccaa.Z
open Go.RowKit Go.Proofs.YtmcihkfbgcfccaaW.PrintWords Go.Proofs.YtmcihkfbgcfccaaW.PrintLast Go.Proofs.YtmcihkfbgcfccaaW.PrintMore
attribute [local go_sem] max2_int min2_int max_two min_two max_three min_three max_four min_four   -- for this text's walks alone
set_option linter.unusedVariables false
set_option linter.unusedSimpArgs false

/-! ### syms_Exported: function 23 -/
def syms_Exported.f (a0_0 : ByteArray) (a0_1 : ByteArray) (a0_2 : Bool) (a0_3 : Int) (a0_4 : Bool) (a0_5 : Int) (a0_6 : Int) : Option (Bool) := if a0_4 = true then (some (a0_3 != 0)) else (some false)
set_option maxHeartbeats 8000000 in
set_option maxRecDepth 100000 in
theorem syms_Exported.calls (a0_0 : ByteArray) (a0_1 : ByteArray) (a0_2 : Bool) (a0_3 : Int) (a0_4 : Bool) (a0_5 : Int) (a0_6 : Int) (r : Bool) (w : World) (h : syms_Exported.f a0_0 a0_1 a0_2 a0_3 a0_4 a0_5 a0_6 = some r) :
    Calls Try.prog 23 #[.agg #[.string a0_0, .string a0_1, .bool a0_2, .int .i64 a0_3, .bool a0_4, .int .u64 a0_5, .int .u64 a0_6]] w fun e w' => e = .returned (.bool r) ∧ Below w.heap.size w w' := by
  have hu76 := Try.underlying76
  have HB := Aside0.mk (Below.refl w.heap.size w)
  have H : (if a0_4 = true then (some (a0_3 != 0)) else (some false)) = some r := h
  clear h
  by_cases c2 : a0_4 = true
  · subst c2
    have H1 : (some (a0_3 != 0)) = some r := by rw [if_pos rfl] at H; exact H
    clear H
    have H := H1
    clear H1
    obtain rfl := Option.some.inj H
    go_enter Try.func23, Try.ntmps23
    go_wp2_with (first | ((with_reducible refine gate_dst (N := 1) rfl ?_); refine box_event ?hg (N := 1) ?hd (cs := #[.string a0_0, .string a0_1, .bool a0_2, .int .i64 a0_3, .bool true, .int .u64 a0_5, .int .u64 a0_6]) (t := 76) ?hr ?_; (case hd => rfl); (case hg => rfl); (case hr => first | (go_simp; done) | (go_simp; rfl)); intro gb161 hg w3 hbox hb; have n0_ := Aside0.mk (below_step (by repeat (first | (with_reducible first | exact HB.out | apply below_alloc | apply pw_below_drewN | apply below_drew1) | exact HB.out)) hb); have n1_ := Aside0.mk (hbox); have n2_ := Aside0.mk ((by rw [hg]; exact (below_size (by repeat (first | (with_reducible first | exact HB.out | apply below_alloc | apply pw_below_drewN | apply below_drew1) | exact HB.out))) : w.heap.size ≤ gb161)); have n3_ := Aside0.mk ((by rw [hg]; exact (below_size (by repeat (first | (with_reducible first | exact HB.out | apply below_alloc | apply pw_below_drewN | apply below_drew1) | exact HB.out))) : w.heap.size ≤ gb161)); clear HB; have HB := n0_; have BK161 := n1_; have GW161 := n2_; have GE161 := n3_; clear n0_ n1_ n2_ n3_; clear hb hbox hg; have hcz4_0 : w3.cell? ⟨gb161, 0, none⟩ = some (.string a0_0) := (blk_cell BK161.out 0).trans rfl; have hcz4_1 : w3.cell? ⟨gb161, 1, none⟩ = some (.string a0_1) := (blk_cell BK161.out 1).trans rfl; have hcz4_2 : w3.cell? ⟨gb161, 2, none⟩ = some (.bool a0_2) := (blk_cell BK161.out 2).trans rfl; have hcz4_3 : w3.cell? ⟨gb161, 3, none⟩ = some (.int .i64 a0_3) := (blk_cell BK161.out 3).trans rfl; have hcz4_4 : w3.cell? ⟨gb161, 4, none⟩ = some (.bool true) := (blk_cell BK161.out 4).trans rfl; have hcz4_5 : w3.cell? ⟨gb161, 5, none⟩ = some (.int .u64 a0_5) := (blk_cell BK161.out 5).trans rfl; have hcz4_6 : w3.cell? ⟨gb161, 6, none⟩ = some (.int .u64 a0_6) := (blk_cell BK161.out 6).trans rfl; have hfz4_0 := blk_frozen BK161.out 0; have hfz4_1 := blk_frozen BK161.out 1; have hfz4_2 := blk_frozen BK161.out 2; have hfz4_3 := blk_frozen BK161.out 3; have hfz4_4 := blk_frozen BK161.out 4; have hfz4_5 := blk_frozen BK161.out 5; have hfz4_6 := blk_frozen BK161.out 6))
    go_ret
    exact ⟨by first | rfl | (simp [errW_none, errW_some] <;> rfl) | (simp [*, errW_none, errW_some] <;> rfl), by repeat (first | (with_reducible first | exact HB.out | apply below_alloc | apply pw_below_drewN | apply below_drew1 | refine below_set ?_ GE161.out) | exact HB.out)⟩
  · replace c2 := Bool.eq_false_iff.mpr c2
    subst c2
    have H1 : (some false) = some r := by rw [if_neg (show ¬ (false = true) by decide)] at H; exact H
    clear H
    have H := H1
    clear H1
    obtain rfl := Option.some.inj H
    go_enter Try.func23, Try.ntmps23
    go_wp2_with (first | ((with_reducible refine gate_dst (N := 1) rfl ?_); refine box_event ?hg (N := 1) ?hd (cs := #[.string a0_0, .string a0_1, .bool a0_2, .int .i64 a0_3, .bool false, .int .u64 a0_5, .int .u64 a0_6]) (t := 76) ?hr ?_; (case hd => rfl); (case hg => rfl); (case hr => first | (go_simp; done) | (go_simp; rfl)); intro gb161 hg w5 hbox hb; have n0_ := Aside0.mk (below_step (by repeat (first | (with_reducible first | exact HB.out | apply below_alloc | apply pw_below_drewN | apply below_drew1) | exact HB.out)) hb); have n1_ := Aside0.mk (hbox); have n2_ := Aside0.mk ((by rw [hg]; exact (below_size (by repeat (first | (with_reducible first | exact HB.out | apply below_alloc | apply pw_below_drewN | apply below_drew1) | exact HB.out))) : w.heap.size ≤ gb161)); have n3_ := Aside0.mk ((by rw [hg]; exact (below_size (by repeat (first | (with_reducible first | exact HB.out | apply below_alloc | apply pw_below_drewN | apply below_drew1) | exact HB.out))) : w.heap.size ≤ gb161)); clear HB; have HB := n0_; have BK161 := n1_; have GW161 := n2_; have GE161 := n3_; clear n0_ n1_ n2_ n3_; clear hb hbox hg; have hcz6_0 : w5.cell? ⟨gb161, 0, none⟩ = some (.string a0_0) := (blk_cell BK161.out 0).trans rfl; have hcz6_1 : w5.cell? ⟨gb161, 1, none⟩ = some (.string a0_1) := (blk_cell BK161.out 1).trans rfl; have hcz6_2 : w5.cell? ⟨gb161, 2, none⟩ = some (.bool a0_2) := (blk_cell BK161.out 2).trans rfl; have hcz6_3 : w5.cell? ⟨gb161, 3, none⟩ = some (.int .i64 a0_3) := (blk_cell BK161.out 3).trans rfl; have hcz6_4 : w5.cell? ⟨gb161, 4, none⟩ = some (.bool false) := (blk_cell BK161.out 4).trans rfl; have hcz6_5 : w5.cell? ⟨gb161, 5, none⟩ = some (.int .u64 a0_5) := (blk_cell BK161.out 5).trans rfl; have hcz6_6 : w5.cell? ⟨gb161, 6, none⟩ = some (.int .u64 a0_6) := (blk_cell BK161.out 6).trans rfl; have hfz6_0 := blk_frozen BK161.out 0; have hfz6_1 := blk_frozen BK161.out 1; have hfz6_2 := blk_frozen BK161.out 2; have hfz6_3 := blk_frozen BK161.out 3; have hfz6_4 := blk_frozen BK161.out 4; have hfz6_5 := blk_frozen BK161.out 5; have hfz6_6 := blk_frozen BK161.out 6))
    go_ret
    exact ⟨by first | rfl | (simp [errW_none, errW_some] <;> rfl) | (simp [*, errW_none, errW_some] <;> rfl), by repeat (first | (with_reducible first | exact HB.out | apply below_alloc | apply pw_below_drewN | apply below_drew1 | refine below_set ?_ GE161.out) | exact HB.out)⟩

/-! ### syms_Find: function 35 -/
mutual
def syms_Find.l0 : Nat → Bool → ByteArray → ByteArray → List (S76) → Int → Int → Option (Int)
  | 0, _, _, _, _, _, _ => none
  | k + 1, x1, x2, x3, x11, x12, x13 => if x13 < x12 then (if 0 ≤ x13 then (if x13 < (x11.length : Int) then ((syms_Exported.f ((rd_T76 x11 x13).f0) ((rd_T76 x11 x13).f1) ((rd_T76 x11 x13).f2) ((rd_T76 x11 x13).f3) ((rd_T76 x11 x13).f4) ((rd_T76 x11 x13).f5) ((rd_T76 x11 x13).f6)).bind fun t164 => (if t164 = true then (syms_Find.j1 k x1 x2 x3 x13 x11 x12 x13 (((rd_T76 x11 x13).f0).toList != x2.toList) ((rd_T76 x11 x13).f0) ((rd_T76 x11 x13).f1) ((rd_T76 x11 x13).f2) ((rd_T76 x11 x13).f3) ((rd_T76 x11 x13).f4) ((rd_T76 x11 x13).f5) ((rd_T76 x11 x13).f6)) else (syms_Find.j1 k x1 x2 x3 x13 x11 x12 x13 true ((rd_T76 x11 x13).f0) ((rd_T76 x11 x13).f1) ((rd_T76 x11 x13).f2) ((rd_T76 x11 x13).f3) ((rd_T76 x11 x13).f4) ((rd_T76 x11 x13).f5) ((rd_T76 x11 x13).f6)))) else (none)) else (none)) else (some (-1))
def syms_Find.j1 : Nat → Bool → ByteArray → ByteArray → Int → List (S76) → Int → Int → Bool → ByteArray → ByteArray → Bool → Int → Bool → Int → Int → Option (Int)
  | 0, _, _, _, _, _, _, _, _, _, _, _, _, _, _, _ => none
  | k + 1, x1, x2, x3, x9, x11, x12, x13, x26, x164000, x164001, x164002, x164003, x164004, x164005, x164006 => if x26 = true then (syms_Find.l0 k x1 x2 x3 x11 x12 (wrap64 (x13 + 1))) else (if x3.toList = ([] : List UInt8) then (if x164002 = true then (syms_Find.l0 k x1 x2 x3 x11 x12 (wrap64 (x13 + 1))) else (some x9)) else (if x164001.toList = x3.toList then (some x9) else (if x1 = true then (syms_Find.l0 k x1 x2 x3 x11 x12 (wrap64 (x13 + 1))) else (some x9))))
end
def syms_Find.f (k : Nat) (l0 : List (S76)) (a1 : Bool) (a2 : ByteArray) (a3 : ByteArray) : Option (Int) := syms_Find.l0 k a1 a2 a3 l0 (l0.length : Int) 0
theorem syms_Find.mono_l : ∀ k, (∀ y0 y1 y2 y3 y4 y5, LeO (syms_Find.l0 k y0 y1 y2 y3 y4 y5) (syms_Find.l0 (k + 1) y0 y1 y2 y3 y4 y5)) ∧ (∀ y0 y1 y2 y3 y4 y5 y6 y7 y8 y9 y10 y11 y12 y13 y14, LeO (syms_Find.j1 k y0 y1 y2 y3 y4 y5 y6 y7 y8 y9 y10 y11 y12 y13 y14) (syms_Find.j1 (k + 1) y0 y1 y2 y3 y4 y5 y6 y7 y8 y9 y10 y11 y12 y13 y14))
  | 0 => ⟨fun _ _ _ _ _ _ r h => by simp [syms_Find.l0] at h, fun _ _ _ _ _ _ _ _ _ _ _ _ _ _ _ r h => by simp [syms_Find.j1] at h⟩
  | k + 1 => by
    obtain ⟨ih0, ih1⟩ := syms_Find.mono_l k
    refine ⟨?_, ?_⟩
    · intro y0 y1 y2 y3 y4 y5
      unfold syms_Find.l0
      repeat' first
      | (with_reducible exact ih0 _ _ _ _ _ _)
      | (with_reducible exact ih1 _ _ _ _ _ _ _ _ _ _ _ _ _ _ _)
      | (with_reducible exact LeO.refl _)
      | (with_reducible exact LeO.none _)
      | (with_reducible refine LeO.ite ?_ ?_)
      | (with_reducible refine LeO.bind ?_ (fun _ => ?_))
      | exact ih0 _ _ _ _ _ _
      | exact ih1 _ _ _ _ _ _ _ _ _ _ _ _ _ _ _
      | exact LeO.none _
      | refine LeO.ite ?_ ?_
      | refine LeO.bind ?_ (fun _ => ?_)
    · intro y0 y1 y2 y3 y4 y5 y6 y7 y8 y9 y10 y11 y12 y13 y14
      unfold syms_Find.j1
      repeat' first
      | (with_reducible exact ih0 _ _ _ _ _ _)
      | (with_reducible exact ih1 _ _ _ _ _ _ _ _ _ _ _ _ _ _ _)
      | (with_reducible exact LeO.refl _)
      | (with_reducible exact LeO.none _)
      | (with_reducible refine LeO.ite ?_ ?_)
      | (with_reducible refine LeO.bind ?_ (fun _ => ?_))
      | exact ih0 _ _ _ _ _ _
      | exact ih1 _ _ _ _ _ _ _ _ _ _ _ _ _ _ _
      | exact LeO.none _
      | refine LeO.ite ?_ ?_
      | refine LeO.bind ?_ (fun _ => ?_)
theorem syms_Find.mono : ∀ a0 a1 a2 a3 k, LeO (syms_Find.f k a0 a1 a2 a3) (syms_Find.f (k + 1) a0 a1 a2 a3) := by
  intro a0 a1 a2 a3 k
  obtain ⟨ih0, ih1⟩ := syms_Find.mono_l k
  unfold syms_Find.f
  repeat' first
      | (with_reducible exact ih0 _ _ _ _ _ _)
      | (with_reducible exact ih1 _ _ _ _ _ _ _ _ _ _ _ _ _ _ _)
      | (with_reducible exact LeO.refl _)
      | (with_reducible exact LeO.none _)
      | (with_reducible refine LeO.ite ?_ ?_)
      | (with_reducible refine LeO.bind ?_ (fun _ => ?_))
      | exact ih0 _ _ _ _ _ _
      | exact ih1 _ _ _ _ _ _ _ _ _ _ _ _ _ _ _
      | exact LeO.none _
      | refine LeO.ite ?_ ?_
      | refine LeO.bind ?_ (fun _ => ?_)
set_option maxHeartbeats 8000000 in
set_option maxRecDepth 100000 in
theorem syms_Find.calls (k : Nat) (A0 : Option Addr) (c0 : Nat) (l0 : List (S76)) (a1 : Bool) (a2 : ByteArray) (a3 : ByteArray) (r : Int) (w : World) (hr0 : Kd.C k76 w A0 l0.length l0) (hc0 : l0.length ≤ c0) (h : syms_Find.f k l0 a1 a2 a3 = some r) :
    Calls Try.prog 35 #[.slice A0 l0.length c0, .bool a1, .string a2, .string a3] w fun e w' => e = .returned (.int .i64 r) ∧ Below w.heap.size w w' := by
  have hu76 := Try.underlying76
  have HR0 := Aside0.mk hr0
  have HC0 := Aside0.mk hc0
  clear hr0 hc0
  have HB := Aside0.mk (Below.refl w.heap.size w)
  have H : (syms_Find.l0 k a1 a2 a3 l0 (l0.length : Int) 0) = some r := h
  clear h
  have H' := Aside0.mk H
  clear H
  go_enter Try.func35, Try.ntmps35
  go_wp2
  go_loopg [13] k (fun kq v13 w' => ∃ (x13_1 : Int), v13 = .int .i64 x13_1 ∧ Aside0 (syms_Find.l0 kq a1 a2 a3 l0 (l0.length : Int) x13_1 = some r) ∧ Aside0 (kq ≤ k) ∧ Aside0 (Below w.heap.size w w'))
  case atStart => exact ⟨(0), (by first | rfl | (simp; done) | (simp [*]; done)), H', ⟨Nat.le_refl _⟩, ⟨by repeat (first | (with_reducible first | exact HB.out | apply below_alloc | apply pw_below_drewN | apply below_drew1) | exact HB.out)⟩⟩
  case round =>
    clear H'
    try clear p2
    try clear c3
    obtain ⟨x13_1, rfl, HA, HK1, HB⟩ := hrel
    cases gk with
    | zero => exact absurd HA.out (by simp [syms_Find.l0])
    | succ k1 =>
      have H := HA.out
      clear HA
      simp only [syms_Find.l0] at H
      by_cases c5 : x13_1 < (l0.length : Int)
      · rw [if_pos c5] at H
        have c5b0 : decide (x13_1 < (l0.length : Int)) = true := decide_eq_true c5
        clear c5
        by_cases c6 : 0 ≤ x13_1
        · rw [if_pos c6] at H
          have c6b0 : decide (0 ≤ x13_1) = true := decide_eq_true c6
          clear c6
          by_cases c7 : x13_1 < (l0.length : Int)
          · rw [if_pos c7] at H
            have c7b0 : decide (x13_1 < (l0.length : Int)) = true := decide_eq_true c7
            clear c7
            have HC8 := Aside0.mk H
            clear H
            have p162 : 0 ≤ (x13_1 : Int) := of_decide_eq_true (by first | (with_reducible assumption) | assumption)
            have q162 : x13_1 < (l0.length : Int) := of_decide_eq_true (by first | (with_reducible assumption) | assumption)
            obtain ⟨ad162, e162, hx162_0, hx162_1, hx162_2, hx162_3, hx162_4, hx162_5, hx162_6⟩ := at_T76 HR0.out x13_1 p162 q162
            cases e162
            replace hx162_0 := (HB.out.cell (World.block_lt_of_cell? w _ hx162_0)).trans hx162_0
            replace hx162_1 := (HB.out.cell (World.block_lt_of_cell? w _ hx162_1)).trans hx162_1
            replace hx162_2 := (HB.out.cell (World.block_lt_of_cell? w _ hx162_2)).trans hx162_2
            replace hx162_3 := (HB.out.cell (World.block_lt_of_cell? w _ hx162_3)).trans hx162_3
            replace hx162_4 := (HB.out.cell (World.block_lt_of_cell? w _ hx162_4)).trans hx162_4
            replace hx162_5 := (HB.out.cell (World.block_lt_of_cell? w _ hx162_5)).trans hx162_5
            replace hx162_6 := (HB.out.cell (World.block_lt_of_cell? w _ hx162_6)).trans hx162_6
            replace p162 := eq_true p162
            replace q162 := eq_true q162
            go_upto_region 4 with (first | ((with_reducible refine gate_dst (N := 10) rfl ?_); refine box_event ?hg (N := 10) ?hd (cs := #[.string (⟨#[]⟩ : ByteArray), .string (⟨#[]⟩ : ByteArray), .bool false, .int .i64 0, .bool false, .int .u64 0, .int .u64 0]) (t := 76) ?hr ?_; (case hd => rfl); (case hg => rfl); (case hr => first | (go_simp; done) | (go_simp; rfl)); intro gb163 hg w9 hbox hb; have n0_ := Aside0.mk (below_step (by repeat (first | (with_reducible first | exact HB.out | apply below_alloc | apply pw_below_drewN | apply below_drew1) | exact HB.out)) hb); have n1_ := Aside0.mk (hbox); have n2_ := Aside0.mk ((by rw [hg]; exact (below_size (by repeat (first | (with_reducible first | exact HB.out | apply below_alloc | apply pw_below_drewN | apply below_drew1) | exact HB.out))) : w.heap.size ≤ gb163)); have n3_ := Aside0.mk ((by rw [hg]; exact (below_size (by repeat (first | (with_reducible first | exact HB.out | apply below_alloc | apply pw_below_drewN | apply below_drew1) | exact HB.out))) : w.heap.size ≤ gb163)); clear HB; have HB := n0_; have BK163 := n1_; have GW163 := n2_; have GE163 := n3_; clear n0_ n1_ n2_ n3_; clear hb hbox hg; have hcz10_0 : w9.cell? ⟨gb163, 0, none⟩ = some (.string (⟨#[]⟩ : ByteArray)) := (blk_cell BK163.out 0).trans rfl; have hcz10_1 : w9.cell? ⟨gb163, 1, none⟩ = some (.string (⟨#[]⟩ : ByteArray)) := (blk_cell BK163.out 1).trans rfl; have hcz10_2 : w9.cell? ⟨gb163, 2, none⟩ = some (.bool false) := (blk_cell BK163.out 2).trans rfl; have hcz10_3 : w9.cell? ⟨gb163, 3, none⟩ = some (.int .i64 0) := (blk_cell BK163.out 3).trans rfl; have hcz10_4 : w9.cell? ⟨gb163, 4, none⟩ = some (.bool false) := (blk_cell BK163.out 4).trans rfl; have hcz10_5 : w9.cell? ⟨gb163, 5, none⟩ = some (.int .u64 0) := (blk_cell BK163.out 5).trans rfl; have hcz10_6 : w9.cell? ⟨gb163, 6, none⟩ = some (.int .u64 0) := (blk_cell BK163.out 6).trans rfl; have hfz10_0 := blk_frozen BK163.out 0; have hfz10_1 := blk_frozen BK163.out 1; have hfz10_2 := blk_frozen BK163.out 2; have hfz10_3 := blk_frozen BK163.out 3; have hfz10_4 := blk_frozen BK163.out 4; have hfz10_5 := blk_frozen BK163.out 5; have hfz10_6 := blk_frozen BK163.out 6))
            (try simp only [Act.put, List.setIfInBounds_toArray, List.set_cons_zero, List.set_cons_succ])
            go_cut [26] (fun v26 wc => ∃ (kq : Nat) (x26_7 : Bool), v26 = .bool x26_7 ∧ Aside0 (syms_Find.j1 kq a1 a2 a3 x13_1 l0 (l0.length : Int) x13_1 x26_7 ((rd_T76 l0 x13_1).f0) ((rd_T76 l0 x13_1).f1) ((rd_T76 l0 x13_1).f2) ((rd_T76 l0 x13_1).f3) ((rd_T76 l0 x13_1).f4) ((rd_T76 l0 x13_1).f5) ((rd_T76 l0 x13_1).f6) = some r) ∧ Aside0 (kq ≤ k1) ∧ Aside0 (wc.heap[gb163]? = some (.cells #[.string ((rd_T76 l0 x13_1).f0), .string ((rd_T76 l0 x13_1).f1), .bool ((rd_T76 l0 x13_1).f2), .int .i64 ((rd_T76 l0 x13_1).f3), .bool ((rd_T76 l0 x13_1).f4), .int .u64 ((rd_T76 l0 x13_1).f5), .int .u64 ((rd_T76 l0 x13_1).f6)] 76 (0, 0))) ∧ Aside0 (Below w.heap.size w wc))
            case first =>
              have H := HC8.out
              clear HC8
              replace H := Option.bind_eq_some_iff.mp H
              obtain ⟨t164, A110, H⟩ := H
              replace H : (if t164 = true then (syms_Find.j1 k1 a1 a2 a3 x13_1 l0 (l0.length : Int) x13_1 (((rd_T76 l0 x13_1).f0).toList != a2.toList) ((rd_T76 l0 x13_1).f0) ((rd_T76 l0 x13_1).f1) ((rd_T76 l0 x13_1).f2) ((rd_T76 l0 x13_1).f3) ((rd_T76 l0 x13_1).f4) ((rd_T76 l0 x13_1).f5) ((rd_T76 l0 x13_1).f6)) else (syms_Find.j1 k1 a1 a2 a3 x13_1 l0 (l0.length : Int) x13_1 true ((rd_T76 l0 x13_1).f0) ((rd_T76 l0 x13_1).f1) ((rd_T76 l0 x13_1).f2) ((rd_T76 l0 x13_1).f3) ((rd_T76 l0 x13_1).f4) ((rd_T76 l0 x13_1).f5) ((rd_T76 l0 x13_1).f6))) = some r := H
              have A11 := Aside0.mk A110
              clear A110
              by_cases c12 : t164 = true
              · subst c12
                have H1 : (syms_Find.j1 k1 a1 a2 a3 x13_1 l0 (l0.length : Int) x13_1 (((rd_T76 l0 x13_1).f0).toList != a2.toList) ((rd_T76 l0 x13_1).f0) ((rd_T76 l0 x13_1).f1) ((rd_T76 l0 x13_1).f2) ((rd_T76 l0 x13_1).f3) ((rd_T76 l0 x13_1).f4) ((rd_T76 l0 x13_1).f5) ((rd_T76 l0 x13_1).f6)) = some r := by rw [if_pos rfl] at H; exact H
                clear H
                have H := H1
                clear H1
                have H' := Aside0.mk H
                clear H
                have hcz13_0 : w9.cell? ⟨gb163, 0, none⟩ = some (.string (⟨#[]⟩ : ByteArray)) := (blk_cell BK163.out 0).trans rfl
                have hcz13_1 : w9.cell? ⟨gb163, 1, none⟩ = some (.string (⟨#[]⟩ : ByteArray)) := (blk_cell BK163.out 1).trans rfl
                have hcz13_2 : w9.cell? ⟨gb163, 2, none⟩ = some (.bool false) := (blk_cell BK163.out 2).trans rfl
                have hcz13_3 : w9.cell? ⟨gb163, 3, none⟩ = some (.int .i64 0) := (blk_cell BK163.out 3).trans rfl
                have hcz13_4 : w9.cell? ⟨gb163, 4, none⟩ = some (.bool false) := (blk_cell BK163.out 4).trans rfl
                have hcz13_5 : w9.cell? ⟨gb163, 5, none⟩ = some (.int .u64 0) := (blk_cell BK163.out 5).trans rfl
                have hcz13_6 : w9.cell? ⟨gb163, 6, none⟩ = some (.int .u64 0) := (blk_cell BK163.out 6).trans rfl
                have hfz13_0 := blk_frozen BK163.out 0
                have hfz13_1 := blk_frozen BK163.out 1
                have hfz13_2 := blk_frozen BK163.out 2
                have hfz13_3 := blk_frozen BK163.out 3
                have hfz13_4 := blk_frozen BK163.out 4
                have hfz13_5 := blk_frozen BK163.out 5
                have hfz13_6 := blk_frozen BK163.out 6
                go_wp2_with (first | ((with_reducible refine gate_callee (f := 23) rfl ?_); refine goesL_ (some 19) rfl rfl Try.func23 (by kernel_rfl) rfl #[.agg #[.string ((rd_T76 l0 x13_1).f0), .string ((rd_T76 l0 x13_1).f1), .bool ((rd_T76 l0 x13_1).f2), .int .i64 ((rd_T76 l0 x13_1).f3), .bool ((rd_T76 l0 x13_1).f4), .int .u64 ((rd_T76 l0 x13_1).f5), .int .u64 ((rd_T76 l0 x13_1).f6)]] rfl (by (try simp only [List.map_toArray, List.map_cons, List.map_nil]); first | done | rfl | (simp only [List.length_drop, List.length_take]; rfl)) ?_; (with_reducible refine (syms_Exported.calls ((rd_T76 l0 x13_1).f0) ((rd_T76 l0 x13_1).f1) ((rd_T76 l0 x13_1).f2) ((rd_T76 l0 x13_1).f3) ((rd_T76 l0 x13_1).f4) ((rd_T76 l0 x13_1).f5) ((rd_T76 l0 x13_1).f6) true _ A11.out).mono ?_); rintro e w14 ⟨rfl, hb⟩; refine ⟨_, rfl, ?_⟩; have n0_ := Aside0.mk (blk_below (g := gb163) (o := .cells #[.string ((rd_T76 l0 x13_1).f0), .string ((rd_T76 l0 x13_1).f1), .bool ((rd_T76 l0 x13_1).f2), .int .i64 ((rd_T76 l0 x13_1).f3), .bool ((rd_T76 l0 x13_1).f4), .int .u64 ((rd_T76 l0 x13_1).f5), .int .u64 ((rd_T76 l0 x13_1).f6)] 76 (0, 0)) (by (with_reducible repeat (first | refine blk_drewN ?_ _ | refine blk_drew ?_ | refine blk_alloc ?_ _)); refine blk_put (cs := #[.string ((rd_T76 l0 x13_1).f0), .string ((rd_T76 l0 x13_1).f1), .bool ((rd_T76 l0 x13_1).f2), .int .i64 ((rd_T76 l0 x13_1).f3), .bool ((rd_T76 l0 x13_1).f4), .int .u64 ((rd_T76 l0 x13_1).f5), .int .u64 0]) ?_ 6 _ rfl; (with_reducible repeat (first | refine blk_drewN ?_ _ | refine blk_drew ?_ | refine blk_alloc ?_ _)); refine blk_put (cs := #[.string ((rd_T76 l0 x13_1).f0), .string ((rd_T76 l0 x13_1).f1), .bool ((rd_T76 l0 x13_1).f2), .int .i64 ((rd_T76 l0 x13_1).f3), .bool ((rd_T76 l0 x13_1).f4), .int .u64 0, .int .u64 0]) ?_ 5 _ rfl; (with_reducible repeat (first | refine blk_drewN ?_ _ | refine blk_drew ?_ | refine blk_alloc ?_ _)); refine blk_put (cs := #[.string ((rd_T76 l0 x13_1).f0), .string ((rd_T76 l0 x13_1).f1), .bool ((rd_T76 l0 x13_1).f2), .int .i64 ((rd_T76 l0 x13_1).f3), .bool false, .int .u64 0, .int .u64 0]) ?_ 4 _ rfl; (with_reducible repeat (first | refine blk_drewN ?_ _ | refine blk_drew ?_ | refine blk_alloc ?_ _)); refine blk_put (cs := #[.string ((rd_T76 l0 x13_1).f0), .string ((rd_T76 l0 x13_1).f1), .bool ((rd_T76 l0 x13_1).f2), .int .i64 0, .bool false, .int .u64 0, .int .u64 0]) ?_ 3 _ rfl; (with_reducible repeat (first | refine blk_drewN ?_ _ | refine blk_drew ?_ | refine blk_alloc ?_ _)); refine blk_put (cs := #[.string ((rd_T76 l0 x13_1).f0), .string ((rd_T76 l0 x13_1).f1), .bool false, .int .i64 0, .bool false, .int .u64 0, .int .u64 0]) ?_ 2 _ rfl; (with_reducible repeat (first | refine blk_drewN ?_ _ | refine blk_drew ?_ | refine blk_alloc ?_ _)); refine blk_put (cs := #[.string ((rd_T76 l0 x13_1).f0), .string (⟨#[]⟩ : ByteArray), .bool false, .int .i64 0, .bool false, .int .u64 0, .int .u64 0]) ?_ 1 _ rfl; (with_reducible repeat (first | refine blk_drewN ?_ _ | refine blk_drew ?_ | refine blk_alloc ?_ _)); refine blk_put (cs := #[.string (⟨#[]⟩ : ByteArray), .string (⟨#[]⟩ : ByteArray), .bool false, .int .i64 0, .bool false, .int .u64 0, .int .u64 0]) ?_ 0 _ rfl; (with_reducible repeat (first | refine blk_drewN ?_ _ | refine blk_drew ?_ | refine blk_alloc ?_ _)); exact BK163.out) hb); have n1_ := Aside0.mk (below_step (by repeat (first | (with_reducible first | exact HB.out | apply below_alloc | apply pw_below_drewN | apply below_drew1 | refine below_set ?_ GE163.out) | exact HB.out)) hb); clear BK163; clear HB; have BK163 := n0_; have HB := n1_; clear n0_ n1_; (try clear hb); (try clear hb2); (try clear hk); (try clear hi); have hcz15_0 : w14.cell? ⟨gb163, 0, none⟩ = some (.string ((rd_T76 l0 x13_1).f0)) := (blk_cell BK163.out 0).trans rfl; have hcz15_1 : w14.cell? ⟨gb163, 1, none⟩ = some (.string ((rd_T76 l0 x13_1).f1)) := (blk_cell BK163.out 1).trans rfl; have hcz15_2 : w14.cell? ⟨gb163, 2, none⟩ = some (.bool ((rd_T76 l0 x13_1).f2)) := (blk_cell BK163.out 2).trans rfl; have hcz15_3 : w14.cell? ⟨gb163, 3, none⟩ = some (.int .i64 ((rd_T76 l0 x13_1).f3)) := (blk_cell BK163.out 3).trans rfl; have hcz15_4 : w14.cell? ⟨gb163, 4, none⟩ = some (.bool ((rd_T76 l0 x13_1).f4)) := (blk_cell BK163.out 4).trans rfl; have hcz15_5 : w14.cell? ⟨gb163, 5, none⟩ = some (.int .u64 ((rd_T76 l0 x13_1).f5)) := (blk_cell BK163.out 5).trans rfl; have hcz15_6 : w14.cell? ⟨gb163, 6, none⟩ = some (.int .u64 ((rd_T76 l0 x13_1).f6)) := (blk_cell BK163.out 6).trans rfl; have hfz15_0 := blk_frozen BK163.out 0; have hfz15_1 := blk_frozen BK163.out 1; have hfz15_2 := blk_frozen BK163.out 2; have hfz15_3 := blk_frozen BK163.out 3; have hfz15_4 := blk_frozen BK163.out 4; have hfz15_5 := blk_frozen BK163.out 5; have hfz15_6 := blk_frozen BK163.out 6))
                go_meet
                case rel => exact ⟨_, ((((rd_T76 l0 x13_1).f0).toList != a2.toList)), (by first | rfl | (simp; done) | (simp [*]; done)), H', ⟨by have := HK1.out; first | omega | exact Nat.le_refl _⟩, ⟨by (with_reducible repeat (first | refine blk_drewN ?_ _ | refine blk_drew ?_ | refine blk_alloc ?_ _)); exact BK163.out⟩, ⟨by repeat (first | (with_reducible first | exact HB.out | apply below_alloc | apply pw_below_drewN | apply below_drew1 | refine below_set ?_ GE163.out) | exact HB.out)⟩⟩
              · replace c12 := Bool.eq_false_iff.mpr c12
                subst c12
                have H1 : (syms_Find.j1 k1 a1 a2 a3 x13_1 l0 (l0.length : Int) x13_1 true ((rd_T76 l0 x13_1).f0) ((rd_T76 l0 x13_1).f1) ((rd_T76 l0 x13_1).f2) ((rd_T76 l0 x13_1).f3) ((rd_T76 l0 x13_1).f4) ((rd_T76 l0 x13_1).f5) ((rd_T76 l0 x13_1).f6)) = some r := by rw [if_neg (show ¬ (false = true) by decide)] at H; exact H
                clear H
                have H := H1
                clear H1
                have H' := Aside0.mk H
                clear H
                have hcz16_0 : w9.cell? ⟨gb163, 0, none⟩ = some (.string (⟨#[]⟩ : ByteArray)) := (blk_cell BK163.out 0).trans rfl
                have hcz16_1 : w9.cell? ⟨gb163, 1, none⟩ = some (.string (⟨#[]⟩ : ByteArray)) := (blk_cell BK163.out 1).trans rfl
                have hcz16_2 : w9.cell? ⟨gb163, 2, none⟩ = some (.bool false) := (blk_cell BK163.out 2).trans rfl
                have hcz16_3 : w9.cell? ⟨gb163, 3, none⟩ = some (.int .i64 0) := (blk_cell BK163.out 3).trans rfl
                have hcz16_4 : w9.cell? ⟨gb163, 4, none⟩ = some (.bool false) := (blk_cell BK163.out 4).trans rfl
                have hcz16_5 : w9.cell? ⟨gb163, 5, none⟩ = some (.int .u64 0) := (blk_cell BK163.out 5).trans rfl
                have hcz16_6 : w9.cell? ⟨gb163, 6, none⟩ = some (.int .u64 0) := (blk_cell BK163.out 6).trans rfl
                have hfz16_0 := blk_frozen BK163.out 0
                have hfz16_1 := blk_frozen BK163.out 1
                have hfz16_2 := blk_frozen BK163.out 2
                have hfz16_3 := blk_frozen BK163.out 3
                have hfz16_4 := blk_frozen BK163.out 4
                have hfz16_5 := blk_frozen BK163.out 5
                have hfz16_6 := blk_frozen BK163.out 6
                go_wp2_with (first | ((with_reducible refine gate_callee (f := 23) rfl ?_); refine goesL_ (some 19) rfl rfl Try.func23 (by kernel_rfl) rfl #[.agg #[.string ((rd_T76 l0 x13_1).f0), .string ((rd_T76 l0 x13_1).f1), .bool ((rd_T76 l0 x13_1).f2), .int .i64 ((rd_T76 l0 x13_1).f3), .bool ((rd_T76 l0 x13_1).f4), .int .u64 ((rd_T76 l0 x13_1).f5), .int .u64 ((rd_T76 l0 x13_1).f6)]] rfl (by (try simp only [List.map_toArray, List.map_cons, List.map_nil]); first | done | rfl | (simp only [List.length_drop, List.length_take]; rfl)) ?_; (with_reducible refine (syms_Exported.calls ((rd_T76 l0 x13_1).f0) ((rd_T76 l0 x13_1).f1) ((rd_T76 l0 x13_1).f2) ((rd_T76 l0 x13_1).f3) ((rd_T76 l0 x13_1).f4) ((rd_T76 l0 x13_1).f5) ((rd_T76 l0 x13_1).f6) false _ A11.out).mono ?_); rintro e w17 ⟨rfl, hb⟩; refine ⟨_, rfl, ?_⟩; have n0_ := Aside0.mk (blk_below (g := gb163) (o := .cells #[.string ((rd_T76 l0 x13_1).f0), .string ((rd_T76 l0 x13_1).f1), .bool ((rd_T76 l0 x13_1).f2), .int .i64 ((rd_T76 l0 x13_1).f3), .bool ((rd_T76 l0 x13_1).f4), .int .u64 ((rd_T76 l0 x13_1).f5), .int .u64 ((rd_T76 l0 x13_1).f6)] 76 (0, 0)) (by (with_reducible repeat (first | refine blk_drewN ?_ _ | refine blk_drew ?_ | refine blk_alloc ?_ _)); refine blk_put (cs := #[.string ((rd_T76 l0 x13_1).f0), .string ((rd_T76 l0 x13_1).f1), .bool ((rd_T76 l0 x13_1).f2), .int .i64 ((rd_T76 l0 x13_1).f3), .bool ((rd_T76 l0 x13_1).f4), .int .u64 ((rd_T76 l0 x13_1).f5), .int .u64 0]) ?_ 6 _ rfl; (with_reducible repeat (first | refine blk_drewN ?_ _ | refine blk_drew ?_ | refine blk_alloc ?_ _)); refine blk_put (cs := #[.string ((rd_T76 l0 x13_1).f0), .string ((rd_T76 l0 x13_1).f1), .bool ((rd_T76 l0 x13_1).f2), .int .i64 ((rd_T76 l0 x13_1).f3), .bool ((rd_T76 l0 x13_1).f4), .int .u64 0, .int .u64 0]) ?_ 5 _ rfl; (with_reducible repeat (first | refine blk_drewN ?_ _ | refine blk_drew ?_ | refine blk_alloc ?_ _)); refine blk_put (cs := #[.string ((rd_T76 l0 x13_1).f0), .string ((rd_T76 l0 x13_1).f1), .bool ((rd_T76 l0 x13_1).f2), .int .i64 ((rd_T76 l0 x13_1).f3), .bool false, .int .u64 0, .int .u64 0]) ?_ 4 _ rfl; (with_reducible repeat (first | refine blk_drewN ?_ _ | refine blk_drew ?_ | refine blk_alloc ?_ _)); refine blk_put (cs := #[.string ((rd_T76 l0 x13_1).f0), .string ((rd_T76 l0 x13_1).f1), .bool ((rd_T76 l0 x13_1).f2), .int .i64 0, .bool false, .int .u64 0, .int .u64 0]) ?_ 3 _ rfl; (with_reducible repeat (first | refine blk_drewN ?_ _ | refine blk_drew ?_ | refine blk_alloc ?_ _)); refine blk_put (cs := #[.string ((rd_T76 l0 x13_1).f0), .string ((rd_T76 l0 x13_1).f1), .bool false, .int .i64 0, .bool false, .int .u64 0, .int .u64 0]) ?_ 2 _ rfl; (with_reducible repeat (first | refine blk_drewN ?_ _ | refine blk_drew ?_ | refine blk_alloc ?_ _)); refine blk_put (cs := #[.string ((rd_T76 l0 x13_1).f0), .string (⟨#[]⟩ : ByteArray), .bool false, .int .i64 0, .bool false, .int .u64 0, .int .u64 0]) ?_ 1 _ rfl; (with_reducible repeat (first | refine blk_drewN ?_ _ | refine blk_drew ?_ | refine blk_alloc ?_ _)); refine blk_put (cs := #[.string (⟨#[]⟩ : ByteArray), .string (⟨#[]⟩ : ByteArray), .bool false, .int .i64 0, .bool false, .int .u64 0, .int .u64 0]) ?_ 0 _ rfl; (with_reducible repeat (first | refine blk_drewN ?_ _ | refine blk_drew ?_ | refine blk_alloc ?_ _)); exact BK163.out) hb); have n1_ := Aside0.mk (below_step (by repeat (first | (with_reducible first | exact HB.out | apply below_alloc | apply pw_below_drewN | apply below_drew1 | refine below_set ?_ GE163.out) | exact HB.out)) hb); clear BK163; clear HB; have BK163 := n0_; have HB := n1_; clear n0_ n1_; (try clear hb); (try clear hb2); (try clear hk); (try clear hi)))
                go_meet
                case rel => exact ⟨_, (true), (by first | rfl | (simp; done) | (simp [*]; done)), H', ⟨by have := HK1.out; first | omega | exact Nat.le_refl _⟩, ⟨by (with_reducible repeat (first | refine blk_drewN ?_ _ | refine blk_drew ?_ | refine blk_alloc ?_ _)); exact BK163.out⟩, ⟨by repeat (first | (with_reducible first | exact HB.out | apply below_alloc | apply pw_below_drewN | apply below_drew1 | refine below_set ?_ GE163.out) | exact HB.out)⟩⟩
            case rest =>
              clear HC8
              try clear c1
              try clear p1
              try clear q1
              try clear hx1
              try clear c2
              try clear p2
              try clear c3
              try clear c5
              try clear c5b0
              try clear c6
              try clear c6b0
              try clear c7
              try clear c7b0
              try clear c12
              try clear p16
              try clear q16
              try clear hx16
              try clear hcz10_0
              try clear hcz10_1
              try clear hcz10_2
              try clear hcz10_3
              try clear hcz10_4
              try clear hcz10_5
              try clear hcz10_6
              try clear hcz13_0
              try clear hcz13_1
              try clear hcz13_2
              try clear hcz13_3
              try clear hcz13_4
              try clear hcz13_5
              try clear hcz13_6
              try clear hcz15_0
              try clear hcz15_1
              try clear hcz15_2
              try clear hcz15_3
              try clear hcz15_4
              try clear hcz15_5
              try clear hcz15_6
              try clear hcz16_0
              try clear hcz16_1
              try clear hcz16_2
              try clear hcz16_3
              try clear hcz16_4
              try clear hcz16_5
              try clear hcz16_6
              try clear hfz10_0
              try clear hfz10_1
              try clear hfz10_2
              try clear hfz10_3
              try clear hfz10_4
              try clear hfz10_5
              try clear hfz10_6
              try clear hfz13_0
              try clear hfz13_1
              try clear hfz13_2
              try clear hfz13_3
              try clear hfz13_4
              try clear hfz13_5
              try clear hfz13_6
              try clear hfz15_0
              try clear hfz15_1
              try clear hfz15_2
              try clear hfz15_3
              try clear hfz15_4
              try clear hfz15_5
              try clear hfz15_6
              try clear hfz16_0
              try clear hfz16_1
              try clear hfz16_2
              try clear hfz16_3
              try clear hfz16_4
              try clear hfz16_5
              try clear hfz16_6
              try clear hx162_0
              try clear hx162_1
              try clear hx162_2
              try clear hx162_3
              try clear hx162_4
              try clear hx162_5
              try clear hx162_6
              try clear p162
              try clear p2
              try clear q162
              obtain ⟨kq, x26_7, rfl, HA, HJ7, BK163, HB⟩ := hcut
              cases kq with
              | zero => exact absurd HA.out (by simp [syms_Find.j1])
              | succ kj7 =>
                have H := HA.out
                clear HA
                simp only [syms_Find.j1] at H
                by_cases c18 : x26_7 = true
                · subst c18
                  have H1 : (syms_Find.l0 kj7 a1 a2 a3 l0 (l0.length : Int) (wrap64 (x13_1 + 1))) = some r := by rw [if_pos rfl] at H; exact H
                  clear H
                  have H := H1
                  clear H1
                  have H' := Aside0.mk H
                  clear H
                  go_wp2
                  go_roundg kj7
                  case measure => have := HK1.out; have := HJ7.out; omega
                  case rel => exact ⟨(wrap64 (x13_1 + 1)), (by first | rfl | (simp; done) | (simp [*]; done)), H', ⟨by have := HK1.out; have := HJ7.out; omega⟩, ⟨by repeat (first | (with_reducible first | exact HB.out | apply below_alloc | apply pw_below_drewN | apply below_drew1 | refine below_set ?_ GE163.out) | exact HB.out)⟩⟩
                · replace c18 := Bool.eq_false_iff.mpr c18
                  subst c18
                  have H1 : (if a3.toList = ([] : List UInt8) then (if ((rd_T76 l0 x13_1).f2) = true then (syms_Find.l0 kj7 a1 a2 a3 l0 (l0.length : Int) (wrap64 (x13_1 + 1))) else (some x13_1)) else (if ((rd_T76 l0 x13_1).f1).toList = a3.toList then (some x13_1) else (if a1 = true then (syms_Find.l0 kj7 a1 a2 a3 l0 (l0.length : Int) (wrap64 (x13_1 + 1))) else (some x13_1)))) = some r := by rw [if_neg (show ¬ (false = true) by decide)] at H; exact H
                  clear H
                  have H := H1
                  clear H1
                  by_cases c19 : a3.toList = ([] : List UInt8)
                  · rw [if_pos c19] at H
                    have c19b0 : (a3.toList == ([] : List UInt8)) = true := beq_iff_eq.mpr c19
                    have c19b1 : (a3.toList != ([] : List UInt8)) = false := bne_eq_false_iff_eq.mpr c19
                    clear c19
                    by_cases c20 : ((rd_T76 l0 x13_1).f2) = true
                    · rw [if_pos c20] at H
                      have c20b0 : ((rd_T76 l0 x13_1).f2) = true := c20
                      clear c20
                      have H' := Aside0.mk H
                      clear H
                      have hcz21_0 : wc.cell? ⟨gb163, 0, none⟩ = some (.string ((rd_T76 l0 x13_1).f0)) := (blk_cell BK163.out 0).trans rfl
                      have hcz21_1 : wc.cell? ⟨gb163, 1, none⟩ = some (.string ((rd_T76 l0 x13_1).f1)) := (blk_cell BK163.out 1).trans rfl
                      have hcz21_2 : wc.cell? ⟨gb163, 2, none⟩ = some (.bool ((rd_T76 l0 x13_1).f2)) := (blk_cell BK163.out 2).trans rfl
                      have hcz21_3 : wc.cell? ⟨gb163, 3, none⟩ = some (.int .i64 ((rd_T76 l0 x13_1).f3)) := (blk_cell BK163.out 3).trans rfl
                      have hcz21_4 : wc.cell? ⟨gb163, 4, none⟩ = some (.bool ((rd_T76 l0 x13_1).f4)) := (blk_cell BK163.out 4).trans rfl
                      have hcz21_5 : wc.cell? ⟨gb163, 5, none⟩ = some (.int .u64 ((rd_T76 l0 x13_1).f5)) := (blk_cell BK163.out 5).trans rfl
                      have hcz21_6 : wc.cell? ⟨gb163, 6, none⟩ = some (.int .u64 ((rd_T76 l0 x13_1).f6)) := (blk_cell BK163.out 6).trans rfl
                      have hfz21_0 := blk_frozen BK163.out 0
                      have hfz21_1 := blk_frozen BK163.out 1
                      have hfz21_2 := blk_frozen BK163.out 2
                      have hfz21_3 := blk_frozen BK163.out 3
                      have hfz21_4 := blk_frozen BK163.out 4
                      have hfz21_5 := blk_frozen BK163.out 5
                      have hfz21_6 := blk_frozen BK163.out 6
                      go_wp2
                      go_roundg kj7
                      case measure => have := HK1.out; have := HJ7.out; omega
                      case rel => exact ⟨(wrap64 (x13_1 + 1)), (by first | rfl | (simp; done) | (simp [*]; done)), H', ⟨by have := HK1.out; have := HJ7.out; omega⟩, ⟨by repeat (first | (with_reducible first | exact HB.out | apply below_alloc | apply pw_below_drewN | apply below_drew1 | refine below_set ?_ GE163.out) | exact HB.out)⟩⟩
                    · rw [if_neg c20] at H
                      have c20b0 : ((rd_T76 l0 x13_1).f2) = false := by simpa using c20
                      clear c20
                      obtain rfl := Option.some.inj H
                      have hcz22_0 : wc.cell? ⟨gb163, 0, none⟩ = some (.string ((rd_T76 l0 x13_1).f0)) := (blk_cell BK163.out 0).trans rfl
                      have hcz22_1 : wc.cell? ⟨gb163, 1, none⟩ = some (.string ((rd_T76 l0 x13_1).f1)) := (blk_cell BK163.out 1).trans rfl
                      have hcz22_2 : wc.cell? ⟨gb163, 2, none⟩ = some (.bool ((rd_T76 l0 x13_1).f2)) := (blk_cell BK163.out 2).trans rfl
                      have hcz22_3 : wc.cell? ⟨gb163, 3, none⟩ = some (.int .i64 ((rd_T76 l0 x13_1).f3)) := (blk_cell BK163.out 3).trans rfl
                      have hcz22_4 : wc.cell? ⟨gb163, 4, none⟩ = some (.bool ((rd_T76 l0 x13_1).f4)) := (blk_cell BK163.out 4).trans rfl
                      have hcz22_5 : wc.cell? ⟨gb163, 5, none⟩ = some (.int .u64 ((rd_T76 l0 x13_1).f5)) := (blk_cell BK163.out 5).trans rfl
                      have hcz22_6 : wc.cell? ⟨gb163, 6, none⟩ = some (.int .u64 ((rd_T76 l0 x13_1).f6)) := (blk_cell BK163.out 6).trans rfl
                      have hfz22_0 := blk_frozen BK163.out 0
                      have hfz22_1 := blk_frozen BK163.out 1
                      have hfz22_2 := blk_frozen BK163.out 2
                      have hfz22_3 := blk_frozen BK163.out 3
                      have hfz22_4 := blk_frozen BK163.out 4
                      have hfz22_5 := blk_frozen BK163.out 5
                      have hfz22_6 := blk_frozen BK163.out 6
                      go_wp2
                      go_ret
                      exact ⟨by first | rfl | (simp [errW_none, errW_some] <;> rfl) | (simp [*, errW_none, errW_some] <;> rfl), by repeat (first | (with_reducible first | exact HB.out | apply below_alloc | apply pw_below_drewN | apply below_drew1 | refine below_set ?_ GE163.out) | exact HB.out)⟩
                  · rw [if_neg c19] at H
                    have c19b0 : (a3.toList == ([] : List UInt8)) = false := beq_eq_false_iff_ne.mpr c19
                    have c19b1 : (a3.toList != ([] : List UInt8)) = true := bne_iff_ne.mpr c19
                    by_cases c23 : ((rd_T76 l0 x13_1).f1).toList = a3.toList
                    · rw [if_pos c23] at H
                      have c23b0 : (((rd_T76 l0 x13_1).f1).toList == a3.toList) = true := beq_iff_eq.mpr c23
                      have c23b1 : (((rd_T76 l0 x13_1).f1).toList != a3.toList) = false := bne_eq_false_iff_eq.mpr c23
                      clear c23
                      obtain rfl := Option.some.inj H
                      have hcz24_0 : wc.cell? ⟨gb163, 0, none⟩ = some (.string ((rd_T76 l0 x13_1).f0)) := (blk_cell BK163.out 0).trans rfl
                      have hcz24_1 : wc.cell? ⟨gb163, 1, none⟩ = some (.string ((rd_T76 l0 x13_1).f1)) := (blk_cell BK163.out 1).trans rfl
                      have hcz24_2 : wc.cell? ⟨gb163, 2, none⟩ = some (.bool ((rd_T76 l0 x13_1).f2)) := (blk_cell BK163.out 2).trans rfl
                      have hcz24_3 : wc.cell? ⟨gb163, 3, none⟩ = some (.int .i64 ((rd_T76 l0 x13_1).f3)) := (blk_cell BK163.out 3).trans rfl
                      have hcz24_4 : wc.cell? ⟨gb163, 4, none⟩ = some (.bool ((rd_T76 l0 x13_1).f4)) := (blk_cell BK163.out 4).trans rfl
                      have hcz24_5 : wc.cell? ⟨gb163, 5, none⟩ = some (.int .u64 ((rd_T76 l0 x13_1).f5)) := (blk_cell BK163.out 5).trans rfl
                      have hcz24_6 : wc.cell? ⟨gb163, 6, none⟩ = some (.int .u64 ((rd_T76 l0 x13_1).f6)) := (blk_cell BK163.out 6).trans rfl
                      have hfz24_0 := blk_frozen BK163.out 0
                      have hfz24_1 := blk_frozen BK163.out 1
                      have hfz24_2 := blk_frozen BK163.out 2
                      have hfz24_3 := blk_frozen BK163.out 3
                      have hfz24_4 := blk_frozen BK163.out 4
                      have hfz24_5 := blk_frozen BK163.out 5
                      have hfz24_6 := blk_frozen BK163.out 6
                      go_wp2
                      go_ret
                      exact ⟨by first | rfl | (simp [errW_none, errW_some] <;> rfl) | (simp [*, errW_none, errW_some] <;> rfl), by repeat (first | (with_reducible first | exact HB.out | apply below_alloc | apply pw_below_drewN | apply below_drew1 | refine below_set ?_ GE163.out) | exact HB.out)⟩
                    · rw [if_neg c23] at H
                      have c23b0 : (((rd_T76 l0 x13_1).f1).toList == a3.toList) = false := beq_eq_false_iff_ne.mpr c23
                      have c23b1 : (((rd_T76 l0 x13_1).f1).toList != a3.toList) = true := bne_iff_ne.mpr c23
                      by_cases c25 : a1 = true
                      · subst c25
                        have H1 : (syms_Find.l0 kj7 true a2 a3 l0 (l0.length : Int) (wrap64 (x13_1 + 1))) = some r := by rw [if_pos rfl] at H; exact H
                        clear H
                        have H := H1
                        clear H1
                        have H' := Aside0.mk H
                        clear H
                        have hcz26_0 : wc.cell? ⟨gb163, 0, none⟩ = some (.string ((rd_T76 l0 x13_1).f0)) := (blk_cell BK163.out 0).trans rfl
                        have hcz26_1 : wc.cell? ⟨gb163, 1, none⟩ = some (.string ((rd_T76 l0 x13_1).f1)) := (blk_cell BK163.out 1).trans rfl
                        have hcz26_2 : wc.cell? ⟨gb163, 2, none⟩ = some (.bool ((rd_T76 l0 x13_1).f2)) := (blk_cell BK163.out 2).trans rfl
                        have hcz26_3 : wc.cell? ⟨gb163, 3, none⟩ = some (.int .i64 ((rd_T76 l0 x13_1).f3)) := (blk_cell BK163.out 3).trans rfl
                        have hcz26_4 : wc.cell? ⟨gb163, 4, none⟩ = some (.bool ((rd_T76 l0 x13_1).f4)) := (blk_cell BK163.out 4).trans rfl
                        have hcz26_5 : wc.cell? ⟨gb163, 5, none⟩ = some (.int .u64 ((rd_T76 l0 x13_1).f5)) := (blk_cell BK163.out 5).trans rfl
                        have hcz26_6 : wc.cell? ⟨gb163, 6, none⟩ = some (.int .u64 ((rd_T76 l0 x13_1).f6)) := (blk_cell BK163.out 6).trans rfl
                        have hfz26_0 := blk_frozen BK163.out 0
                        have hfz26_1 := blk_frozen BK163.out 1
                        have hfz26_2 := blk_frozen BK163.out 2
                        have hfz26_3 := blk_frozen BK163.out 3
                        have hfz26_4 := blk_frozen BK163.out 4
                        have hfz26_5 := blk_frozen BK163.out 5
                        have hfz26_6 := blk_frozen BK163.out 6
                        go_wp2
                        go_roundg kj7
                        case measure => have := HK1.out; have := HJ7.out; omega
                        case rel => exact ⟨(wrap64 (x13_1 + 1)), (by first | rfl | (simp; done) | (simp [*]; done)), H', ⟨by have := HK1.out; have := HJ7.out; omega⟩, ⟨by repeat (first | (with_reducible first | exact HB.out | apply below_alloc | apply pw_below_drewN | apply below_drew1 | refine below_set ?_ GE163.out) | exact HB.out)⟩⟩
                      · replace c25 := Bool.eq_false_iff.mpr c25
                        subst c25
                        have H1 : (some x13_1) = some r := by rw [if_neg (show ¬ (false = true) by decide)] at H; exact H
                        clear H
                        have H := H1
                        clear H1
                        obtain rfl := Option.some.inj H
                        have hcz27_0 : wc.cell? ⟨gb163, 0, none⟩ = some (.string ((rd_T76 l0 x13_1).f0)) := (blk_cell BK163.out 0).trans rfl
                        have hcz27_1 : wc.cell? ⟨gb163, 1, none⟩ = some (.string ((rd_T76 l0 x13_1).f1)) := (blk_cell BK163.out 1).trans rfl
                        have hcz27_2 : wc.cell? ⟨gb163, 2, none⟩ = some (.bool ((rd_T76 l0 x13_1).f2)) := (blk_cell BK163.out 2).trans rfl
                        have hcz27_3 : wc.cell? ⟨gb163, 3, none⟩ = some (.int .i64 ((rd_T76 l0 x13_1).f3)) := (blk_cell BK163.out 3).trans rfl
                        have hcz27_4 : wc.cell? ⟨gb163, 4, none⟩ = some (.bool ((rd_T76 l0 x13_1).f4)) := (blk_cell BK163.out 4).trans rfl
                        have hcz27_5 : wc.cell? ⟨gb163, 5, none⟩ = some (.int .u64 ((rd_T76 l0 x13_1).f5)) := (blk_cell BK163.out 5).trans rfl
                        have hcz27_6 : wc.cell? ⟨gb163, 6, none⟩ = some (.int .u64 ((rd_T76 l0 x13_1).f6)) := (blk_cell BK163.out 6).trans rfl
                        have hfz27_0 := blk_frozen BK163.out 0
                        have hfz27_1 := blk_frozen BK163.out 1
                        have hfz27_2 := blk_frozen BK163.out 2
                        have hfz27_3 := blk_frozen BK163.out 3
                        have hfz27_4 := blk_frozen BK163.out 4
                        have hfz27_5 := blk_frozen BK163.out 5
                        have hfz27_6 := blk_frozen BK163.out 6
                        go_wp2
                        go_ret
                        exact ⟨by first | rfl | (simp [errW_none, errW_some] <;> rfl) | (simp [*, errW_none, errW_some] <;> rfl), by repeat (first | (with_reducible first | exact HB.out | apply below_alloc | apply pw_below_drewN | apply below_drew1 | refine below_set ?_ GE163.out) | exact HB.out)⟩
          · rw [if_neg c7] at H
            exact absurd H (by simp)
        · rw [if_neg c6] at H
          exact absurd H (by simp)
      · rw [if_neg c5] at H
        have c5b0 : decide (x13_1 < (l0.length : Int)) = false := decide_eq_false c5
        clear c5
        obtain rfl := Option.some.inj H
        go_wp2
        go_ret
        exact ⟨by first | rfl | (simp [errW_none, errW_some] <;> rfl) | (simp [*, errW_none, errW_some] <;> rfl), by repeat (first | (with_reducible first | exact HB.out | apply below_alloc | apply pw_below_drewN | apply below_drew1) | exact HB.out)⟩

/-! ### image_Versions: function 36 -/
def image_Versions.f (a0_0 : Int) (l0_1 : List (S59)) (a0_2 : Int) (a0_3 : Int) (a0_4 : Int) (a0_5 : Int) (a0_6 : Int) (a0_7 : Int) (a0_8 : Int) (a0_9 : Int) (a0_10 : Int) (a0_11 : Int) (a0_12 : Int) (a0_13 : Int) (a0_14 : Int) (a0_15 : Int) (a0_16 : ByteArray) (a0_17 : ByteArray) (l0_18 : List ByteArray) (a0_19 : Bool) (a0_20 : Bool) (a0_21 : Bool) (a0_22 : Bool) (a0_23 : Int) (a0_24 : Int) (a0_25 : Int) (a0_26 : Int) (a0_27 : Int) (a0_28 : Int) (a0_29 : Int) (a0_30 : Int) (a0_31 : Int) (a0_32 : Int) (a0_33 : Bool) (a0_34 : Int) (a0_35 : Int) (a0_36 : Bool) (a0_37 : Int) (a0_38 : Int) (a0_39 : Bool) (a0_40 : Int) (a0_41 : Int) (a0_42 : Bool) (a0_43 : Int) (a0_44 : Int) (a0_45 : Bool) (a0_46 : Int) (a0_47 : Int) (a0_48 : Bool) (a0_49 : Bool) (a0_50 : Bool) (a0_51 : Int) (a0_52 : Int) (a0_53 : Bool) (a0_54 : Int) (a0_55 : Int) (l0_56 : List (S76)) (l0_57 : List (S136)) (a0_58 : Int) (a0_59 : Int) : Option (Bool) := some (a0_29 != 0)
set_option maxHeartbeats 8000000 in
set_option maxRecDepth 100000 in
theorem image_Versions.calls (a0_0 : Int) (A0_1 : Option Addr) (c0_1 : Nat) (l0_1 : List (S59)) (a0_2 : Int) (a0_3 : Int) (a0_4 : Int) (a0_5 : Int) (a0_6 : Int) (a0_7 : Int) (a0_8 : Int) (a0_9 : Int) (a0_10 : Int) (a0_11 : Int) (a0_12 : Int) (a0_13 : Int) (a0_14 : Int) (a0_15 : Int) (a0_16 : ByteArray) (a0_17 : ByteArray) (A0_18 : Option Addr) (c0_18 : Nat) (l0_18 : List ByteArray) (a0_19 : Bool) (a0_20 : Bool) (a0_21 : Bool) (a0_22 : Bool) (a0_23 : Int) (a0_24 : Int) (a0_25 : Int) (a0_26 : Int) (a0_27 : Int) (a0_28 : Int) (a0_29 : Int) (a0_30 : Int) (a0_31 : Int) (a0_32 : Int) (a0_33 : Bool) (a0_34 : Int) (a0_35 : Int) (a0_36 : Bool) (a0_37 : Int) (a0_38 : Int) (a0_39 : Bool) (a0_40 : Int) (a0_41 : Int) (a0_42 : Bool) (a0_43 : Int) (a0_44 : Int) (a0_45 : Bool) (a0_46 : Int) (a0_47 : Int) (a0_48 : Bool) (a0_49 : Bool) (a0_50 : Bool) (a0_51 : Int) (a0_52 : Int) (a0_53 : Bool) (a0_54 : Int) (a0_55 : Int) (A0_56 : Option Addr) (c0_56 : Nat) (l0_56 : List (S76)) (A0_57 : Option Addr) (c0_57 : Nat) (l0_57 : List (S136)) (a0_58 : Int) (a0_59 : Int) (r : Bool) (w : World) (hr0_1 : Kd.C k59 w A0_1 l0_1.length l0_1) (hc0_1 : l0_1.length ≤ c0_1) (hr0_18 : Kd.C Kd.string w A0_18 l0_18.length l0_18) (hc0_18 : l0_18.length ≤ c0_18) (hr0_56 : Kd.C k76 w A0_56 l0_56.length l0_56) (hc0_56 : l0_56.length ≤ c0_56) (hr0_57 : Kd.C k136 w A0_57 l0_57.length l0_57) (hc0_57 : l0_57.length ≤ c0_57) (h : image_Versions.f a0_0 l0_1 a0_2 a0_3 a0_4 a0_5 a0_6 a0_7 a0_8 a0_9 a0_10 a0_11 a0_12 a0_13 a0_14 a0_15 a0_16 a0_17 l0_18 a0_19 a0_20 a0_21 a0_22 a0_23 a0_24 a0_25 a0_26 a0_27 a0_28 a0_29 a0_30 a0_31 a0_32 a0_33 a0_34 a0_35 a0_36 a0_37 a0_38 a0_39 a0_40 a0_41 a0_42 a0_43 a0_44 a0_45 a0_46 a0_47 a0_48 a0_49 a0_50 a0_51 a0_52 a0_53 a0_54 a0_55 l0_56 l0_57 a0_58 a0_59 = some r) :
    Calls Try.prog 36 #[.agg #[.int .u16 a0_0, .slice A0_1 l0_1.length c0_1, .int .u32 a0_2, .int .u32 a0_3, .int .u64 a0_4, .int .u64 a0_5, .int .u64 a0_6, .int .u64 a0_7, .int .u64 a0_8, .int .u32 a0_9, .int .u32 a0_10, .int .u64 a0_11, .int .u64 a0_12, .int .u64 a0_13, .int .u64 a0_14, .int .u64 a0_15, .string a0_16, .string a0_17, .slice A0_18 l0_18.length c0_18, .bool a0_19, .bool a0_20, .bool a0_21, .bool a0_22, .int .u64 a0_23, .int .u64 a0_24, .int .u64 a0_25, .int .u64 a0_26, .int .u64 a0_27, .int .u64 a0_28, .int .u64 a0_29, .int .u64 a0_30, .int .u64 a0_31, .int .u64 a0_32, .bool a0_33, .int .u64 a0_34, .int .u64 a0_35, .bool a0_36, .int .u64 a0_37, .int .u64 a0_38, .bool a0_39, .int .u64 a0_40, .int .u64 a0_41, .bool a0_42, .int .u64 a0_43, .int .u64 a0_44, .bool a0_45, .int .u64 a0_46, .int .u64 a0_47, .bool a0_48, .bool a0_49, .bool a0_50, .int .u64 a0_51, .int .u64 a0_52, .bool a0_53, .int .u64 a0_54, .int .u64 a0_55, .slice A0_56 l0_56.length c0_56, .slice A0_57 l0_57.length c0_57, .int .i64 a0_58, .int .i64 a0_59]] w fun e w' => e = .returned (.bool r) ∧ Below w.heap.size w w' := by
  have hu70 := Try.underlying70
  have HR0_1 := Aside0.mk hr0_1
  have HC0_1 := Aside0.mk hc0_1
  clear hr0_1 hc0_1
  have HR0_18 := Aside0.mk hr0_18
  have HC0_18 := Aside0.mk hc0_18
  clear hr0_18 hc0_18
  have HR0_56 := Aside0.mk hr0_56
  have HC0_56 := Aside0.mk hc0_56
  clear hr0_56 hc0_56
  have HR0_57 := Aside0.mk hr0_57
  have HC0_57 := Aside0.mk hc0_57
  clear hr0_57 hc0_57
  have HB := Aside0.mk (Below.refl w.heap.size w)
  have H : (some (a0_29 != 0)) = some r := h
  clear h
  obtain rfl := Option.some.inj H
  go_enter Try.func36, Try.ntmps36
  go_wp2_with (first | ((with_reducible refine gate_dst (N := 1) rfl ?_); refine box_event ?hg (N := 1) ?hd (cs := #[.int .u16 a0_0, .slice A0_1 l0_1.length c0_1, .int .u32 a0_2, .int .u32 a0_3, .int .u64 a0_4, .int .u64 a0_5, .int .u64 a0_6, .int .u64 a0_7, .int .u64 a0_8, .int .u32 a0_9, .int .u32 a0_10, .int .u64 a0_11, .int .u64 a0_12, .int .u64 a0_13, .int .u64 a0_14, .int .u64 a0_15, .string a0_16, .string a0_17, .slice A0_18 l0_18.length c0_18, .bool a0_19, .bool a0_20, .bool a0_21, .bool a0_22, .int .u64 a0_23, .int .u64 a0_24, .int .u64 a0_25, .int .u64 a0_26, .int .u64 a0_27, .int .u64 a0_28, .int .u64 a0_29, .int .u64 a0_30, .int .u64 a0_31, .int .u64 a0_32, .bool a0_33, .int .u64 a0_34, .int .u64 a0_35, .bool a0_36, .int .u64 a0_37, .int .u64 a0_38, .bool a0_39, .int .u64 a0_40, .int .u64 a0_41, .bool a0_42, .int .u64 a0_43, .int .u64 a0_44, .bool a0_45, .int .u64 a0_46, .int .u64 a0_47, .bool a0_48, .bool a0_49, .bool a0_50, .int .u64 a0_51, .int .u64 a0_52, .bool a0_53, .int .u64 a0_54, .int .u64 a0_55, .slice A0_56 l0_56.length c0_56, .slice A0_57 l0_57.length c0_57, .int .i64 a0_58, .int .i64 a0_59]) (t := 70) ?hr ?_; (case hd => rfl); (case hg => rfl); (case hr => first | (go_simp; done) | (go_simp; rfl)); intro gb165 hg w2 hbox hb; have n0_ := Aside0.mk (below_step (by repeat (first | (with_reducible first | exact HB.out | apply below_alloc | apply pw_below_drewN | apply below_drew1) | exact HB.out)) hb); have n1_ := Aside0.mk (hbox); have n2_ := Aside0.mk ((by rw [hg]; exact (below_size (by repeat (first | (with_reducible first | exact HB.out | apply below_alloc | apply pw_below_drewN | apply below_drew1) | exact HB.out))) : w.heap.size ≤ gb165)); have n3_ := Aside0.mk ((by rw [hg]; exact (below_size (by repeat (first | (with_reducible first | exact HB.out | apply below_alloc | apply pw_below_drewN | apply below_drew1) | exact HB.out))) : w.heap.size ≤ gb165)); clear HB; have HB := n0_; have BK165 := n1_; have GW165 := n2_; have GE165 := n3_; clear n0_ n1_ n2_ n3_; clear hb hbox hg; have hcz3_0 : w2.cell? ⟨gb165, 0, none⟩ = some (.int .u16 a0_0) := (blk_cell BK165.out 0).trans rfl; have hcz3_1 : w2.cell? ⟨gb165, 1, none⟩ = some (.slice A0_1 l0_1.length c0_1) := (blk_cell BK165.out 1).trans rfl; have hcz3_2 : w2.cell? ⟨gb165, 2, none⟩ = some (.int .u32 a0_2) := (blk_cell BK165.out 2).trans rfl; have hcz3_3 : w2.cell? ⟨gb165, 3, none⟩ = some (.int .u32 a0_3) := (blk_cell BK165.out 3).trans rfl; have hcz3_4 : w2.cell? ⟨gb165, 4, none⟩ = some (.int .u64 a0_4) := (blk_cell BK165.out 4).trans rfl; have hcz3_5 : w2.cell? ⟨gb165, 5, none⟩ = some (.int .u64 a0_5) := (blk_cell BK165.out 5).trans rfl; have hcz3_6 : w2.cell? ⟨gb165, 6, none⟩ = some (.int .u64 a0_6) := (blk_cell BK165.out 6).trans rfl; have hcz3_7 : w2.cell? ⟨gb165, 7, none⟩ = some (.int .u64 a0_7) := (blk_cell BK165.out 7).trans rfl; have hcz3_8 : w2.cell? ⟨gb165, 8, none⟩ = some (.int .u64 a0_8) := (blk_cell BK165.out 8).trans rfl; have hcz3_9 : w2.cell? ⟨gb165, 9, none⟩ = some (.int .u32 a0_9) := (blk_cell BK165.out 9).trans rfl; have hcz3_10 : w2.cell? ⟨gb165, 10, none⟩ = some (.int .u32 a0_10) := (blk_cell BK165.out 10).trans rfl; have hcz3_11 : w2.cell? ⟨gb165, 11, none⟩ = some (.int .u64 a0_11) := (blk_cell BK165.out 11).trans rfl; have hcz3_12 : w2.cell? ⟨gb165, 12, none⟩ = some (.int .u64 a0_12) := (blk_cell BK165.out 12).trans rfl; have hcz3_13 : w2.cell? ⟨gb165, 13, none⟩ = some (.int .u64 a0_13) := (blk_cell BK165.out 13).trans rfl; have hcz3_14 : w2.cell? ⟨gb165, 14, none⟩ = some (.int .u64 a0_14) := (blk_cell BK165.out 14).trans rfl; have hcz3_15 : w2.cell? ⟨gb165, 15, none⟩ = some (.int .u64 a0_15) := (blk_cell BK165.out 15).trans rfl; have hcz3_16 : w2.cell? ⟨gb165, 16, none⟩ = some (.string a0_16) := (blk_cell BK165.out 16).trans rfl; have hcz3_17 : w2.cell? ⟨gb165, 17, none⟩ = some (.string a0_17) := (blk_cell BK165.out 17).trans rfl; have hcz3_18 : w2.cell? ⟨gb165, 18, none⟩ = some (.slice A0_18 l0_18.length c0_18) := (blk_cell BK165.out 18).trans rfl; have hcz3_19 : w2.cell? ⟨gb165, 19, none⟩ = some (.bool a0_19) := (blk_cell BK165.out 19).trans rfl; have hcz3_20 : w2.cell? ⟨gb165, 20, none⟩ = some (.bool a0_20) := (blk_cell BK165.out 20).trans rfl; have hcz3_21 : w2.cell? ⟨gb165, 21, none⟩ = some (.bool a0_21) := (blk_cell BK165.out 21).trans rfl; have hcz3_22 : w2.cell? ⟨gb165, 22, none⟩ = some (.bool a0_22) := (blk_cell BK165.out 22).trans rfl; have hcz3_23 : w2.cell? ⟨gb165, 23, none⟩ = some (.int .u64 a0_23) := (blk_cell BK165.out 23).trans rfl; have hcz3_24 : w2.cell? ⟨gb165, 24, none⟩ = some (.int .u64 a0_24) := (blk_cell BK165.out 24).trans rfl; have hcz3_25 : w2.cell? ⟨gb165, 25, none⟩ = some (.int .u64 a0_25) := (blk_cell BK165.out 25).trans rfl; have hcz3_26 : w2.cell? ⟨gb165, 26, none⟩ = some (.int .u64 a0_26) := (blk_cell BK165.out 26).trans rfl; have hcz3_27 : w2.cell? ⟨gb165, 27, none⟩ = some (.int .u64 a0_27) := (blk_cell BK165.out 27).trans rfl; have hcz3_28 : w2.cell? ⟨gb165, 28, none⟩ = some (.int .u64 a0_28) := (blk_cell BK165.out 28).trans rfl; have hcz3_29 : w2.cell? ⟨gb165, 29, none⟩ = some (.int .u64 a0_29) := (blk_cell BK165.out 29).trans rfl; have hcz3_30 : w2.cell? ⟨gb165, 30, none⟩ = some (.int .u64 a0_30) := (blk_cell BK165.out 30).trans rfl; have hcz3_31 : w2.cell? ⟨gb165, 31, none⟩ = some (.int .u64 a0_31) := (blk_cell BK165.out 31).trans rfl; have hcz3_32 : w2.cell? ⟨gb165, 32, none⟩ = some (.int .u64 a0_32) := (blk_cell BK165.out 32).trans rfl; have hcz3_33 : w2.cell? ⟨gb165, 33, none⟩ = some (.bool a0_33) := (blk_cell BK165.out 33).trans rfl; have hcz3_34 : w2.cell? ⟨gb165, 34, none⟩ = some (.int .u64 a0_34) := (blk_cell BK165.out 34).trans rfl; have hcz3_35 : w2.cell? ⟨gb165, 35, none⟩ = some (.int .u64 a0_35) := (blk_cell BK165.out 35).trans rfl; have hcz3_36 : w2.cell? ⟨gb165, 36, none⟩ = some (.bool a0_36) := (blk_cell BK165.out 36).trans rfl; have hcz3_37 : w2.cell? ⟨gb165, 37, none⟩ = some (.int .u64 a0_37) := (blk_cell BK165.out 37).trans rfl; have hcz3_38 : w2.cell? ⟨gb165, 38, none⟩ = some (.int .u64 a0_38) := (blk_cell BK165.out 38).trans rfl; have hcz3_39 : w2.cell? ⟨gb165, 39, none⟩ = some (.bool a0_39) := (blk_cell BK165.out 39).trans rfl; have hcz3_40 : w2.cell? ⟨gb165, 40, none⟩ = some (.int .u64 a0_40) := (blk_cell BK165.out 40).trans rfl; have hcz3_41 : w2.cell? ⟨gb165, 41, none⟩ = some (.int .u64 a0_41) := (blk_cell BK165.out 41).trans rfl; have hcz3_42 : w2.cell? ⟨gb165, 42, none⟩ = some (.bool a0_42) := (blk_cell BK165.out 42).trans rfl; have hcz3_43 : w2.cell? ⟨gb165, 43, none⟩ = some (.int .u64 a0_43) := (blk_cell BK165.out 43).trans rfl; have hcz3_44 : w2.cell? ⟨gb165, 44, none⟩ = some (.int .u64 a0_44) := (blk_cell BK165.out 44).trans rfl; have hcz3_45 : w2.cell? ⟨gb165, 45, none⟩ = some (.bool a0_45) := (blk_cell BK165.out 45).trans rfl; have hcz3_46 : w2.cell? ⟨gb165, 46, none⟩ = some (.int .u64 a0_46) := (blk_cell BK165.out 46).trans rfl; have hcz3_47 : w2.cell? ⟨gb165, 47, none⟩ = some (.int .u64 a0_47) := (blk_cell BK165.out 47).trans rfl; have hcz3_48 : w2.cell? ⟨gb165, 48, none⟩ = some (.bool a0_48) := (blk_cell BK165.out 48).trans rfl; have hcz3_49 : w2.cell? ⟨gb165, 49, none⟩ = some (.bool a0_49) := (blk_cell BK165.out 49).trans rfl; have hcz3_50 : w2.cell? ⟨gb165, 50, none⟩ = some (.bool a0_50) := (blk_cell BK165.out 50).trans rfl; have hcz3_51 : w2.cell? ⟨gb165, 51, none⟩ = some (.int .u64 a0_51) := (blk_cell BK165.out 51).trans rfl; have hcz3_52 : w2.cell? ⟨gb165, 52, none⟩ = some (.int .u64 a0_52) := (blk_cell BK165.out 52).trans rfl; have hcz3_53 : w2.cell? ⟨gb165, 53, none⟩ = some (.bool a0_53) := (blk_cell BK165.out 53).trans rfl; have hcz3_54 : w2.cell? ⟨gb165, 54, none⟩ = some (.int .u64 a0_54) := (blk_cell BK165.out 54).trans rfl; have hcz3_55 : w2.cell? ⟨gb165, 55, none⟩ = some (.int .u64 a0_55) := (blk_cell BK165.out 55).trans rfl; have hcz3_56 : w2.cell? ⟨gb165, 56, none⟩ = some (.slice A0_56 l0_56.length c0_56) := (blk_cell BK165.out 56).trans rfl; have hcz3_57 : w2.cell? ⟨gb165, 57, none⟩ = some (.slice A0_57 l0_57.length c0_57) := (blk_cell BK165.out 57).trans rfl; have hcz3_58 : w2.cell? ⟨gb165, 58, none⟩ = some (.int .i64 a0_58) := (blk_cell BK165.out 58).trans rfl; have hcz3_59 : w2.cell? ⟨gb165, 59, none⟩ = some (.int .i64 a0_59) := (blk_cell BK165.out 59).trans rfl; have hfz3_0 := blk_frozen BK165.out 0; have hfz3_1 := blk_frozen BK165.out 1; have hfz3_2 := blk_frozen BK165.out 2; have hfz3_3 := blk_frozen BK165.out 3; have hfz3_4 := blk_frozen BK165.out 4; have hfz3_5 := blk_frozen BK165.out 5; have hfz3_6 := blk_frozen BK165.out 6; have hfz3_7 := blk_frozen BK165.out 7; have hfz3_8 := blk_frozen BK165.out 8; have hfz3_9 := blk_frozen BK165.out 9; have hfz3_10 := blk_frozen BK165.out 10; have hfz3_11 := blk_frozen BK165.out 11; have hfz3_12 := blk_frozen BK165.out 12; have hfz3_13 := blk_frozen BK165.out 13; have hfz3_14 := blk_frozen BK165.out 14; have hfz3_15 := blk_frozen BK165.out 15; have hfz3_16 := blk_frozen BK165.out 16; have hfz3_17 := blk_frozen BK165.out 17; have hfz3_18 := blk_frozen BK165.out 18; have hfz3_19 := blk_frozen BK165.out 19; have hfz3_20 := blk_frozen BK165.out 20; have hfz3_21 := blk_frozen BK165.out 21; have hfz3_22 := blk_frozen BK165.out 22; have hfz3_23 := blk_frozen BK165.out 23; have hfz3_24 := blk_frozen BK165.out 24; have hfz3_25 := blk_frozen BK165.out 25; have hfz3_26 := blk_frozen BK165.out 26; have hfz3_27 := blk_frozen BK165.out 27; have hfz3_28 := blk_frozen BK165.out 28; have hfz3_29 := blk_frozen BK165.out 29; have hfz3_30 := blk_frozen BK165.out 30; have hfz3_31 := blk_frozen BK165.out 31; have hfz3_32 := blk_frozen BK165.out 32; have hfz3_33 := blk_frozen BK165.out 33; have hfz3_34 := blk_frozen BK165.out 34; have hfz3_35 := blk_frozen BK165.out 35; have hfz3_36 := blk_frozen BK165.out 36; have hfz3_37 := blk_frozen BK165.out 37; have hfz3_38 := blk_frozen BK165.out 38; have hfz3_39 := blk_frozen BK165.out 39; have hfz3_40 := blk_frozen BK165.out 40; have hfz3_41 := blk_frozen BK165.out 41; have hfz3_42 := blk_frozen BK165.out 42; have hfz3_43 := blk_frozen BK165.out 43; have hfz3_44 := blk_frozen BK165.out 44; have hfz3_45 := blk_frozen BK165.out 45; have hfz3_46 := blk_frozen BK165.out 46; have hfz3_47 := blk_frozen BK165.out 47; have hfz3_48 := blk_frozen BK165.out 48; have hfz3_49 := blk_frozen BK165.out 49; have hfz3_50 := blk_frozen BK165.out 50; have hfz3_51 := blk_frozen BK165.out 51; have hfz3_52 := blk_frozen BK165.out 52; have hfz3_53 := blk_frozen BK165.out 53; have hfz3_54 := blk_frozen BK165.out 54; have hfz3_55 := blk_frozen BK165.out 55; have hfz3_56 := blk_frozen BK165.out 56; have hfz3_57 := blk_frozen BK165.out 57; have hfz3_58 := blk_frozen BK165.out 58; have hfz3_59 := blk_frozen BK165.out 59))
  go_ret
  exact ⟨by first | rfl | (simp [errW_none, errW_some] <;> rfl) | (simp [*, errW_none, errW_some] <;> rfl), by repeat (first | (with_reducible first | exact HB.out | apply below_alloc | apply pw_below_drewN | apply below_drew1 | refine below_set ?_ GE165.out) | exact HB.out)⟩

-- NOT PRINTED: function 20 (scope_In)

-- NOT PRINTED: function 18 (scope_Resolve)

-- NOT PRINTED: function 17 (messuagelaw23_alive)

-- NOT PRINTED: function 3 (messuagelaw23_ScopeOrders)

/-! ### messuageref10_Had: function 42 -/
def messuageref10_Had.f (a0_0 : ByteArray) (a0_1 : ByteArray) (a0_2 : Bool) (a0_3 : Int) (a0_4 : Bool) (a0_5 : Int) (a0_6 : Int) : Option (Bool) := if a0_4 = true then (some (a0_3 != 0)) else (some false)
set_option maxHeartbeats 8000000 in
set_option maxRecDepth 100000 in
theorem messuageref10_Had.calls (a0_0 : ByteArray) (a0_1 : ByteArray) (a0_2 : Bool) (a0_3 : Int) (a0_4 : Bool) (a0_5 : Int) (a0_6 : Int) (r : Bool) (w : World) (h : messuageref10_Had.f a0_0 a0_1 a0_2 a0_3 a0_4 a0_5 a0_6 = some r) :
    Calls Try.prog 42 #[.agg #[.string a0_0, .string a0_1, .bool a0_2, .int .i64 a0_3, .bool a0_4, .int .u64 a0_5, .int .u64 a0_6]] w fun e w' => e = .returned (.bool r) ∧ Below w.heap.size w w' := by
  have hu76 := Try.underlying76
  have HB := Aside0.mk (Below.refl w.heap.size w)
  have H : (if a0_4 = true then (some (a0_3 != 0)) else (some false)) = some r := h
  clear h
  by_cases c2 : a0_4 = true
  · subst c2
    have H1 : (some (a0_3 != 0)) = some r := by rw [if_pos rfl] at H; exact H
    clear H
    have H := H1
    clear H1
    obtain rfl := Option.some.inj H
    go_enter Try.func42, Try.ntmps42
    go_wp2_with (first | ((with_reducible refine gate_dst (N := 1) rfl ?_); refine box_event ?hg (N := 1) ?hd (cs := #[.string a0_0, .string a0_1, .bool a0_2, .int .i64 a0_3, .bool true, .int .u64 a0_5, .int .u64 a0_6]) (t := 76) ?hr ?_; (case hd => rfl); (case hg => rfl); (case hr => first | (go_simp; done) | (go_simp; rfl)); intro gb182 hg w3 hbox hb; have n0_ := Aside0.mk (below_step (by repeat (first | (with_reducible first | exact HB.out | apply below_alloc | apply pw_below_drewN | apply below_drew1) | exact HB.out)) hb); have n1_ := Aside0.mk (hbox); have n2_ := Aside0.mk ((by rw [hg]; exact (below_size (by repeat (first | (with_reducible first | exact HB.out | apply below_alloc | apply pw_below_drewN | apply below_drew1) | exact HB.out))) : w.heap.size ≤ gb182)); have n3_ := Aside0.mk ((by rw [hg]; exact (below_size (by repeat (first | (with_reducible first | exact HB.out | apply below_alloc | apply pw_below_drewN | apply below_drew1) | exact HB.out))) : w.heap.size ≤ gb182)); clear HB; have HB := n0_; have BK182 := n1_; have GW182 := n2_; have GE182 := n3_; clear n0_ n1_ n2_ n3_; clear hb hbox hg; have hcz4_0 : w3.cell? ⟨gb182, 0, none⟩ = some (.string a0_0) := (blk_cell BK182.out 0).trans rfl; have hcz4_1 : w3.cell? ⟨gb182, 1, none⟩ = some (.string a0_1) := (blk_cell BK182.out 1).trans rfl; have hcz4_2 : w3.cell? ⟨gb182, 2, none⟩ = some (.bool a0_2) := (blk_cell BK182.out 2).trans rfl; have hcz4_3 : w3.cell? ⟨gb182, 3, none⟩ = some (.int .i64 a0_3) := (blk_cell BK182.out 3).trans rfl; have hcz4_4 : w3.cell? ⟨gb182, 4, none⟩ = some (.bool true) := (blk_cell BK182.out 4).trans rfl; have hcz4_5 : w3.cell? ⟨gb182, 5, none⟩ = some (.int .u64 a0_5) := (blk_cell BK182.out 5).trans rfl; have hcz4_6 : w3.cell? ⟨gb182, 6, none⟩ = some (.int .u64 a0_6) := (blk_cell BK182.out 6).trans rfl; have hfz4_0 := blk_frozen BK182.out 0; have hfz4_1 := blk_frozen BK182.out 1; have hfz4_2 := blk_frozen BK182.out 2; have hfz4_3 := blk_frozen BK182.out 3; have hfz4_4 := blk_frozen BK182.out 4; have hfz4_5 := blk_frozen BK182.out 5; have hfz4_6 := blk_frozen BK182.out 6))
    go_ret
    exact ⟨by first | rfl | (simp [errW_none, errW_some] <;> rfl) | (simp [*, errW_none, errW_some] <;> rfl), by repeat (first | (with_reducible first | exact HB.out | apply below_alloc | apply pw_below_drewN | apply below_drew1 | refine below_set ?_ GE182.out) | exact HB.out)⟩
  · replace c2 := Bool.eq_false_iff.mpr c2
    subst c2
    have H1 : (some false) = some r := by rw [if_neg (show ¬ (false = true) by decide)] at H; exact H
    clear H
    have H := H1
    clear H1
    obtain rfl := Option.some.inj H
    go_enter Try.func42, Try.ntmps42
    go_wp2_with (first | ((with_reducible refine gate_dst (N := 1) rfl ?_); refine box_event ?hg (N := 1) ?hd (cs := #[.string a0_0, .string a0_1, .bool a0_2, .int .i64 a0_3, .bool false, .int .u64 a0_5, .int .u64 a0_6]) (t := 76) ?hr ?_; (case hd => rfl); (case hg => rfl); (case hr => first | (go_simp; done) | (go_simp; rfl)); intro gb182 hg w5 hbox hb; have n0_ := Aside0.mk (below_step (by repeat (first | (with_reducible first | exact HB.out | apply below_alloc | apply pw_below_drewN | apply below_drew1) | exact HB.out)) hb); have n1_ := Aside0.mk (hbox); have n2_ := Aside0.mk ((by rw [hg]; exact (below_size (by repeat (first | (with_reducible first | exact HB.out | apply below_alloc | apply pw_below_drewN | apply below_drew1) | exact HB.out))) : w.heap.size ≤ gb182)); have n3_ := Aside0.mk ((by rw [hg]; exact (below_size (by repeat (first | (with_reducible first | exact HB.out | apply below_alloc | apply pw_below_drewN | apply below_drew1) | exact HB.out))) : w.heap.size ≤ gb182)); clear HB; have HB := n0_; have BK182 := n1_; have GW182 := n2_; have GE182 := n3_; clear n0_ n1_ n2_ n3_; clear hb hbox hg; have hcz6_0 : w5.cell? ⟨gb182, 0, none⟩ = some (.string a0_0) := (blk_cell BK182.out 0).trans rfl; have hcz6_1 : w5.cell? ⟨gb182, 1, none⟩ = some (.string a0_1) := (blk_cell BK182.out 1).trans rfl; have hcz6_2 : w5.cell? ⟨gb182, 2, none⟩ = some (.bool a0_2) := (blk_cell BK182.out 2).trans rfl; have hcz6_3 : w5.cell? ⟨gb182, 3, none⟩ = some (.int .i64 a0_3) := (blk_cell BK182.out 3).trans rfl; have hcz6_4 : w5.cell? ⟨gb182, 4, none⟩ = some (.bool false) := (blk_cell BK182.out 4).trans rfl; have hcz6_5 : w5.cell? ⟨gb182, 5, none⟩ = some (.int .u64 a0_5) := (blk_cell BK182.out 5).trans rfl; have hcz6_6 : w5.cell? ⟨gb182, 6, none⟩ = some (.int .u64 a0_6) := (blk_cell BK182.out 6).trans rfl; have hfz6_0 := blk_frozen BK182.out 0; have hfz6_1 := blk_frozen BK182.out 1; have hfz6_2 := blk_frozen BK182.out 2; have hfz6_3 := blk_frozen BK182.out 3; have hfz6_4 := blk_frozen BK182.out 4; have hfz6_5 := blk_frozen BK182.out 5; have hfz6_6 := blk_frozen BK182.out 6))
    go_ret
    exact ⟨by first | rfl | (simp [errW_none, errW_some] <;> rfl) | (simp [*, errW_none, errW_some] <;> rfl), by repeat (first | (with_reducible first | exact HB.out | apply below_alloc | apply pw_below_drewN | apply below_drew1 | refine below_set ?_ GE182.out) | exact HB.out)⟩

end Go.Proofs.Ytmcihkfbgcfccaa.Z
