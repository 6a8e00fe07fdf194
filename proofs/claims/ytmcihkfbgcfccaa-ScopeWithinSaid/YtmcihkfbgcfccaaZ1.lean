-- Written by this session's program gen.py (over the kit's printer) for this seat. Not trusted: Lean checks it.
import Derived.Test.YtmcihkfbgcfccaaZ0
namespace Go.Proofs.Ytmcihkfbgcfccaa.Z
open Go.RowKit Go.Proofs.YtmcihkfbgcfccaaW.PrintWords Go.Proofs.YtmcihkfbgcfccaaW.PrintLast Go.Proofs.YtmcihkfbgcfccaaW.PrintMore
attribute [local go_sem] max2_int min2_int max_two min_two max_three min_three max_four min_four   -- for this text's walks alone
set_option linter.unusedVariables false
set_option linter.unusedSimpArgs false

/-! ### messuagelaw23_great: function 8 -/
def messuagelaw23_great.l0 : Nat → List (S81) → Int → Option (Bool)
  | 0, _, _ => none
  | k + 1, x0, x3 => if x3 < (x0.length : Int) then (if 0 ≤ x3 then (if (((rd_T81 x0 x3).f4).length : Int) > 40 then (some true) else (if (((rd_T81 x0 x3).f5).length : Int) > 12 then (some true) else (messuagelaw23_great.l0 k x0 (wrap64 (x3 + 1))))) else (none)) else (some false)
def messuagelaw23_great.f (k : Nat) (l0 : List (S81)) : Option (Bool) := if (l0.length : Int) > 12 then (some true) else (messuagelaw23_great.l0 k l0 0)
theorem messuagelaw23_great.mono_l : ∀ k, (∀ y0 y1, LeO (messuagelaw23_great.l0 k y0 y1) (messuagelaw23_great.l0 (k + 1) y0 y1))
  | 0 => fun _ _ r h => by simp [messuagelaw23_great.l0] at h
  | k + 1 => by
    have ih0 := messuagelaw23_great.mono_l k
    · intro y0 y1
      unfold messuagelaw23_great.l0
      repeat' first
      | (with_reducible exact ih0 _ _)
      | (with_reducible exact LeO.refl _)
      | (with_reducible exact LeO.none _)
      | (with_reducible refine LeO.ite ?_ ?_)
      | (with_reducible refine LeO.bind ?_ (fun _ => ?_))
      | exact ih0 _ _
      | exact LeO.none _
      | refine LeO.ite ?_ ?_
      | refine LeO.bind ?_ (fun _ => ?_)
theorem messuagelaw23_great.mono : ∀ a0 k, LeO (messuagelaw23_great.f k a0) (messuagelaw23_great.f (k + 1) a0) := by
  intro a0 k
  have ih0 := messuagelaw23_great.mono_l k
  unfold messuagelaw23_great.f
  repeat' first
      | (with_reducible exact ih0 _ _)
      | (with_reducible exact LeO.refl _)
      | (with_reducible exact LeO.none _)
      | (with_reducible refine LeO.ite ?_ ?_)
      | (with_reducible refine LeO.bind ?_ (fun _ => ?_))
      | exact ih0 _ _
      | exact LeO.none _
      | refine LeO.ite ?_ ?_
      | refine LeO.bind ?_ (fun _ => ?_)
set_option maxHeartbeats 8000000 in
set_option maxRecDepth 100000 in
theorem messuagelaw23_great.calls (k : Nat) (A0 : Option Addr) (c0 : Nat) (l0 : List (S81)) (r : Bool) (w : World) (hr0 : Kd.C k81 w A0 l0.length l0) (hc0 : l0.length ≤ c0) (h : messuagelaw23_great.f k l0 = some r) :
    Calls Try.prog 8 #[.slice A0 l0.length c0] w fun e w' => e = .returned (.bool r) ∧ Drawn0 w w' := by
  have HR0 := Aside0.mk hr0
  have HC0 := Aside0.mk hc0
  clear hr0 hc0
  have H : (if (l0.length : Int) > 12 then (some true) else (messuagelaw23_great.l0 k l0 0)) = some r := h
  clear h
  by_cases c2 : (l0.length : Int) > 12
  · rw [if_pos c2] at H
    have c2b0 : decide (12 < (l0.length : Int)) = true := decide_eq_true c2
    have c2b1 : decide (12 < l0.length) = true := decide_eq_true (by omega)
    clear c2
    obtain rfl := Option.some.inj H
    go_enter Try.func8, Try.ntmps8
    go_wp2
    go_ret
    exact ⟨by first | rfl | (simp; done) | (simp [*]; done), by repeat (first | exact Drawn0.refl _ | apply Drawn0.step)⟩
  · rw [if_neg c2] at H
    have c2b0 : decide (12 < (l0.length : Int)) = false := decide_eq_false c2
    have c2b1 : decide (12 < l0.length) = false := decide_eq_false (by omega)
    clear c2
    have H' := Aside0.mk H
    clear H
    go_enter Try.func8, Try.ntmps8
    go_wp2
    go_loopg [3] k (fun kq v3 w' => ∃ (x3_1 : Int), v3 = .int .i64 x3_1 ∧ Aside0 (messuagelaw23_great.l0 kq l0 x3_1 = some r) ∧ Aside0 (kq ≤ k) ∧ Drawn0 w w')
    case atStart => exact ⟨(0), (by first | rfl | (simp; done) | (simp [*]; done)), H', ⟨Nat.le_refl _⟩, by repeat (first | exact Drawn0.refl _ | apply Drawn0.step)⟩
    case round =>
      clear H'
      try clear c2
      try clear c2b0
      try clear c2b1
      try clear p2
      obtain ⟨x3_1, rfl, HA, HK1, ⟨m1, rfl⟩⟩ := hrel
      cases gk with
      | zero => exact absurd HA.out (by simp [messuagelaw23_great.l0])
      | succ k1 =>
        have H := HA.out
        clear HA
        simp only [messuagelaw23_great.l0] at H
        by_cases c3 : x3_1 < (l0.length : Int)
        · rw [if_pos c3] at H
          have c3b0 : decide (x3_1 < (l0.length : Int)) = true := decide_eq_true c3
          clear c3
          by_cases c4 : 0 ≤ x3_1
          · rw [if_pos c4] at H
            have c4b0 : decide (0 ≤ x3_1) = true := decide_eq_true c4
            clear c4
            by_cases c5 : (((rd_T81 l0 x3_1).f4).length : Int) > 40
            · rw [if_pos c5] at H
              have c5b0 : decide (40 < (((rd_T81 l0 x3_1).f4).length : Int)) = true := decide_eq_true c5
              have c5b1 : decide (40 < ((rd_T81 l0 x3_1).f4).length) = true := decide_eq_true (by omega)
              clear c5
              obtain rfl := Option.some.inj H
              have p101 : 0 ≤ (x3_1 : Int) := of_decide_eq_true (by first | (with_reducible assumption) | assumption)
              have q101 : x3_1 < (l0.length : Int) := of_decide_eq_true (by first | (with_reducible assumption) | assumption)
              obtain ⟨ad101, A101_4, c101_4, A101_5, c101_5, e101, hx101_0, hx101_1, hx101_2, hx101_3, hx101_4, hx101_5, hl101_4, hi101_4, hl101_5, hi101_5⟩ := at_T81 HR0.out x3_1 p101 q101
              cases e101
              have HR101_4 := Aside0.mk hi101_4
              have HC101_4 := Aside0.mk hl101_4
              clear hi101_4 hl101_4
              have HR101_5 := Aside0.mk hi101_5
              have HC101_5 := Aside0.mk hl101_5
              clear hi101_5 hl101_5
              replace p101 := eq_true p101
              replace q101 := eq_true q101
              go_wp2
              go_ret
              exact ⟨by first | rfl | (simp; done) | (simp [*]; done), by repeat (first | exact Drawn0.refl _ | apply Drawn0.step)⟩
            · rw [if_neg c5] at H
              have c5b0 : decide (40 < (((rd_T81 l0 x3_1).f4).length : Int)) = false := decide_eq_false c5
              have c5b1 : decide (40 < ((rd_T81 l0 x3_1).f4).length) = false := decide_eq_false (by omega)
              clear c5
              by_cases c6 : (((rd_T81 l0 x3_1).f5).length : Int) > 12
              · rw [if_pos c6] at H
                have c6b0 : decide (12 < (((rd_T81 l0 x3_1).f5).length : Int)) = true := decide_eq_true c6
                have c6b1 : decide (12 < ((rd_T81 l0 x3_1).f5).length) = true := decide_eq_true (by omega)
                clear c6
                obtain rfl := Option.some.inj H
                have p101 : 0 ≤ (x3_1 : Int) := of_decide_eq_true (by first | (with_reducible assumption) | assumption)
                have q101 : x3_1 < (l0.length : Int) := of_decide_eq_true (by first | (with_reducible assumption) | assumption)
                obtain ⟨ad101, A101_4, c101_4, A101_5, c101_5, e101, hx101_0, hx101_1, hx101_2, hx101_3, hx101_4, hx101_5, hl101_4, hi101_4, hl101_5, hi101_5⟩ := at_T81 HR0.out x3_1 p101 q101
                cases e101
                have HR101_4 := Aside0.mk hi101_4
                have HC101_4 := Aside0.mk hl101_4
                clear hi101_4 hl101_4
                have HR101_5 := Aside0.mk hi101_5
                have HC101_5 := Aside0.mk hl101_5
                clear hi101_5 hl101_5
                replace p101 := eq_true p101
                replace q101 := eq_true q101
                have p102 : 0 ≤ (x3_1 : Int) := of_decide_eq_true (by first | (with_reducible assumption) | assumption)
                have q102 : x3_1 < (l0.length : Int) := of_decide_eq_true (by first | (with_reducible assumption) | assumption)
                obtain ⟨ad102, A102_4, c102_4, A102_5, c102_5, e102, hx102_0, hx102_1, hx102_2, hx102_3, hx102_4, hx102_5, hl102_4, hi102_4, hl102_5, hi102_5⟩ := at_T81 HR0.out x3_1 p102 q102
                obtain rfl : ad101 = ad102 := (by injection e102)
                have HR102_4 := Aside0.mk hi102_4
                have HC102_4 := Aside0.mk hl102_4
                clear hi102_4 hl102_4
                have HR102_5 := Aside0.mk hi102_5
                have HC102_5 := Aside0.mk hl102_5
                clear hi102_5 hl102_5
                replace p102 := eq_true p102
                replace q102 := eq_true q102
                have ea_ := Option.some.inj (hx101_4.symm.trans hx102_4)
                injection ea_ with ea_ en_ ec_
                subst ea_
                subst ec_
                clear en_
                have ea_ := Option.some.inj (hx101_5.symm.trans hx102_5)
                injection ea_ with ea_ en_ ec_
                subst ea_
                subst ec_
                clear en_
                go_wp2
                go_ret
                exact ⟨by first | rfl | (simp; done) | (simp [*]; done), by repeat (first | exact Drawn0.refl _ | apply Drawn0.step)⟩
              · rw [if_neg c6] at H
                have c6b0 : decide (12 < (((rd_T81 l0 x3_1).f5).length : Int)) = false := decide_eq_false c6
                have c6b1 : decide (12 < ((rd_T81 l0 x3_1).f5).length) = false := decide_eq_false (by omega)
                clear c6
                have H' := Aside0.mk H
                clear H
                have p101 : 0 ≤ (x3_1 : Int) := of_decide_eq_true (by first | (with_reducible assumption) | assumption)
                have q101 : x3_1 < (l0.length : Int) := of_decide_eq_true (by first | (with_reducible assumption) | assumption)
                obtain ⟨ad101, A101_4, c101_4, A101_5, c101_5, e101, hx101_0, hx101_1, hx101_2, hx101_3, hx101_4, hx101_5, hl101_4, hi101_4, hl101_5, hi101_5⟩ := at_T81 HR0.out x3_1 p101 q101
                cases e101
                have HR101_4 := Aside0.mk hi101_4
                have HC101_4 := Aside0.mk hl101_4
                clear hi101_4 hl101_4
                have HR101_5 := Aside0.mk hi101_5
                have HC101_5 := Aside0.mk hl101_5
                clear hi101_5 hl101_5
                replace p101 := eq_true p101
                replace q101 := eq_true q101
                have p102 : 0 ≤ (x3_1 : Int) := of_decide_eq_true (by first | (with_reducible assumption) | assumption)
                have q102 : x3_1 < (l0.length : Int) := of_decide_eq_true (by first | (with_reducible assumption) | assumption)
                obtain ⟨ad102, A102_4, c102_4, A102_5, c102_5, e102, hx102_0, hx102_1, hx102_2, hx102_3, hx102_4, hx102_5, hl102_4, hi102_4, hl102_5, hi102_5⟩ := at_T81 HR0.out x3_1 p102 q102
                obtain rfl : ad101 = ad102 := (by injection e102)
                have HR102_4 := Aside0.mk hi102_4
                have HC102_4 := Aside0.mk hl102_4
                clear hi102_4 hl102_4
                have HR102_5 := Aside0.mk hi102_5
                have HC102_5 := Aside0.mk hl102_5
                clear hi102_5 hl102_5
                replace p102 := eq_true p102
                replace q102 := eq_true q102
                have ea_ := Option.some.inj (hx101_4.symm.trans hx102_4)
                injection ea_ with ea_ en_ ec_
                subst ea_
                subst ec_
                clear en_
                have ea_ := Option.some.inj (hx101_5.symm.trans hx102_5)
                injection ea_ with ea_ en_ ec_
                subst ea_
                subst ec_
                clear en_
                go_wp2
                go_roundg k1
                case measure => have := HK1.out; omega
                case rel => exact ⟨(wrap64 (x3_1 + 1)), (by first | rfl | (simp; done) | (simp [*]; done)), H', ⟨by have := HK1.out; omega⟩, by repeat (first | exact Drawn0.refl _ | apply Drawn0.step)⟩
          · rw [if_neg c4] at H
            exact absurd H (by simp)
        · rw [if_neg c3] at H
          have c3b0 : decide (x3_1 < (l0.length : Int)) = false := decide_eq_false c3
          clear c3
          obtain rfl := Option.some.inj H
          go_wp2
          go_ret
          exact ⟨by first | rfl | (simp; done) | (simp [*]; done), by repeat (first | exact Drawn0.refl _ | apply Drawn0.step)⟩

-- NOT PRINTED: function 25 (table_New)

/-! ### messuageref22_New: function 26 -/
def messuageref22_New.f (a0 : Int) : Option (Int × Int × (List (S94)) × Int) := if a0 < 1 then (some (0, 0, ([] : List (S94)), 221)) else (if a0 > 64 then (some (0, 0, ([] : List (S94)), 221)) else (some (a0, 1, ([] : List (S94)), 0)))
set_option maxHeartbeats 8000000 in
set_option maxRecDepth 100000 in
theorem messuageref22_New.calls (a0 : Int) (r1 : Int) (r2 : Int) (r3 : List (S94)) (r4 : Int) (w : World) (h : messuageref22_New.f a0 = some (r1, r2, r3, r4)) :
    Calls Try.prog 26 #[.int .i64 a0] w fun e w' => ∃ v2_ : Value, e = .returned (.tuple #[.agg #[.int .i64 r1, .int .i64 r2, v2_], .int .i64 r4]) ∧ Kd.S k94 94 w' w.heap.size (fun _ => True) v2_ r3 ∧ Below w.heap.size w w' := by
  have hu27 := Try.underlying27
  have HB := Aside0.mk (Below.refl w.heap.size w)
  have H : (if a0 < 1 then (some (0, 0, ([] : List (S94)), 221)) else (if a0 > 64 then (some (0, 0, ([] : List (S94)), 221)) else (some (a0, 1, ([] : List (S94)), 0)))) = some (r1, r2, r3, r4) := h
  clear h
  by_cases c2 : a0 < 1
  · rw [if_pos c2] at H
    have c2b0 : decide (a0 < 1) = true := decide_eq_true c2
    clear c2
    simp only [Option.some.injEq, Prod.mk.injEq] at H
    obtain ⟨rfl, rfl, rfl, rfl⟩ := H
    go_enter Try.func26, Try.ntmps26
    go_wp2_with (first | ((with_reducible refine gate_dst (N := 2) rfl ?_); refine box_event ?hg (N := 2) ?hd (cs := #[.int .i64 0, .int .i64 0, .slice none 0 0]) (t := 27) ?hr ?_; (case hd => rfl); (case hg => rfl); (case hr => first | (go_simp; done) | (go_simp; rfl)); intro gb103 hg w3 hbox hb; have n0_ := Aside0.mk (below_step (by repeat (first | (with_reducible first | exact HB.out | apply below_alloc | apply pw_below_drewN | apply below_drew1) | exact HB.out)) hb); have n1_ := Aside0.mk (hbox); have n2_ := Aside0.mk ((by rw [hg]; exact (below_size (by repeat (first | (with_reducible first | exact HB.out | apply below_alloc | apply pw_below_drewN | apply below_drew1) | exact HB.out))) : w.heap.size ≤ gb103)); have n3_ := Aside0.mk ((by rw [hg]; exact (below_size (by repeat (first | (with_reducible first | exact HB.out | apply below_alloc | apply pw_below_drewN | apply below_drew1) | exact HB.out))) : w.heap.size ≤ gb103)); clear HB; have HB := n0_; have BK103 := n1_; have GW103 := n2_; have GE103 := n3_; clear n0_ n1_ n2_ n3_; clear hb hbox hg; have hcz4_0 : w3.cell? ⟨gb103, 0, none⟩ = some (.int .i64 0) := (blk_cell BK103.out 0).trans rfl; have hcz4_1 : w3.cell? ⟨gb103, 1, none⟩ = some (.int .i64 0) := (blk_cell BK103.out 1).trans rfl; have hcz4_2 : w3.cell? ⟨gb103, 2, none⟩ = some (.slice none 0 0) := (blk_cell BK103.out 2).trans rfl; have hfz4_0 := blk_frozen BK103.out 0; have hfz4_1 := blk_frozen BK103.out 1; have hfz4_2 := blk_frozen BK103.out 2))
    refine bodyPost_ret (results_ct rfl _ _ gb103 27 #[.int .i64 0, .int .i64 0, .slice none 0 0] (0, 0) _ rfl (by (with_reducible repeat (first | refine blk_drewN ?_ _ | refine blk_drew ?_ | refine blk_alloc ?_ _)); refine blk_put (cs := #[.int .i64 0, .int .i64 0, .slice none 0 0]) ?_ 2 _ rfl; (with_reducible repeat (first | refine blk_drewN ?_ _ | refine blk_drew ?_ | refine blk_alloc ?_ _)); refine blk_put (cs := #[.int .i64 0, .int .i64 0, .slice none 0 0]) ?_ 1 _ rfl; (with_reducible repeat (first | refine blk_drewN ?_ _ | refine blk_drew ?_ | refine blk_alloc ?_ _)); refine blk_put (cs := #[.int .i64 0, .int .i64 0, .slice none 0 0]) ?_ 0 _ rfl; (with_reducible repeat (first | refine blk_drewN ?_ _ | refine blk_drew ?_ | refine blk_alloc ?_ _)); exact BK103.out) Try.underlying27 rfl (by kernel_rfl)) rfl ?_
    exact ⟨_, by first | rfl | (simp [errW_none, errW_some] <;> rfl) | (simp [*, errW_none, errW_some] <;> rfl), by first | exact Kd.S_nil _ _ _ _ _ | exact Kd.N_nil _ _ _ _ _ | exact Kd.V_nil _ _ _ _ _ | exact Kd.Q_nil _ _ _ _ _ | exact Kd.R_nil _ _ _ _ _, by repeat (first | (with_reducible first | exact HB.out | apply below_alloc | apply pw_below_drewN | apply below_drew1 | refine below_set ?_ GE103.out) | exact HB.out)⟩
  · rw [if_neg c2] at H
    have c2b0 : decide (a0 < 1) = false := decide_eq_false c2
    clear c2
    by_cases c5 : a0 > 64
    · rw [if_pos c5] at H
      have c5b0 : decide (64 < a0) = true := decide_eq_true c5
      clear c5
      simp only [Option.some.injEq, Prod.mk.injEq] at H
      obtain ⟨rfl, rfl, rfl, rfl⟩ := H
      go_enter Try.func26, Try.ntmps26
      go_wp2_with (first | ((with_reducible refine gate_dst (N := 2) rfl ?_); refine box_event ?hg (N := 2) ?hd (cs := #[.int .i64 0, .int .i64 0, .slice none 0 0]) (t := 27) ?hr ?_; (case hd => rfl); (case hg => rfl); (case hr => first | (go_simp; done) | (go_simp; rfl)); intro gb103 hg w6 hbox hb; have n0_ := Aside0.mk (below_step (by repeat (first | (with_reducible first | exact HB.out | apply below_alloc | apply pw_below_drewN | apply below_drew1) | exact HB.out)) hb); have n1_ := Aside0.mk (hbox); have n2_ := Aside0.mk ((by rw [hg]; exact (below_size (by repeat (first | (with_reducible first | exact HB.out | apply below_alloc | apply pw_below_drewN | apply below_drew1) | exact HB.out))) : w.heap.size ≤ gb103)); have n3_ := Aside0.mk ((by rw [hg]; exact (below_size (by repeat (first | (with_reducible first | exact HB.out | apply below_alloc | apply pw_below_drewN | apply below_drew1) | exact HB.out))) : w.heap.size ≤ gb103)); clear HB; have HB := n0_; have BK103 := n1_; have GW103 := n2_; have GE103 := n3_; clear n0_ n1_ n2_ n3_; clear hb hbox hg; have hcz7_0 : w6.cell? ⟨gb103, 0, none⟩ = some (.int .i64 0) := (blk_cell BK103.out 0).trans rfl; have hcz7_1 : w6.cell? ⟨gb103, 1, none⟩ = some (.int .i64 0) := (blk_cell BK103.out 1).trans rfl; have hcz7_2 : w6.cell? ⟨gb103, 2, none⟩ = some (.slice none 0 0) := (blk_cell BK103.out 2).trans rfl; have hfz7_0 := blk_frozen BK103.out 0; have hfz7_1 := blk_frozen BK103.out 1; have hfz7_2 := blk_frozen BK103.out 2))
      refine bodyPost_ret (results_ct rfl _ _ gb103 27 #[.int .i64 0, .int .i64 0, .slice none 0 0] (0, 0) _ rfl (by (with_reducible repeat (first | refine blk_drewN ?_ _ | refine blk_drew ?_ | refine blk_alloc ?_ _)); refine blk_put (cs := #[.int .i64 0, .int .i64 0, .slice none 0 0]) ?_ 2 _ rfl; (with_reducible repeat (first | refine blk_drewN ?_ _ | refine blk_drew ?_ | refine blk_alloc ?_ _)); refine blk_put (cs := #[.int .i64 0, .int .i64 0, .slice none 0 0]) ?_ 1 _ rfl; (with_reducible repeat (first | refine blk_drewN ?_ _ | refine blk_drew ?_ | refine blk_alloc ?_ _)); refine blk_put (cs := #[.int .i64 0, .int .i64 0, .slice none 0 0]) ?_ 0 _ rfl; (with_reducible repeat (first | refine blk_drewN ?_ _ | refine blk_drew ?_ | refine blk_alloc ?_ _)); exact BK103.out) Try.underlying27 rfl (by kernel_rfl)) rfl ?_
      exact ⟨_, by first | rfl | (simp [errW_none, errW_some] <;> rfl) | (simp [*, errW_none, errW_some] <;> rfl), by first | exact Kd.S_nil _ _ _ _ _ | exact Kd.N_nil _ _ _ _ _ | exact Kd.V_nil _ _ _ _ _ | exact Kd.Q_nil _ _ _ _ _ | exact Kd.R_nil _ _ _ _ _, by repeat (first | (with_reducible first | exact HB.out | apply below_alloc | apply pw_below_drewN | apply below_drew1 | refine below_set ?_ GE103.out) | exact HB.out)⟩
    · rw [if_neg c5] at H
      have c5b0 : decide (64 < a0) = false := decide_eq_false c5
      clear c5
      simp only [Option.some.injEq, Prod.mk.injEq] at H
      obtain ⟨rfl, rfl, rfl, rfl⟩ := H
      go_enter Try.func26, Try.ntmps26
      go_wp2_with (first | ((with_reducible refine gate_dst (N := 2) rfl ?_); refine box_event ?hg (N := 2) ?hd (cs := #[.int .i64 0, .int .i64 0, .slice none 0 0]) (t := 27) ?hr ?_; (case hd => rfl); (case hg => rfl); (case hr => first | (go_simp; done) | (go_simp; rfl)); intro gb103 hg w8 hbox hb; have n0_ := Aside0.mk (below_step (by repeat (first | (with_reducible first | exact HB.out | apply below_alloc | apply pw_below_drewN | apply below_drew1) | exact HB.out)) hb); have n1_ := Aside0.mk (hbox); have n2_ := Aside0.mk ((by rw [hg]; exact (below_size (by repeat (first | (with_reducible first | exact HB.out | apply below_alloc | apply pw_below_drewN | apply below_drew1) | exact HB.out))) : w.heap.size ≤ gb103)); have n3_ := Aside0.mk ((by rw [hg]; exact (below_size (by repeat (first | (with_reducible first | exact HB.out | apply below_alloc | apply pw_below_drewN | apply below_drew1) | exact HB.out))) : w.heap.size ≤ gb103)); clear HB; have HB := n0_; have BK103 := n1_; have GW103 := n2_; have GE103 := n3_; clear n0_ n1_ n2_ n3_; clear hb hbox hg; have hcz9_0 : w8.cell? ⟨gb103, 0, none⟩ = some (.int .i64 0) := (blk_cell BK103.out 0).trans rfl; have hcz9_1 : w8.cell? ⟨gb103, 1, none⟩ = some (.int .i64 0) := (blk_cell BK103.out 1).trans rfl; have hcz9_2 : w8.cell? ⟨gb103, 2, none⟩ = some (.slice none 0 0) := (blk_cell BK103.out 2).trans rfl; have hfz9_0 := blk_frozen BK103.out 0; have hfz9_1 := blk_frozen BK103.out 1; have hfz9_2 := blk_frozen BK103.out 2))
      refine bodyPost_ret (results_ct rfl _ _ gb103 27 #[.int .i64 a0, .int .i64 1, .slice none 0 0] (0, 0) _ rfl (by (with_reducible repeat (first | refine blk_drewN ?_ _ | refine blk_drew ?_ | refine blk_alloc ?_ _)); refine blk_put (cs := #[.int .i64 a0, .int .i64 1, .slice none 0 0]) ?_ 2 _ rfl; (with_reducible repeat (first | refine blk_drewN ?_ _ | refine blk_drew ?_ | refine blk_alloc ?_ _)); refine blk_put (cs := #[.int .i64 a0, .int .i64 0, .slice none 0 0]) ?_ 1 _ rfl; (with_reducible repeat (first | refine blk_drewN ?_ _ | refine blk_drew ?_ | refine blk_alloc ?_ _)); refine blk_put (cs := #[.int .i64 0, .int .i64 0, .slice none 0 0]) ?_ 0 _ rfl; (with_reducible repeat (first | refine blk_drewN ?_ _ | refine blk_drew ?_ | refine blk_alloc ?_ _)); exact BK103.out) Try.underlying27 rfl (by kernel_rfl)) rfl ?_
      exact ⟨_, by first | rfl | (simp [errW_none, errW_some] <;> rfl) | (simp [*, errW_none, errW_some] <;> rfl), by first | exact Kd.S_nil _ _ _ _ _ | exact Kd.N_nil _ _ _ _ _ | exact Kd.V_nil _ _ _ _ _ | exact Kd.Q_nil _ _ _ _ _ | exact Kd.R_nil _ _ _ _ _, by repeat (first | (with_reducible first | exact HB.out | apply below_alloc | apply pw_below_drewN | apply below_drew1 | refine below_set ?_ GE103.out) | exact HB.out)⟩

-- NOT PRINTED: function 38 (slices_Clone_int_int)

-- NOT PRINTED: function 27 (table_Table_Add)

-- NOT PRINTED: function 22 (table_Table_Get)

-- NOT PRINTED: function 29 (table_Table_Need)

/-! ### messuageref22_Find: function 32 -/
def messuageref22_Find.l0 : Nat → Int → Int → Int → Int → List (S94) → Option (Int)
  | 0, _, _, _, _, _ => none
  | k + 1, x1, x5, x105000, x105001, x105002 => if x5 < (x105002.length : Int) then (if 0 ≤ x5 then (if ((rd_T94 x105002 x5).f0) = x1 then (some x5) else (messuageref22_Find.l0 k x1 (wrap64 (x5 + 1)) x105000 x105001 x105002)) else (none)) else (some (-1))
def messuageref22_Find.f (k : Nat) (a0_0 : Int) (a0_1 : Int) (l0_2 : List (S94)) (a1 : Int) : Option (Int) := messuageref22_Find.l0 k a1 0 a0_0 a0_1 l0_2
theorem messuageref22_Find.mono_l : ∀ k, (∀ y0 y1 y2 y3 y4, LeO (messuageref22_Find.l0 k y0 y1 y2 y3 y4) (messuageref22_Find.l0 (k + 1) y0 y1 y2 y3 y4))
  | 0 => fun _ _ _ _ _ r h => by simp [messuageref22_Find.l0] at h
  | k + 1 => by
    have ih0 := messuageref22_Find.mono_l k
    · intro y0 y1 y2 y3 y4
      unfold messuageref22_Find.l0
      repeat' first
      | (with_reducible exact ih0 _ _ _ _ _)
      | (with_reducible exact LeO.refl _)
      | (with_reducible exact LeO.none _)
      | (with_reducible refine LeO.ite ?_ ?_)
      | (with_reducible refine LeO.bind ?_ (fun _ => ?_))
      | exact ih0 _ _ _ _ _
      | exact LeO.none _
      | refine LeO.ite ?_ ?_
      | refine LeO.bind ?_ (fun _ => ?_)
theorem messuageref22_Find.mono : ∀ a0 a1 a2 a3 k, LeO (messuageref22_Find.f k a0 a1 a2 a3) (messuageref22_Find.f (k + 1) a0 a1 a2 a3) := by
  intro a0 a1 a2 a3 k
  have ih0 := messuageref22_Find.mono_l k
  unfold messuageref22_Find.f
  repeat' first
      | (with_reducible exact ih0 _ _ _ _ _)
      | (with_reducible exact LeO.refl _)
      | (with_reducible exact LeO.none _)
      | (with_reducible refine LeO.ite ?_ ?_)
      | (with_reducible refine LeO.bind ?_ (fun _ => ?_))
      | exact ih0 _ _ _ _ _
      | exact LeO.none _
      | refine LeO.ite ?_ ?_
      | refine LeO.bind ?_ (fun _ => ?_)
set_option maxHeartbeats 8000000 in
set_option maxRecDepth 100000 in
theorem messuageref22_Find.calls (k : Nat) (a0_0 : Int) (a0_1 : Int) (A0_2 : Option Addr) (c0_2 : Nat) (l0_2 : List (S94)) (a1 : Int) (r : Int) (w : World) (hr0_2 : Kd.C k94 w A0_2 l0_2.length l0_2) (hc0_2 : l0_2.length ≤ c0_2) (h : messuageref22_Find.f k a0_0 a0_1 l0_2 a1 = some r) :
    Calls Try.prog 32 #[.agg #[.int .i64 a0_0, .int .i64 a0_1, .slice A0_2 l0_2.length c0_2], .int .i64 a1] w fun e w' => e = .returned (.int .i64 r) ∧ Below w.heap.size w w' := by
  have hu27 := Try.underlying27
  have HR0_2 := Aside0.mk hr0_2
  have HC0_2 := Aside0.mk hc0_2
  clear hr0_2 hc0_2
  have HB := Aside0.mk (Below.refl w.heap.size w)
  have H : (messuageref22_Find.l0 k a1 0 a0_0 a0_1 l0_2) = some r := h
  clear h
  have H' := Aside0.mk H
  clear H
  go_enter Try.func32, Try.ntmps32
  go_wp2_with (first | ((with_reducible refine gate_dst (N := 2) rfl ?_); refine box_event ?hg (N := 2) ?hd (cs := #[.int .i64 a0_0, .int .i64 a0_1, .slice A0_2 l0_2.length c0_2]) (t := 27) ?hr ?_; (case hd => rfl); (case hg => rfl); (case hr => first | (go_simp; done) | (go_simp; rfl)); intro gb104 hg w3 hbox hb; have n0_ := Aside0.mk (below_step (by repeat (first | (with_reducible first | exact HB.out | apply below_alloc | apply pw_below_drewN | apply below_drew1) | exact HB.out)) hb); have n1_ := Aside0.mk (hbox); have n2_ := Aside0.mk ((by rw [hg]; exact (below_size (by repeat (first | (with_reducible first | exact HB.out | apply below_alloc | apply pw_below_drewN | apply below_drew1) | exact HB.out))) : w.heap.size ≤ gb104)); have n3_ := Aside0.mk ((by rw [hg]; exact (below_size (by repeat (first | (with_reducible first | exact HB.out | apply below_alloc | apply pw_below_drewN | apply below_drew1) | exact HB.out))) : w.heap.size ≤ gb104)); clear HB; have HB := n0_; have BK104 := n1_; have GW104 := n2_; have GE104 := n3_; clear n0_ n1_ n2_ n3_; clear hb hbox hg))
  go_loopg [5] k (fun kq v5 w' => ∃ (x5_1 : Int), v5 = .int .i64 x5_1 ∧ Aside0 (messuageref22_Find.l0 kq a1 x5_1 a0_0 a0_1 l0_2 = some r) ∧ Aside0 (kq ≤ k) ∧ Aside0 (w'.heap[gb104]? = some (.cells #[.int .i64 a0_0, .int .i64 a0_1, (.slice A0_2 l0_2.length c0_2)] 27 (0, 0))) ∧ Aside0 (Below w.heap.size w w'))
  case atStart => exact ⟨(0), (by first | rfl | (simp; done) | (simp [*]; done)), H', ⟨Nat.le_refl _⟩, ⟨by (with_reducible repeat (first | refine blk_drewN ?_ _ | refine blk_drew ?_ | refine blk_alloc ?_ _)); exact BK104.out⟩, ⟨by repeat (first | (with_reducible first | exact HB.out | apply below_alloc | apply pw_below_drewN | apply below_drew1 | refine below_set ?_ GE104.out) | exact HB.out)⟩⟩
  case round =>
    clear H'
    try clear p2
    try clear c3
    obtain ⟨x5_1, rfl, HA, HK1, BK104, HB⟩ := hrel
    cases gk with
    | zero => exact absurd HA.out (by simp [messuageref22_Find.l0])
    | succ k1 =>
      have H := HA.out
      clear HA
      simp only [messuageref22_Find.l0] at H
      by_cases c4 : x5_1 < (l0_2.length : Int)
      · rw [if_pos c4] at H
        have c4b0 : decide (x5_1 < (l0_2.length : Int)) = true := decide_eq_true c4
        clear c4
        by_cases c5 : 0 ≤ x5_1
        · rw [if_pos c5] at H
          have c5b0 : decide (0 ≤ x5_1) = true := decide_eq_true c5
          clear c5
          by_cases c6 : ((rd_T94 l0_2 x5_1).f0) = a1
          · rw [if_pos c6] at H
            have c6b0 : (((rd_T94 l0_2 x5_1).f0) == a1) = true := beq_iff_eq.mpr c6
            have c6b1 : (((rd_T94 l0_2 x5_1).f0) != a1) = false := bne_eq_false_iff_eq.mpr c6
            clear c6
            obtain rfl := Option.some.inj H
            have hcz7_0 : wr.cell? ⟨gb104, 0, none⟩ = some (.int .i64 a0_0) := (blk_cell BK104.out 0).trans rfl
            have hcz7_1 : wr.cell? ⟨gb104, 1, none⟩ = some (.int .i64 a0_1) := (blk_cell BK104.out 1).trans rfl
            have hcz7_2 : wr.cell? ⟨gb104, 2, none⟩ = some (.slice A0_2 l0_2.length c0_2) := (blk_cell BK104.out 2).trans rfl
            have hfz7_0 := blk_frozen BK104.out 0
            have hfz7_1 := blk_frozen BK104.out 1
            have hfz7_2 := blk_frozen BK104.out 2
            have p105 : 0 ≤ (x5_1 : Int) := of_decide_eq_true (by first | (with_reducible assumption) | assumption)
            have q105 : x5_1 < (l0_2.length : Int) := of_decide_eq_true (by first | (with_reducible assumption) | assumption)
            obtain ⟨ad105, A105_7, c105_7, A105_24, c105_24, A105_62, c105_62, A105_63, c105_63, A105_66, c105_66, A105_67, c105_67, A105_72, c105_72, A105_73, c105_73, e105, hx105_0, hx105_1, hx105_2, hx105_3, hx105_4, hx105_5, hx105_6, hx105_7, hx105_8, hx105_9, hx105_10, hx105_11, hx105_12, hx105_13, hx105_14, hx105_15, hx105_16, hx105_17, hx105_18, hx105_19, hx105_20, hx105_21, hx105_22, hx105_23, hx105_24, hx105_25, hx105_26, hx105_27, hx105_28, hx105_29, hx105_30, hx105_31, hx105_32, hx105_33, hx105_34, hx105_35, hx105_36, hx105_37, hx105_38, hx105_39, hx105_40, hx105_41, hx105_42, hx105_43, hx105_44, hx105_45, hx105_46, hx105_47, hx105_48, hx105_49, hx105_50, hx105_51, hx105_52, hx105_53, hx105_54, hx105_55, hx105_56, hx105_57, hx105_58, hx105_59, hx105_60, hx105_61, hx105_62, hx105_63, hx105_64, hx105_65, hx105_66, hx105_67, hx105_68, hx105_69, hx105_70, hx105_71, hx105_72, hx105_73, hl105_7, hi105_7, hl105_24, hi105_24, hl105_62, hi105_62, hl105_63, hi105_63, hl105_66, hi105_66, hl105_67, hi105_67, hl105_72, hi105_72, hl105_73, hi105_73⟩ := at_T94 HR0_2.out x5_1 p105 q105
            cases e105
            replace hx105_0 := (HB.out.cell (World.block_lt_of_cell? w _ hx105_0)).trans hx105_0
            replace hx105_1 := (HB.out.cell (World.block_lt_of_cell? w _ hx105_1)).trans hx105_1
            replace hx105_2 := (HB.out.cell (World.block_lt_of_cell? w _ hx105_2)).trans hx105_2
            replace hx105_3 := (HB.out.cell (World.block_lt_of_cell? w _ hx105_3)).trans hx105_3
            replace hx105_4 := (HB.out.cell (World.block_lt_of_cell? w _ hx105_4)).trans hx105_4
            replace hx105_5 := (HB.out.cell (World.block_lt_of_cell? w _ hx105_5)).trans hx105_5
            replace hx105_6 := (HB.out.cell (World.block_lt_of_cell? w _ hx105_6)).trans hx105_6
            replace hx105_7 := (HB.out.cell (World.block_lt_of_cell? w _ hx105_7)).trans hx105_7
            replace hx105_8 := (HB.out.cell (World.block_lt_of_cell? w _ hx105_8)).trans hx105_8
            replace hx105_9 := (HB.out.cell (World.block_lt_of_cell? w _ hx105_9)).trans hx105_9
            replace hx105_10 := (HB.out.cell (World.block_lt_of_cell? w _ hx105_10)).trans hx105_10
            replace hx105_11 := (HB.out.cell (World.block_lt_of_cell? w _ hx105_11)).trans hx105_11
            replace hx105_12 := (HB.out.cell (World.block_lt_of_cell? w _ hx105_12)).trans hx105_12
            replace hx105_13 := (HB.out.cell (World.block_lt_of_cell? w _ hx105_13)).trans hx105_13
            replace hx105_14 := (HB.out.cell (World.block_lt_of_cell? w _ hx105_14)).trans hx105_14
            replace hx105_15 := (HB.out.cell (World.block_lt_of_cell? w _ hx105_15)).trans hx105_15
            replace hx105_16 := (HB.out.cell (World.block_lt_of_cell? w _ hx105_16)).trans hx105_16
            replace hx105_17 := (HB.out.cell (World.block_lt_of_cell? w _ hx105_17)).trans hx105_17
            replace hx105_18 := (HB.out.cell (World.block_lt_of_cell? w _ hx105_18)).trans hx105_18
            replace hx105_19 := (HB.out.cell (World.block_lt_of_cell? w _ hx105_19)).trans hx105_19
            replace hx105_20 := (HB.out.cell (World.block_lt_of_cell? w _ hx105_20)).trans hx105_20
            replace hx105_21 := (HB.out.cell (World.block_lt_of_cell? w _ hx105_21)).trans hx105_21
            replace hx105_22 := (HB.out.cell (World.block_lt_of_cell? w _ hx105_22)).trans hx105_22
            replace hx105_23 := (HB.out.cell (World.block_lt_of_cell? w _ hx105_23)).trans hx105_23
            replace hx105_24 := (HB.out.cell (World.block_lt_of_cell? w _ hx105_24)).trans hx105_24
            replace hx105_25 := (HB.out.cell (World.block_lt_of_cell? w _ hx105_25)).trans hx105_25
            replace hx105_26 := (HB.out.cell (World.block_lt_of_cell? w _ hx105_26)).trans hx105_26
            replace hx105_27 := (HB.out.cell (World.block_lt_of_cell? w _ hx105_27)).trans hx105_27
            replace hx105_28 := (HB.out.cell (World.block_lt_of_cell? w _ hx105_28)).trans hx105_28
            replace hx105_29 := (HB.out.cell (World.block_lt_of_cell? w _ hx105_29)).trans hx105_29
            replace hx105_30 := (HB.out.cell (World.block_lt_of_cell? w _ hx105_30)).trans hx105_30
            replace hx105_31 := (HB.out.cell (World.block_lt_of_cell? w _ hx105_31)).trans hx105_31
            replace hx105_32 := (HB.out.cell (World.block_lt_of_cell? w _ hx105_32)).trans hx105_32
            replace hx105_33 := (HB.out.cell (World.block_lt_of_cell? w _ hx105_33)).trans hx105_33
            replace hx105_34 := (HB.out.cell (World.block_lt_of_cell? w _ hx105_34)).trans hx105_34
            replace hx105_35 := (HB.out.cell (World.block_lt_of_cell? w _ hx105_35)).trans hx105_35
            replace hx105_36 := (HB.out.cell (World.block_lt_of_cell? w _ hx105_36)).trans hx105_36
            replace hx105_37 := (HB.out.cell (World.block_lt_of_cell? w _ hx105_37)).trans hx105_37
            replace hx105_38 := (HB.out.cell (World.block_lt_of_cell? w _ hx105_38)).trans hx105_38
            replace hx105_39 := (HB.out.cell (World.block_lt_of_cell? w _ hx105_39)).trans hx105_39
            replace hx105_40 := (HB.out.cell (World.block_lt_of_cell? w _ hx105_40)).trans hx105_40
            replace hx105_41 := (HB.out.cell (World.block_lt_of_cell? w _ hx105_41)).trans hx105_41
            replace hx105_42 := (HB.out.cell (World.block_lt_of_cell? w _ hx105_42)).trans hx105_42
            replace hx105_43 := (HB.out.cell (World.block_lt_of_cell? w _ hx105_43)).trans hx105_43
            replace hx105_44 := (HB.out.cell (World.block_lt_of_cell? w _ hx105_44)).trans hx105_44
            replace hx105_45 := (HB.out.cell (World.block_lt_of_cell? w _ hx105_45)).trans hx105_45
            replace hx105_46 := (HB.out.cell (World.block_lt_of_cell? w _ hx105_46)).trans hx105_46
            replace hx105_47 := (HB.out.cell (World.block_lt_of_cell? w _ hx105_47)).trans hx105_47
            replace hx105_48 := (HB.out.cell (World.block_lt_of_cell? w _ hx105_48)).trans hx105_48
            replace hx105_49 := (HB.out.cell (World.block_lt_of_cell? w _ hx105_49)).trans hx105_49
            replace hx105_50 := (HB.out.cell (World.block_lt_of_cell? w _ hx105_50)).trans hx105_50
            replace hx105_51 := (HB.out.cell (World.block_lt_of_cell? w _ hx105_51)).trans hx105_51
            replace hx105_52 := (HB.out.cell (World.block_lt_of_cell? w _ hx105_52)).trans hx105_52
            replace hx105_53 := (HB.out.cell (World.block_lt_of_cell? w _ hx105_53)).trans hx105_53
            replace hx105_54 := (HB.out.cell (World.block_lt_of_cell? w _ hx105_54)).trans hx105_54
            replace hx105_55 := (HB.out.cell (World.block_lt_of_cell? w _ hx105_55)).trans hx105_55
            replace hx105_56 := (HB.out.cell (World.block_lt_of_cell? w _ hx105_56)).trans hx105_56
            replace hx105_57 := (HB.out.cell (World.block_lt_of_cell? w _ hx105_57)).trans hx105_57
            replace hx105_58 := (HB.out.cell (World.block_lt_of_cell? w _ hx105_58)).trans hx105_58
            replace hx105_59 := (HB.out.cell (World.block_lt_of_cell? w _ hx105_59)).trans hx105_59
            replace hx105_60 := (HB.out.cell (World.block_lt_of_cell? w _ hx105_60)).trans hx105_60
            replace hx105_61 := (HB.out.cell (World.block_lt_of_cell? w _ hx105_61)).trans hx105_61
            replace hx105_62 := (HB.out.cell (World.block_lt_of_cell? w _ hx105_62)).trans hx105_62
            replace hx105_63 := (HB.out.cell (World.block_lt_of_cell? w _ hx105_63)).trans hx105_63
            replace hx105_64 := (HB.out.cell (World.block_lt_of_cell? w _ hx105_64)).trans hx105_64
            replace hx105_65 := (HB.out.cell (World.block_lt_of_cell? w _ hx105_65)).trans hx105_65
            replace hx105_66 := (HB.out.cell (World.block_lt_of_cell? w _ hx105_66)).trans hx105_66
            replace hx105_67 := (HB.out.cell (World.block_lt_of_cell? w _ hx105_67)).trans hx105_67
            replace hx105_68 := (HB.out.cell (World.block_lt_of_cell? w _ hx105_68)).trans hx105_68
            replace hx105_69 := (HB.out.cell (World.block_lt_of_cell? w _ hx105_69)).trans hx105_69
            replace hx105_70 := (HB.out.cell (World.block_lt_of_cell? w _ hx105_70)).trans hx105_70
            replace hx105_71 := (HB.out.cell (World.block_lt_of_cell? w _ hx105_71)).trans hx105_71
            replace hx105_72 := (HB.out.cell (World.block_lt_of_cell? w _ hx105_72)).trans hx105_72
            replace hx105_73 := (HB.out.cell (World.block_lt_of_cell? w _ hx105_73)).trans hx105_73
            have HR105_7 := Aside0.mk hi105_7
            have HC105_7 := Aside0.mk hl105_7
            clear hi105_7 hl105_7
            have HR105_24 := Aside0.mk hi105_24
            have HC105_24 := Aside0.mk hl105_24
            clear hi105_24 hl105_24
            have HR105_62 := Aside0.mk hi105_62
            have HC105_62 := Aside0.mk hl105_62
            clear hi105_62 hl105_62
            have HR105_63 := Aside0.mk hi105_63
            have HC105_63 := Aside0.mk hl105_63
            clear hi105_63 hl105_63
            have HR105_66 := Aside0.mk hi105_66
            have HC105_66 := Aside0.mk hl105_66
            clear hi105_66 hl105_66
            have HR105_67 := Aside0.mk hi105_67
            have HC105_67 := Aside0.mk hl105_67
            clear hi105_67 hl105_67
            have HR105_72 := Aside0.mk hi105_72
            have HC105_72 := Aside0.mk hl105_72
            clear hi105_72 hl105_72
            have HR105_73 := Aside0.mk hi105_73
            have HC105_73 := Aside0.mk hl105_73
            clear hi105_73 hl105_73
            replace p105 := eq_true p105
            replace q105 := eq_true q105
            go_wp2
            go_ret
            exact ⟨by first | rfl | (simp [errW_none, errW_some] <;> rfl) | (simp [*, errW_none, errW_some] <;> rfl), by repeat (first | (with_reducible first | exact HB.out | apply below_alloc | apply pw_below_drewN | apply below_drew1 | refine below_set ?_ GE104.out) | exact HB.out)⟩
          · rw [if_neg c6] at H
            have c6b0 : (((rd_T94 l0_2 x5_1).f0) == a1) = false := beq_eq_false_iff_ne.mpr c6
            have c6b1 : (((rd_T94 l0_2 x5_1).f0) != a1) = true := bne_iff_ne.mpr c6
            have H' := Aside0.mk H
            clear H
            have hcz8_0 : wr.cell? ⟨gb104, 0, none⟩ = some (.int .i64 a0_0) := (blk_cell BK104.out 0).trans rfl
            have hcz8_1 : wr.cell? ⟨gb104, 1, none⟩ = some (.int .i64 a0_1) := (blk_cell BK104.out 1).trans rfl
            have hcz8_2 : wr.cell? ⟨gb104, 2, none⟩ = some (.slice A0_2 l0_2.length c0_2) := (blk_cell BK104.out 2).trans rfl
            have hfz8_0 := blk_frozen BK104.out 0
            have hfz8_1 := blk_frozen BK104.out 1
            have hfz8_2 := blk_frozen BK104.out 2
            have p105 : 0 ≤ (x5_1 : Int) := of_decide_eq_true (by first | (with_reducible assumption) | assumption)
            have q105 : x5_1 < (l0_2.length : Int) := of_decide_eq_true (by first | (with_reducible assumption) | assumption)
            obtain ⟨ad105, A105_7, c105_7, A105_24, c105_24, A105_62, c105_62, A105_63, c105_63, A105_66, c105_66, A105_67, c105_67, A105_72, c105_72, A105_73, c105_73, e105, hx105_0, hx105_1, hx105_2, hx105_3, hx105_4, hx105_5, hx105_6, hx105_7, hx105_8, hx105_9, hx105_10, hx105_11, hx105_12, hx105_13, hx105_14, hx105_15, hx105_16, hx105_17, hx105_18, hx105_19, hx105_20, hx105_21, hx105_22, hx105_23, hx105_24, hx105_25, hx105_26, hx105_27, hx105_28, hx105_29, hx105_30, hx105_31, hx105_32, hx105_33, hx105_34, hx105_35, hx105_36, hx105_37, hx105_38, hx105_39, hx105_40, hx105_41, hx105_42, hx105_43, hx105_44, hx105_45, hx105_46, hx105_47, hx105_48, hx105_49, hx105_50, hx105_51, hx105_52, hx105_53, hx105_54, hx105_55, hx105_56, hx105_57, hx105_58, hx105_59, hx105_60, hx105_61, hx105_62, hx105_63, hx105_64, hx105_65, hx105_66, hx105_67, hx105_68, hx105_69, hx105_70, hx105_71, hx105_72, hx105_73, hl105_7, hi105_7, hl105_24, hi105_24, hl105_62, hi105_62, hl105_63, hi105_63, hl105_66, hi105_66, hl105_67, hi105_67, hl105_72, hi105_72, hl105_73, hi105_73⟩ := at_T94 HR0_2.out x5_1 p105 q105
            cases e105
            replace hx105_0 := (HB.out.cell (World.block_lt_of_cell? w _ hx105_0)).trans hx105_0
            replace hx105_1 := (HB.out.cell (World.block_lt_of_cell? w _ hx105_1)).trans hx105_1
            replace hx105_2 := (HB.out.cell (World.block_lt_of_cell? w _ hx105_2)).trans hx105_2
            replace hx105_3 := (HB.out.cell (World.block_lt_of_cell? w _ hx105_3)).trans hx105_3
            replace hx105_4 := (HB.out.cell (World.block_lt_of_cell? w _ hx105_4)).trans hx105_4
            replace hx105_5 := (HB.out.cell (World.block_lt_of_cell? w _ hx105_5)).trans hx105_5
            replace hx105_6 := (HB.out.cell (World.block_lt_of_cell? w _ hx105_6)).trans hx105_6
            replace hx105_7 := (HB.out.cell (World.block_lt_of_cell? w _ hx105_7)).trans hx105_7
            replace hx105_8 := (HB.out.cell (World.block_lt_of_cell? w _ hx105_8)).trans hx105_8
            replace hx105_9 := (HB.out.cell (World.block_lt_of_cell? w _ hx105_9)).trans hx105_9
            replace hx105_10 := (HB.out.cell (World.block_lt_of_cell? w _ hx105_10)).trans hx105_10
            replace hx105_11 := (HB.out.cell (World.block_lt_of_cell? w _ hx105_11)).trans hx105_11
            replace hx105_12 := (HB.out.cell (World.block_lt_of_cell? w _ hx105_12)).trans hx105_12
            replace hx105_13 := (HB.out.cell (World.block_lt_of_cell? w _ hx105_13)).trans hx105_13
            replace hx105_14 := (HB.out.cell (World.block_lt_of_cell? w _ hx105_14)).trans hx105_14
            replace hx105_15 := (HB.out.cell (World.block_lt_of_cell? w _ hx105_15)).trans hx105_15
            replace hx105_16 := (HB.out.cell (World.block_lt_of_cell? w _ hx105_16)).trans hx105_16
            replace hx105_17 := (HB.out.cell (World.block_lt_of_cell? w _ hx105_17)).trans hx105_17
            replace hx105_18 := (HB.out.cell (World.block_lt_of_cell? w _ hx105_18)).trans hx105_18
            replace hx105_19 := (HB.out.cell (World.block_lt_of_cell? w _ hx105_19)).trans hx105_19
            replace hx105_20 := (HB.out.cell (World.block_lt_of_cell? w _ hx105_20)).trans hx105_20
            replace hx105_21 := (HB.out.cell (World.block_lt_of_cell? w _ hx105_21)).trans hx105_21
            replace hx105_22 := (HB.out.cell (World.block_lt_of_cell? w _ hx105_22)).trans hx105_22
            replace hx105_23 := (HB.out.cell (World.block_lt_of_cell? w _ hx105_23)).trans hx105_23
            replace hx105_24 := (HB.out.cell (World.block_lt_of_cell? w _ hx105_24)).trans hx105_24
            replace hx105_25 := (HB.out.cell (World.block_lt_of_cell? w _ hx105_25)).trans hx105_25
            replace hx105_26 := (HB.out.cell (World.block_lt_of_cell? w _ hx105_26)).trans hx105_26
            replace hx105_27 := (HB.out.cell (World.block_lt_of_cell? w _ hx105_27)).trans hx105_27
            replace hx105_28 := (HB.out.cell (World.block_lt_of_cell? w _ hx105_28)).trans hx105_28
            replace hx105_29 := (HB.out.cell (World.block_lt_of_cell? w _ hx105_29)).trans hx105_29
            replace hx105_30 := (HB.out.cell (World.block_lt_of_cell? w _ hx105_30)).trans hx105_30
            replace hx105_31 := (HB.out.cell (World.block_lt_of_cell? w _ hx105_31)).trans hx105_31
            replace hx105_32 := (HB.out.cell (World.block_lt_of_cell? w _ hx105_32)).trans hx105_32
            replace hx105_33 := (HB.out.cell (World.block_lt_of_cell? w _ hx105_33)).trans hx105_33
            replace hx105_34 := (HB.out.cell (World.block_lt_of_cell? w _ hx105_34)).trans hx105_34
            replace hx105_35 := (HB.out.cell (World.block_lt_of_cell? w _ hx105_35)).trans hx105_35
            replace hx105_36 := (HB.out.cell (World.block_lt_of_cell? w _ hx105_36)).trans hx105_36
            replace hx105_37 := (HB.out.cell (World.block_lt_of_cell? w _ hx105_37)).trans hx105_37
            replace hx105_38 := (HB.out.cell (World.block_lt_of_cell? w _ hx105_38)).trans hx105_38
            replace hx105_39 := (HB.out.cell (World.block_lt_of_cell? w _ hx105_39)).trans hx105_39
            replace hx105_40 := (HB.out.cell (World.block_lt_of_cell? w _ hx105_40)).trans hx105_40
            replace hx105_41 := (HB.out.cell (World.block_lt_of_cell? w _ hx105_41)).trans hx105_41
            replace hx105_42 := (HB.out.cell (World.block_lt_of_cell? w _ hx105_42)).trans hx105_42
            replace hx105_43 := (HB.out.cell (World.block_lt_of_cell? w _ hx105_43)).trans hx105_43
            replace hx105_44 := (HB.out.cell (World.block_lt_of_cell? w _ hx105_44)).trans hx105_44
            replace hx105_45 := (HB.out.cell (World.block_lt_of_cell? w _ hx105_45)).trans hx105_45
            replace hx105_46 := (HB.out.cell (World.block_lt_of_cell? w _ hx105_46)).trans hx105_46
            replace hx105_47 := (HB.out.cell (World.block_lt_of_cell? w _ hx105_47)).trans hx105_47
            replace hx105_48 := (HB.out.cell (World.block_lt_of_cell? w _ hx105_48)).trans hx105_48
            replace hx105_49 := (HB.out.cell (World.block_lt_of_cell? w _ hx105_49)).trans hx105_49
            replace hx105_50 := (HB.out.cell (World.block_lt_of_cell? w _ hx105_50)).trans hx105_50
            replace hx105_51 := (HB.out.cell (World.block_lt_of_cell? w _ hx105_51)).trans hx105_51
            replace hx105_52 := (HB.out.cell (World.block_lt_of_cell? w _ hx105_52)).trans hx105_52
            replace hx105_53 := (HB.out.cell (World.block_lt_of_cell? w _ hx105_53)).trans hx105_53
            replace hx105_54 := (HB.out.cell (World.block_lt_of_cell? w _ hx105_54)).trans hx105_54
            replace hx105_55 := (HB.out.cell (World.block_lt_of_cell? w _ hx105_55)).trans hx105_55
            replace hx105_56 := (HB.out.cell (World.block_lt_of_cell? w _ hx105_56)).trans hx105_56
            replace hx105_57 := (HB.out.cell (World.block_lt_of_cell? w _ hx105_57)).trans hx105_57
            replace hx105_58 := (HB.out.cell (World.block_lt_of_cell? w _ hx105_58)).trans hx105_58
            replace hx105_59 := (HB.out.cell (World.block_lt_of_cell? w _ hx105_59)).trans hx105_59
            replace hx105_60 := (HB.out.cell (World.block_lt_of_cell? w _ hx105_60)).trans hx105_60
            replace hx105_61 := (HB.out.cell (World.block_lt_of_cell? w _ hx105_61)).trans hx105_61
            replace hx105_62 := (HB.out.cell (World.block_lt_of_cell? w _ hx105_62)).trans hx105_62
            replace hx105_63 := (HB.out.cell (World.block_lt_of_cell? w _ hx105_63)).trans hx105_63
            replace hx105_64 := (HB.out.cell (World.block_lt_of_cell? w _ hx105_64)).trans hx105_64
            replace hx105_65 := (HB.out.cell (World.block_lt_of_cell? w _ hx105_65)).trans hx105_65
            replace hx105_66 := (HB.out.cell (World.block_lt_of_cell? w _ hx105_66)).trans hx105_66
            replace hx105_67 := (HB.out.cell (World.block_lt_of_cell? w _ hx105_67)).trans hx105_67
            replace hx105_68 := (HB.out.cell (World.block_lt_of_cell? w _ hx105_68)).trans hx105_68
            replace hx105_69 := (HB.out.cell (World.block_lt_of_cell? w _ hx105_69)).trans hx105_69
            replace hx105_70 := (HB.out.cell (World.block_lt_of_cell? w _ hx105_70)).trans hx105_70
            replace hx105_71 := (HB.out.cell (World.block_lt_of_cell? w _ hx105_71)).trans hx105_71
            replace hx105_72 := (HB.out.cell (World.block_lt_of_cell? w _ hx105_72)).trans hx105_72
            replace hx105_73 := (HB.out.cell (World.block_lt_of_cell? w _ hx105_73)).trans hx105_73
            have HR105_7 := Aside0.mk hi105_7
            have HC105_7 := Aside0.mk hl105_7
            clear hi105_7 hl105_7
            have HR105_24 := Aside0.mk hi105_24
            have HC105_24 := Aside0.mk hl105_24
            clear hi105_24 hl105_24
            have HR105_62 := Aside0.mk hi105_62
            have HC105_62 := Aside0.mk hl105_62
            clear hi105_62 hl105_62
            have HR105_63 := Aside0.mk hi105_63
            have HC105_63 := Aside0.mk hl105_63
            clear hi105_63 hl105_63
            have HR105_66 := Aside0.mk hi105_66
            have HC105_66 := Aside0.mk hl105_66
            clear hi105_66 hl105_66
            have HR105_67 := Aside0.mk hi105_67
            have HC105_67 := Aside0.mk hl105_67
            clear hi105_67 hl105_67
            have HR105_72 := Aside0.mk hi105_72
            have HC105_72 := Aside0.mk hl105_72
            clear hi105_72 hl105_72
            have HR105_73 := Aside0.mk hi105_73
            have HC105_73 := Aside0.mk hl105_73
            clear hi105_73 hl105_73
            replace p105 := eq_true p105
            replace q105 := eq_true q105
            go_wp2
            go_roundg k1
            case measure => have := HK1.out; omega
            case rel => exact ⟨(wrap64 (x5_1 + 1)), (by first | rfl | (simp; done) | (simp [*]; done)), H', ⟨by have := HK1.out; omega⟩, ⟨by (with_reducible repeat (first | refine blk_drewN ?_ _ | refine blk_drew ?_ | refine blk_alloc ?_ _)); exact BK104.out⟩, ⟨by repeat (first | (with_reducible first | exact HB.out | apply below_alloc | apply pw_below_drewN | apply below_drew1 | refine below_set ?_ GE104.out) | exact HB.out)⟩⟩
        · rw [if_neg c5] at H
          exact absurd H (by simp)
      · rw [if_neg c4] at H
        have c4b0 : decide (x5_1 < (l0_2.length : Int)) = false := decide_eq_false c4
        clear c4
        obtain rfl := Option.some.inj H
        have hcz9_0 : wr.cell? ⟨gb104, 0, none⟩ = some (.int .i64 a0_0) := (blk_cell BK104.out 0).trans rfl
        have hcz9_1 : wr.cell? ⟨gb104, 1, none⟩ = some (.int .i64 a0_1) := (blk_cell BK104.out 1).trans rfl
        have hcz9_2 : wr.cell? ⟨gb104, 2, none⟩ = some (.slice A0_2 l0_2.length c0_2) := (blk_cell BK104.out 2).trans rfl
        have hfz9_0 := blk_frozen BK104.out 0
        have hfz9_1 := blk_frozen BK104.out 1
        have hfz9_2 := blk_frozen BK104.out 2
        go_wp2
        go_ret
        exact ⟨by first | rfl | (simp [errW_none, errW_some] <;> rfl) | (simp [*, errW_none, errW_some] <;> rfl), by repeat (first | (with_reducible first | exact HB.out | apply below_alloc | apply pw_below_drewN | apply below_drew1 | refine below_set ?_ GE104.out) | exact HB.out)⟩

-- NOT PRINTED: function 9 (messuagelaw23_made)

/-! ### messuageref22_Row: function 10 -/
def messuageref22_Row.l0 : Nat → List Int → List Int → Int → Option (Bool)
  | 0, _, _, _ => none
  | k + 1, x0, x1, x5 => if x5 < (x0.length : Int) then (if 0 ≤ x5 then (if x5 < (x1.length : Int) then (if (rd x0 x5) = (rd x1 x5) then (messuageref22_Row.l0 k x0 x1 (wrap64 (x5 + 1))) else (some false)) else (none)) else (none)) else (some true)
def messuageref22_Row.f (k : Nat) (l0 : List Int) (l1 : List Int) : Option (Bool) := if (l0.length : Int) = (l1.length : Int) then (messuageref22_Row.l0 k l0 l1 0) else (some false)
theorem messuageref22_Row.mono_l : ∀ k, (∀ y0 y1 y2, LeO (messuageref22_Row.l0 k y0 y1 y2) (messuageref22_Row.l0 (k + 1) y0 y1 y2))
  | 0 => fun _ _ _ r h => by simp [messuageref22_Row.l0] at h
  | k + 1 => by
    have ih0 := messuageref22_Row.mono_l k
    · intro y0 y1 y2
      unfold messuageref22_Row.l0
      repeat' first
      | (with_reducible exact ih0 _ _ _)
      | (with_reducible exact LeO.refl _)
      | (with_reducible exact LeO.none _)
      | (with_reducible refine LeO.ite ?_ ?_)
      | (with_reducible refine LeO.bind ?_ (fun _ => ?_))
      | exact ih0 _ _ _
      | exact LeO.none _
      | refine LeO.ite ?_ ?_
      | refine LeO.bind ?_ (fun _ => ?_)
theorem messuageref22_Row.mono : ∀ a0 a1 k, LeO (messuageref22_Row.f k a0 a1) (messuageref22_Row.f (k + 1) a0 a1) := by
  intro a0 a1 k
  have ih0 := messuageref22_Row.mono_l k
  unfold messuageref22_Row.f
  repeat' first
      | (with_reducible exact ih0 _ _ _)
      | (with_reducible exact LeO.refl _)
      | (with_reducible exact LeO.none _)
      | (with_reducible refine LeO.ite ?_ ?_)
      | (with_reducible refine LeO.bind ?_ (fun _ => ?_))
      | exact ih0 _ _ _
      | exact LeO.none _
      | refine LeO.ite ?_ ?_
      | refine LeO.bind ?_ (fun _ => ?_)
set_option maxHeartbeats 8000000 in
set_option maxRecDepth 100000 in
theorem messuageref22_Row.calls (k : Nat) (A0 : Option Addr) (c0 : Nat) (l0 : List Int) (A1 : Option Addr) (c1 : Nat) (l1 : List Int) (r : Bool) (w : World) (hr0 : Kd.C (Kd.int .i64) w A0 l0.length l0) (hc0 : l0.length ≤ c0) (hr1 : Kd.C (Kd.int .i64) w A1 l1.length l1) (hc1 : l1.length ≤ c1) (h : messuageref22_Row.f k l0 l1 = some r) :
    Calls Try.prog 10 #[.slice A0 l0.length c0, .slice A1 l1.length c1] w fun e w' => e = .returned (.bool r) ∧ Drawn0 w w' := by
  have HR0 := Aside0.mk hr0
  have HC0 := Aside0.mk hc0
  clear hr0 hc0
  have HR1 := Aside0.mk hr1
  have HC1 := Aside0.mk hc1
  clear hr1 hc1
  have H : (if (l0.length : Int) = (l1.length : Int) then (messuageref22_Row.l0 k l0 l1 0) else (some false)) = some r := h
  clear h
  by_cases c3 : (l0.length : Int) = (l1.length : Int)
  · rw [if_pos c3] at H
    have c3b0 : ((l0.length : Int) == (l1.length : Int)) = true := beq_iff_eq.mpr c3
    have c3b1 : ((l0.length : Int) != (l1.length : Int)) = false := bne_eq_false_iff_eq.mpr c3
    have c3b2 : (l0.length == l1.length) = true := by first | simpa using c3 | (simp at c3 ⊢; omega)
    clear c3
    have H' := Aside0.mk H
    clear H
    go_enter Try.func10, Try.ntmps10
    go_wp2
    repeat (go_quiet (fail); try go_wp2)
    go_loopg [5] k (fun kq v5 w' => ∃ (x5_1 : Int), v5 = .int .i64 x5_1 ∧ Aside0 (messuageref22_Row.l0 kq l0 l1 x5_1 = some r) ∧ Aside0 (kq ≤ k) ∧ Drawn0 w w')
    case atStart => exact ⟨(0), (by first | rfl | (simp; done) | (simp [*]; done)), H', ⟨Nat.le_refl _⟩, by repeat (first | exact Drawn0.refl _ | apply Drawn0.step)⟩
    case round =>
      clear H'
      try clear c1
      try clear p2
      try clear c3
      try clear c3b0
      try clear c3b1
      try clear c3b2
      obtain ⟨x5_1, rfl, HA, HK1, ⟨m1, rfl⟩⟩ := hrel
      cases gk with
      | zero => exact absurd HA.out (by simp [messuageref22_Row.l0])
      | succ k1 =>
        have H := HA.out
        clear HA
        simp only [messuageref22_Row.l0] at H
        by_cases c4 : x5_1 < (l0.length : Int)
        · rw [if_pos c4] at H
          have c4b0 : decide (x5_1 < (l0.length : Int)) = true := decide_eq_true c4
          clear c4
          by_cases c5 : 0 ≤ x5_1
          · rw [if_pos c5] at H
            have c5b0 : decide (0 ≤ x5_1) = true := decide_eq_true c5
            clear c5
            by_cases c6 : x5_1 < (l1.length : Int)
            · rw [if_pos c6] at H
              have c6b0 : decide (x5_1 < (l1.length : Int)) = true := decide_eq_true c6
              clear c6
              by_cases c7 : (rd l0 x5_1) = (rd l1 x5_1)
              · rw [if_pos c7] at H
                have c7b0 : ((rd l0 x5_1) == (rd l1 x5_1)) = true := beq_iff_eq.mpr c7
                have c7b1 : ((rd l0 x5_1) != (rd l1 x5_1)) = false := bne_eq_false_iff_eq.mpr c7
                clear c7
                have H' := Aside0.mk H
                clear H
                have p106 : 0 ≤ (x5_1 : Int) := of_decide_eq_true (by first | (with_reducible assumption) | assumption)
                have q106 : x5_1 < (l0.length : Int) := of_decide_eq_true (by first | (with_reducible assumption) | assumption)
                obtain ⟨ad106, e106, hx106_0⟩ := Kd.at_int HR0.out x5_1 p106 q106
                cases e106
                replace p106 := eq_true p106
                replace q106 := eq_true q106
                have p107 : 0 ≤ (x5_1 : Int) := of_decide_eq_true (by first | (with_reducible assumption) | assumption)
                have q107 : x5_1 < (l1.length : Int) := of_decide_eq_true (by first | (with_reducible assumption) | assumption)
                obtain ⟨ad107, e107, hx107_0⟩ := Kd.at_int HR1.out x5_1 p107 q107
                cases e107
                replace p107 := eq_true p107
                replace q107 := eq_true q107
                go_wp2
                repeat (go_quiet (fail); try go_wp2)
                go_roundg k1
                case measure => have := HK1.out; omega
                case rel => exact ⟨(wrap64 (x5_1 + 1)), (by first | rfl | (simp; done) | (simp [*]; done)), H', ⟨by have := HK1.out; omega⟩, by repeat (first | exact Drawn0.refl _ | apply Drawn0.step)⟩
              · rw [if_neg c7] at H
                have c7b0 : ((rd l0 x5_1) == (rd l1 x5_1)) = false := beq_eq_false_iff_ne.mpr c7
                have c7b1 : ((rd l0 x5_1) != (rd l1 x5_1)) = true := bne_iff_ne.mpr c7
                obtain rfl := Option.some.inj H
                have p106 : 0 ≤ (x5_1 : Int) := of_decide_eq_true (by first | (with_reducible assumption) | assumption)
                have q106 : x5_1 < (l0.length : Int) := of_decide_eq_true (by first | (with_reducible assumption) | assumption)
                obtain ⟨ad106, e106, hx106_0⟩ := Kd.at_int HR0.out x5_1 p106 q106
                cases e106
                replace p106 := eq_true p106
                replace q106 := eq_true q106
                have p107 : 0 ≤ (x5_1 : Int) := of_decide_eq_true (by first | (with_reducible assumption) | assumption)
                have q107 : x5_1 < (l1.length : Int) := of_decide_eq_true (by first | (with_reducible assumption) | assumption)
                obtain ⟨ad107, e107, hx107_0⟩ := Kd.at_int HR1.out x5_1 p107 q107
                cases e107
                replace p107 := eq_true p107
                replace q107 := eq_true q107
                go_wp2
                repeat (go_quiet (fail); try go_wp2)
                go_ret
                exact ⟨by first | rfl | (simp; done) | (simp [*]; done), by repeat (first | exact Drawn0.refl _ | apply Drawn0.step)⟩
            · rw [if_neg c6] at H
              exact absurd H (by simp)
          · rw [if_neg c5] at H
            exact absurd H (by simp)
        · rw [if_neg c4] at H
          have c4b0 : decide (x5_1 < (l0.length : Int)) = false := decide_eq_false c4
          clear c4
          obtain rfl := Option.some.inj H
          go_wp2
          repeat (go_quiet (fail); try go_wp2)
          go_ret
          exact ⟨by first | rfl | (simp; done) | (simp [*]; done), by repeat (first | exact Drawn0.refl _ | apply Drawn0.step)⟩
  · rw [if_neg c3] at H
    have c3b0 : ((l0.length : Int) == (l1.length : Int)) = false := beq_eq_false_iff_ne.mpr c3
    have c3b1 : ((l0.length : Int) != (l1.length : Int)) = true := bne_iff_ne.mpr c3
    have c3b2 : (l0.length == l1.length) = false := by first | simpa using c3 | (simp at c3 ⊢; omega)
    obtain rfl := Option.some.inj H
    go_enter Try.func10, Try.ntmps10
    go_wp2
    repeat (go_quiet (fail); try go_wp2)
    go_ret
    exact ⟨by first | rfl | (simp; done) | (simp [*]; done), by repeat (first | exact Drawn0.refl _ | apply Drawn0.step)⟩

-- NOT PRINTED: function 31 (scope_breadth)

-- NOT PRINTED: function 11 (scope_Group)

/-! ### messuageref22_Has: function 24 -/
def messuageref22_Has.l0 : Nat → List Int → Int → Int → Option (Bool)
  | 0, _, _, _ => none
  | k + 1, x0, x1, x5 => if x5 < (x0.length : Int) then (if 0 ≤ x5 then (if (rd x0 x5) = x1 then (some true) else (messuageref22_Has.l0 k x0 x1 (wrap64 (x5 + 1)))) else (none)) else (some false)
def messuageref22_Has.f (k : Nat) (l0 : List Int) (a1 : Int) : Option (Bool) := messuageref22_Has.l0 k l0 a1 0
theorem messuageref22_Has.mono_l : ∀ k, (∀ y0 y1 y2, LeO (messuageref22_Has.l0 k y0 y1 y2) (messuageref22_Has.l0 (k + 1) y0 y1 y2))
  | 0 => fun _ _ _ r h => by simp [messuageref22_Has.l0] at h
  | k + 1 => by
    have ih0 := messuageref22_Has.mono_l k
    · intro y0 y1 y2
      unfold messuageref22_Has.l0
      repeat' first
      | (with_reducible exact ih0 _ _ _)
      | (with_reducible exact LeO.refl _)
      | (with_reducible exact LeO.none _)
      | (with_reducible refine LeO.ite ?_ ?_)
      | (with_reducible refine LeO.bind ?_ (fun _ => ?_))
      | exact ih0 _ _ _
      | exact LeO.none _
      | refine LeO.ite ?_ ?_
      | refine LeO.bind ?_ (fun _ => ?_)
theorem messuageref22_Has.mono : ∀ a0 a1 k, LeO (messuageref22_Has.f k a0 a1) (messuageref22_Has.f (k + 1) a0 a1) := by
  intro a0 a1 k
  have ih0 := messuageref22_Has.mono_l k
  unfold messuageref22_Has.f
  repeat' first
      | (with_reducible exact ih0 _ _ _)
      | (with_reducible exact LeO.refl _)
      | (with_reducible exact LeO.none _)
      | (with_reducible refine LeO.ite ?_ ?_)
      | (with_reducible refine LeO.bind ?_ (fun _ => ?_))
      | exact ih0 _ _ _
      | exact LeO.none _
      | refine LeO.ite ?_ ?_
      | refine LeO.bind ?_ (fun _ => ?_)
set_option maxHeartbeats 8000000 in
set_option maxRecDepth 100000 in
theorem messuageref22_Has.calls (k : Nat) (A0 : Option Addr) (c0 : Nat) (l0 : List Int) (a1 : Int) (r : Bool) (w : World) (hr0 : Kd.C (Kd.int .i64) w A0 l0.length l0) (hc0 : l0.length ≤ c0) (h : messuageref22_Has.f k l0 a1 = some r) :
    Calls Try.prog 24 #[.slice A0 l0.length c0, .int .i64 a1] w fun e w' => e = .returned (.bool r) ∧ Drawn0 w w' := by
  have HR0 := Aside0.mk hr0
  have HC0 := Aside0.mk hc0
  clear hr0 hc0
  have H : (messuageref22_Has.l0 k l0 a1 0) = some r := h
  clear h
  have H' := Aside0.mk H
  clear H
  go_enter Try.func24, Try.ntmps24
  go_wp2
  go_loopg [5] k (fun kq v5 w' => ∃ (x5_1 : Int), v5 = .int .i64 x5_1 ∧ Aside0 (messuageref22_Has.l0 kq l0 a1 x5_1 = some r) ∧ Aside0 (kq ≤ k) ∧ Drawn0 w w')
  case atStart => exact ⟨(0), (by first | rfl | (simp; done) | (simp [*]; done)), H', ⟨Nat.le_refl _⟩, by repeat (first | exact Drawn0.refl _ | apply Drawn0.step)⟩
  case round =>
    clear H'
    try clear c2
    try clear p2
    obtain ⟨x5_1, rfl, HA, HK1, ⟨m1, rfl⟩⟩ := hrel
    cases gk with
    | zero => exact absurd HA.out (by simp [messuageref22_Has.l0])
    | succ k1 =>
      have H := HA.out
      clear HA
      simp only [messuageref22_Has.l0] at H
      by_cases c3 : x5_1 < (l0.length : Int)
      · rw [if_pos c3] at H
        have c3b0 : decide (x5_1 < (l0.length : Int)) = true := decide_eq_true c3
        clear c3
        by_cases c4 : 0 ≤ x5_1
        · rw [if_pos c4] at H
          have c4b0 : decide (0 ≤ x5_1) = true := decide_eq_true c4
          clear c4
          by_cases c5 : (rd l0 x5_1) = a1
          · rw [if_pos c5] at H
            have c5b0 : ((rd l0 x5_1) == a1) = true := beq_iff_eq.mpr c5
            have c5b1 : ((rd l0 x5_1) != a1) = false := bne_eq_false_iff_eq.mpr c5
            clear c5
            obtain rfl := Option.some.inj H
            have p108 : 0 ≤ (x5_1 : Int) := of_decide_eq_true (by first | (with_reducible assumption) | assumption)
            have q108 : x5_1 < (l0.length : Int) := of_decide_eq_true (by first | (with_reducible assumption) | assumption)
            obtain ⟨ad108, e108, hx108_0⟩ := Kd.at_int HR0.out x5_1 p108 q108
            cases e108
            replace p108 := eq_true p108
            replace q108 := eq_true q108
            go_wp2
            go_ret
            exact ⟨by first | rfl | (simp; done) | (simp [*]; done), by repeat (first | exact Drawn0.refl _ | apply Drawn0.step)⟩
          · rw [if_neg c5] at H
            have c5b0 : ((rd l0 x5_1) == a1) = false := beq_eq_false_iff_ne.mpr c5
            have c5b1 : ((rd l0 x5_1) != a1) = true := bne_iff_ne.mpr c5
            have H' := Aside0.mk H
            clear H
            have p108 : 0 ≤ (x5_1 : Int) := of_decide_eq_true (by first | (with_reducible assumption) | assumption)
            have q108 : x5_1 < (l0.length : Int) := of_decide_eq_true (by first | (with_reducible assumption) | assumption)
            obtain ⟨ad108, e108, hx108_0⟩ := Kd.at_int HR0.out x5_1 p108 q108
            cases e108
            replace p108 := eq_true p108
            replace q108 := eq_true q108
            go_wp2
            go_roundg k1
            case measure => have := HK1.out; omega
            case rel => exact ⟨(wrap64 (x5_1 + 1)), (by first | rfl | (simp; done) | (simp [*]; done)), H', ⟨by have := HK1.out; omega⟩, by repeat (first | exact Drawn0.refl _ | apply Drawn0.step)⟩
        · rw [if_neg c4] at H
          exact absurd H (by simp)
      · rw [if_neg c3] at H
        have c3b0 : decide (x5_1 < (l0.length : Int)) = false := decide_eq_false c3
        clear c3
        obtain rfl := Option.some.inj H
        go_wp2
        go_ret
        exact ⟨by first | rfl | (simp; done) | (simp [*]; done), by repeat (first | exact Drawn0.refl _ | apply Drawn0.step)⟩

end Go.Proofs.Ytmcihkfbgcfccaa.Z
