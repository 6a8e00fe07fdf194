-- Written by this session's program gen.py (over the kit's printer) for this seat. Not trusted: Lean checks it.
import Derived.Test.YtkikbbmgibgamaaZ0
import Derived.Test.YtkikbbmgibgamaaZ4
import Derived.Test.YtkikbbmgibgamaaZ5
import Derived.Test.YtkikbbmgibgamaaZ6
import Derived.Test.YtkikbbmgibgamaaHAlive
namespace Go.Proofs.Ytkikbbmgibgamaa.Z
open Go.RowKit Go.Proofs.Ytkikbbmgibgamaa.H Go.Proofs.YtkikbbmgibgamaaW.PrintWords Go.Proofs.YtkikbbmgibgamaaW.PrintLast Go.Proofs.YtkikbbmgibgamaaW.PrintMore
attribute [local go_sem] max2_int min2_int max_two min_two max_three min_three max_four min_four   -- for this text's walks alone
set_option linter.unusedVariables false
set_option linter.unusedSimpArgs false

/-! ### messuageref07_Find: function 13 -/
mutual
def messuageref07_Find.l0 : Nat → List Int → ByteArray → List (S33) → Int → Int → Option (Int × Int × Int)
  | 0, _, _, _, _, _ => none
  | k + 1, x0, x1, x7, x8, x10 => if x10 < (x7.length : Int) then (if 0 ≤ x10 then (if ((rd_T33 x7 x10).f0).toList = x1.toList then (if ((rd_T33 x7 x10).f1) = 0 then ((messuageref07_n.f k x0 (IntKind.u64.wrap (((rd_T33 x7 x10).f4) + 26)) 2).bind fun t252 => ((messuageref07_n.f k x0 (IntKind.u64.wrap (((rd_T33 x7 x10).f4) + 28)) 2).bind fun t253 => (if (IntKind.u64.wrap (((rd_T33 x7 x10).f4) + 30)) > x8 then (messuageref07_Find.j1 k x0 x1 t252 (IntKind.u64.wrap ((IntKind.u64.wrap ((IntKind.u64.wrap (((rd_T33 x7 x10).f4) + 30)) + t252)) + t253)) true ((rd_T33 x7 x10).f0) ((rd_T33 x7 x10).f1) ((rd_T33 x7 x10).f2) ((rd_T33 x7 x10).f3) ((rd_T33 x7 x10).f4)) else ((messuageref07_n.f k x0 ((rd_T33 x7 x10).f4) 4).bind fun t254 => (if t254 = 67324752 then (if (IntKind.u64.wrap ((IntKind.u64.wrap (((rd_T33 x7 x10).f4) + 30)) + t252)) > (IntKind.u64.wrap ((x0.length : Int))) then (messuageref07_Find.j1 k x0 x1 t252 (IntKind.u64.wrap ((IntKind.u64.wrap ((IntKind.u64.wrap (((rd_T33 x7 x10).f4) + 30)) + t252)) + t253)) true ((rd_T33 x7 x10).f0) ((rd_T33 x7 x10).f1) ((rd_T33 x7 x10).f2) ((rd_T33 x7 x10).f3) ((rd_T33 x7 x10).f4)) else ((messuageref07_n.f k x0 (IntKind.u64.wrap (((rd_T33 x7 x10).f4) + 8)) 2).bind fun t255 => (if t255 = 0 then (if ((rd_T33 x7 x10).f2) = ((rd_T33 x7 x10).f3) then (messuageref07_Find.j1 k x0 x1 t252 (IntKind.u64.wrap ((IntKind.u64.wrap ((IntKind.u64.wrap (((rd_T33 x7 x10).f4) + 30)) + t252)) + t253)) (decide ((IntKind.u64.wrap ((IntKind.u64.wrap ((IntKind.u64.wrap ((IntKind.u64.wrap (((rd_T33 x7 x10).f4) + 30)) + t252)) + t253)) + ((rd_T33 x7 x10).f2))) > x8)) ((rd_T33 x7 x10).f0) ((rd_T33 x7 x10).f1) ((rd_T33 x7 x10).f2) ((rd_T33 x7 x10).f3) ((rd_T33 x7 x10).f4)) else (messuageref07_Find.j1 k x0 x1 t252 (IntKind.u64.wrap ((IntKind.u64.wrap ((IntKind.u64.wrap (((rd_T33 x7 x10).f4) + 30)) + t252)) + t253)) true ((rd_T33 x7 x10).f0) ((rd_T33 x7 x10).f1) ((rd_T33 x7 x10).f2) ((rd_T33 x7 x10).f3) ((rd_T33 x7 x10).f4))) else (messuageref07_Find.j1 k x0 x1 t252 (IntKind.u64.wrap ((IntKind.u64.wrap ((IntKind.u64.wrap (((rd_T33 x7 x10).f4) + 30)) + t252)) + t253)) true ((rd_T33 x7 x10).f0) ((rd_T33 x7 x10).f1) ((rd_T33 x7 x10).f2) ((rd_T33 x7 x10).f3) ((rd_T33 x7 x10).f4))))) else (messuageref07_Find.j1 k x0 x1 t252 (IntKind.u64.wrap ((IntKind.u64.wrap ((IntKind.u64.wrap (((rd_T33 x7 x10).f4) + 30)) + t252)) + t253)) true ((rd_T33 x7 x10).f0) ((rd_T33 x7 x10).f1) ((rd_T33 x7 x10).f2) ((rd_T33 x7 x10).f3) ((rd_T33 x7 x10).f4))))))) else (some (0, 0, 72))) else (messuageref07_Find.l0 k x0 x1 x7 x8 (wrap64 (x10 + 1)))) else (none)) else (some (0, 0, 71))
def messuageref07_Find.j1 : Nat → List Int → ByteArray → Int → Int → Bool → ByteArray → Int → Int → Int → Int → Option (Int × Int × Int)
  | 0, _, _, _, _, _, _, _, _, _, _ => none
  | k + 1, x0, x1, x12, x13, x101, x252000, x252001, x252002, x252003, x252004 => if x101 = true then (some (0, 0, 70)) else (if 0 ≤ (IntKind.u64.wrap (x252004 + 30)) then (if (IntKind.u64.wrap (x252004 + 30)) ≤ (IntKind.u64.wrap ((IntKind.u64.wrap (x252004 + 30)) + x12)) then (if (IntKind.u64.wrap ((IntKind.u64.wrap (x252004 + 30)) + x12)) ≤ (x0.length : Int) then (if (strOfNums ((x0.take ((IntKind.u64.wrap ((IntKind.u64.wrap (x252004 + 30)) + x12)) : Int).toNat).drop ((IntKind.u64.wrap (x252004 + 30)) : Int).toNat)).toList = x1.toList then (if (Int.tmod x13 256) = 0 then (some (x13, x252002, 0)) else (some (0, 0, 73))) else (some (0, 0, 70))) else (none)) else (none)) else (none))
end
def messuageref07_Find.f (k : Nat) (l0 : List Int) (a1 : ByteArray) : Option (Int × Int × Int) := (messuageref07_List.f k l0).bind fun bt245 => (if bt245.2.2 = 0 then (messuageref07_Find.l0 k l0 a1 bt245.1 bt245.2.1 0) else (some (0, 0, bt245.2.2)))
theorem messuageref07_Find.mono_l : ∀ k, (∀ y0 y1 y2 y3 y4, LeO (messuageref07_Find.l0 k y0 y1 y2 y3 y4) (messuageref07_Find.l0 (k + 1) y0 y1 y2 y3 y4)) ∧ (∀ y0 y1 y2 y3 y4 y5 y6 y7 y8 y9, LeO (messuageref07_Find.j1 k y0 y1 y2 y3 y4 y5 y6 y7 y8 y9) (messuageref07_Find.j1 (k + 1) y0 y1 y2 y3 y4 y5 y6 y7 y8 y9))
  | 0 => ⟨fun _ _ _ _ _ r h => by simp [messuageref07_Find.l0] at h, fun _ _ _ _ _ _ _ _ _ _ r h => by simp [messuageref07_Find.j1] at h⟩
  | k + 1 => by
    obtain ⟨ih0, ih1⟩ := messuageref07_Find.mono_l k
    refine ⟨?_, ?_⟩
    · intro y0 y1 y2 y3 y4
      unfold messuageref07_Find.l0
      repeat' first
      | (with_reducible exact ih0 _ _ _ _ _)
      | (with_reducible exact ih1 _ _ _ _ _ _ _ _ _ _)
      | (with_reducible exact messuageref07_List.mono _ _)
      | (with_reducible exact messuageref07_n.mono _ _ _ _)
      | (with_reducible exact LeO.refl _)
      | (with_reducible exact LeO.none _)
      | (with_reducible refine LeO.ite ?_ ?_)
      | (with_reducible refine LeO.bind ?_ (fun _ => ?_))
      | exact ih0 _ _ _ _ _
      | exact ih1 _ _ _ _ _ _ _ _ _ _
      | exact messuageref07_List.mono _ _
      | exact messuageref07_n.mono _ _ _ _
      | exact LeO.none _
      | refine LeO.ite ?_ ?_
      | refine LeO.bind ?_ (fun _ => ?_)
    · intro y0 y1 y2 y3 y4 y5 y6 y7 y8 y9
      unfold messuageref07_Find.j1
      repeat' first
      | (with_reducible exact ih0 _ _ _ _ _)
      | (with_reducible exact ih1 _ _ _ _ _ _ _ _ _ _)
      | (with_reducible exact messuageref07_List.mono _ _)
      | (with_reducible exact messuageref07_n.mono _ _ _ _)
      | (with_reducible exact LeO.refl _)
      | (with_reducible exact LeO.none _)
      | (with_reducible refine LeO.ite ?_ ?_)
      | (with_reducible refine LeO.bind ?_ (fun _ => ?_))
      | exact ih0 _ _ _ _ _
      | exact ih1 _ _ _ _ _ _ _ _ _ _
      | exact messuageref07_List.mono _ _
      | exact messuageref07_n.mono _ _ _ _
      | exact LeO.none _
      | refine LeO.ite ?_ ?_
      | refine LeO.bind ?_ (fun _ => ?_)
theorem messuageref07_Find.mono : ∀ a0 a1 k, LeO (messuageref07_Find.f k a0 a1) (messuageref07_Find.f (k + 1) a0 a1) := by
  intro a0 a1 k
  obtain ⟨ih0, ih1⟩ := messuageref07_Find.mono_l k
  unfold messuageref07_Find.f
  repeat' first
      | (with_reducible exact ih0 _ _ _ _ _)
      | (with_reducible exact ih1 _ _ _ _ _ _ _ _ _ _)
      | (with_reducible exact messuageref07_List.mono _ _)
      | (with_reducible exact messuageref07_n.mono _ _ _ _)
      | (with_reducible exact LeO.refl _)
      | (with_reducible exact LeO.none _)
      | (with_reducible refine LeO.ite ?_ ?_)
      | (with_reducible refine LeO.bind ?_ (fun _ => ?_))
      | exact ih0 _ _ _ _ _
      | exact ih1 _ _ _ _ _ _ _ _ _ _
      | exact messuageref07_List.mono _ _
      | exact messuageref07_n.mono _ _ _ _
      | exact LeO.none _
      | refine LeO.ite ?_ ?_
      | refine LeO.bind ?_ (fun _ => ?_)
set_option maxHeartbeats 8000000 in
set_option maxRecDepth 100000 in
theorem messuageref07_Find.calls (k : Nat) (A0 : Option Addr) (c0 : Nat) (l0 : List Int) (a1 : ByteArray) (r1 : Int) (r2 : Int) (r3 : Int) (w : World) (hr0 : Kd.C (Kd.int .u8) w A0 l0.length l0) (hc0 : l0.length ≤ c0) (h : messuageref07_Find.f k l0 a1 = some (r1, r2, r3)) :
    Calls Try.prog 13 #[.slice A0 l0.length c0, .string a1] w fun e w' => e = .returned (.tuple #[.int .u64 r1, .int .u64 r2, .int .i64 r3]) ∧ Below w.heap.size w w' := by
  have hu33 := Try.underlying33
  have HR0 := Aside0.mk hr0
  have HC0 := Aside0.mk hc0
  clear hr0 hc0
  have HB := Aside0.mk (Below.refl w.heap.size w)
  have H : ((messuageref07_List.f k l0).bind fun bt245 => (if bt245.2.2 = 0 then (messuageref07_Find.l0 k l0 a1 bt245.1 bt245.2.1 0) else (some (0, 0, bt245.2.2)))) = some (r1, r2, r3) := h
  clear h
  replace H := Option.bind_eq_some_iff.mp H
  obtain ⟨⟨t245, t246, t247⟩, A30, H⟩ := H
  replace H : (if t247 = 0 then (messuageref07_Find.l0 k l0 a1 t245 t246 0) else (some (0, 0, t247))) = some (r1, r2, r3) := H
  have A3 := Aside0.mk A30
  clear A30
  by_cases c4 : t247 = 0
  · rw [if_pos c4] at H
    have c4b0 : (t247 == 0) = true := beq_iff_eq.mpr c4
    have c4b1 : (t247 != 0) = false := bne_eq_false_iff_eq.mpr c4
    clear c4
    have H' := Aside0.mk H
    clear H
    go_enter Try.func13, Try.ntmps13
    go_wp2_with (first | (go_at_call 10; (with_reducible refine (messuageref07_List.calls k _ _ l0 t245 t246 t247 _ ?side1 ?side2 A3.out).mono ?_); (case side1 => repeat (first | exact HR0.out | (with_reducible refine Kd.C_alloc ?_ _) | (with_reducible refine Kd.C_drewN ?_ _) | (with_reducible refine Kd.C_drew ?_))); (case side2 => exact HC0.out); rintro e w5 ⟨v248, rfl, ho0, hb⟩; have n0_ := Aside0.mk (Kd.R_lower ho0 (below_size (by repeat (first | (with_reducible first | exact HB.out | apply below_alloc | apply pw_below_drewN | apply below_drew1) | exact HB.out)))); have n1_ := Aside0.mk (below_step (by repeat (first | (with_reducible first | exact HB.out | apply below_alloc | apply pw_below_drewN | apply below_drew1) | exact HB.out)) hb); clear HB; have HO249 := n0_; have HB := n1_; clear n0_ n1_; (try clear hb); (try clear hb2); (try clear hk); (try clear hi); (try clear ho0)))
    repeat (go_quiet (first | (go_at_call 10; (with_reducible refine (messuageref07_List.calls k _ _ l0 t245 t246 t247 _ ?side1 ?side2 A3.out).mono ?_); (case side1 => repeat (first | exact HR0.out | (with_reducible refine Kd.C_alloc ?_ _) | (with_reducible refine Kd.C_drewN ?_ _) | (with_reducible refine Kd.C_drew ?_))); (case side2 => exact HC0.out); rintro e w5 ⟨v248, rfl, ho0, hb⟩; have n0_ := Aside0.mk (Kd.R_lower ho0 (below_size (by repeat (first | (with_reducible first | exact HB.out | apply below_alloc | apply pw_below_drewN | apply below_drew1) | exact HB.out)))); have n1_ := Aside0.mk (below_step (by repeat (first | (with_reducible first | exact HB.out | apply below_alloc | apply pw_below_drewN | apply below_drew1) | exact HB.out)) hb); clear HB; have HO249 := n0_; have HB := n1_; clear n0_ n1_; (try clear hb); (try clear hb2); (try clear hk); (try clear hi); (try clear ho0))); try go_wp2_with (first | (go_at_call 10; (with_reducible refine (messuageref07_List.calls k _ _ l0 t245 t246 t247 _ ?side1 ?side2 A3.out).mono ?_); (case side1 => repeat (first | exact HR0.out | (with_reducible refine Kd.C_alloc ?_ _) | (with_reducible refine Kd.C_drewN ?_ _) | (with_reducible refine Kd.C_drew ?_))); (case side2 => exact HC0.out); rintro e w5 ⟨v248, rfl, ho0, hb⟩; have n0_ := Aside0.mk (Kd.R_lower ho0 (below_size (by repeat (first | (with_reducible first | exact HB.out | apply below_alloc | apply pw_below_drewN | apply below_drew1) | exact HB.out)))); have n1_ := Aside0.mk (below_step (by repeat (first | (with_reducible first | exact HB.out | apply below_alloc | apply pw_below_drewN | apply below_drew1) | exact HB.out)) hb); clear HB; have HO249 := n0_; have HB := n1_; clear n0_ n1_; (try clear hb); (try clear hb2); (try clear hk); (try clear hi); (try clear ho0))))
    go_loopg [10] k (fun kq v10 w' => ∃ (x10_1 : Int), v10 = .int .i64 x10_1 ∧ Aside0 (messuageref07_Find.l0 kq l0 a1 t245 t246 x10_1 = some (r1, r2, r3)) ∧ Aside0 (kq ≤ k) ∧ Aside0 (Kd.R k33 33 w' w.heap.size (fun _ => True) v248 t245) ∧ Aside0 (Below w.heap.size w w'))
    case atStart => exact ⟨(0), (by first | rfl | (simp; done) | (simp [*]; done)), H', ⟨Nat.le_refl _⟩, ⟨by (with_reducible repeat (first | apply Kd.R_alloc | apply Kd.R_drewN | apply Kd.R_drew)); exact HO249.out⟩, ⟨by repeat (first | (with_reducible first | exact HB.out | apply below_alloc | apply pw_below_drewN | apply below_drew1) | exact HB.out)⟩⟩
    case round =>
      clear H'
      try clear c1
      try clear p2
      try clear c4
      try clear c4b0
      try clear c4b1
      obtain ⟨x10_1, rfl, HA, HK1, HO_7, HB⟩ := hrel
      cases gk with
      | zero => exact absurd HA.out (by simp [messuageref07_Find.l0])
      | succ k1 =>
        have H := HA.out
        clear HA
        simp only [messuageref07_Find.l0] at H
        by_cases c6 : x10_1 < (t245.length : Int)
        · rw [if_pos c6] at H
          have c6b0 : decide (x10_1 < (t245.length : Int)) = true := decide_eq_true c6
          clear c6
          by_cases c7 : 0 ≤ x10_1
          · rw [if_pos c7] at H
            have c7b0 : decide (0 ≤ x10_1) = true := decide_eq_true c7
            clear c7
            by_cases c8 : ((rd_T33 t245 x10_1).f0).toList = a1.toList
            · rw [if_pos c8] at H
              have c8b0 : (((rd_T33 t245 x10_1).f0).toList == a1.toList) = true := beq_iff_eq.mpr c8
              have c8b1 : (((rd_T33 t245 x10_1).f0).toList != a1.toList) = false := bne_eq_false_iff_eq.mpr c8
              clear c8
              by_cases c9 : ((rd_T33 t245 x10_1).f1) = 0
              · rw [if_pos c9] at H
                have c9b0 : (((rd_T33 t245 x10_1).f1) == 0) = true := beq_iff_eq.mpr c9
                have c9b1 : (((rd_T33 t245 x10_1).f1) != 0) = false := bne_eq_false_iff_eq.mpr c9
                clear c9
                replace H := Option.bind_eq_some_iff.mp H
                obtain ⟨t252, A100, H⟩ := H
                replace H : ((messuageref07_n.f k1 l0 (IntKind.u64.wrap (((rd_T33 t245 x10_1).f4) + 28)) 2).bind fun t253 => (if (IntKind.u64.wrap (((rd_T33 t245 x10_1).f4) + 30)) > t246 then (messuageref07_Find.j1 k1 l0 a1 t252 (IntKind.u64.wrap ((IntKind.u64.wrap ((IntKind.u64.wrap (((rd_T33 t245 x10_1).f4) + 30)) + t252)) + t253)) true ((rd_T33 t245 x10_1).f0) ((rd_T33 t245 x10_1).f1) ((rd_T33 t245 x10_1).f2) ((rd_T33 t245 x10_1).f3) ((rd_T33 t245 x10_1).f4)) else ((messuageref07_n.f k1 l0 ((rd_T33 t245 x10_1).f4) 4).bind fun t254 => (if t254 = 67324752 then (if (IntKind.u64.wrap ((IntKind.u64.wrap (((rd_T33 t245 x10_1).f4) + 30)) + t252)) > (IntKind.u64.wrap ((l0.length : Int))) then (messuageref07_Find.j1 k1 l0 a1 t252 (IntKind.u64.wrap ((IntKind.u64.wrap ((IntKind.u64.wrap (((rd_T33 t245 x10_1).f4) + 30)) + t252)) + t253)) true ((rd_T33 t245 x10_1).f0) ((rd_T33 t245 x10_1).f1) ((rd_T33 t245 x10_1).f2) ((rd_T33 t245 x10_1).f3) ((rd_T33 t245 x10_1).f4)) else ((messuageref07_n.f k1 l0 (IntKind.u64.wrap (((rd_T33 t245 x10_1).f4) + 8)) 2).bind fun t255 => (if t255 = 0 then (if ((rd_T33 t245 x10_1).f2) = ((rd_T33 t245 x10_1).f3) then (messuageref07_Find.j1 k1 l0 a1 t252 (IntKind.u64.wrap ((IntKind.u64.wrap ((IntKind.u64.wrap (((rd_T33 t245 x10_1).f4) + 30)) + t252)) + t253)) (decide ((IntKind.u64.wrap ((IntKind.u64.wrap ((IntKind.u64.wrap ((IntKind.u64.wrap (((rd_T33 t245 x10_1).f4) + 30)) + t252)) + t253)) + ((rd_T33 t245 x10_1).f2))) > t246)) ((rd_T33 t245 x10_1).f0) ((rd_T33 t245 x10_1).f1) ((rd_T33 t245 x10_1).f2) ((rd_T33 t245 x10_1).f3) ((rd_T33 t245 x10_1).f4)) else (messuageref07_Find.j1 k1 l0 a1 t252 (IntKind.u64.wrap ((IntKind.u64.wrap ((IntKind.u64.wrap (((rd_T33 t245 x10_1).f4) + 30)) + t252)) + t253)) true ((rd_T33 t245 x10_1).f0) ((rd_T33 t245 x10_1).f1) ((rd_T33 t245 x10_1).f2) ((rd_T33 t245 x10_1).f3) ((rd_T33 t245 x10_1).f4))) else (messuageref07_Find.j1 k1 l0 a1 t252 (IntKind.u64.wrap ((IntKind.u64.wrap ((IntKind.u64.wrap (((rd_T33 t245 x10_1).f4) + 30)) + t252)) + t253)) true ((rd_T33 t245 x10_1).f0) ((rd_T33 t245 x10_1).f1) ((rd_T33 t245 x10_1).f2) ((rd_T33 t245 x10_1).f3) ((rd_T33 t245 x10_1).f4))))) else (messuageref07_Find.j1 k1 l0 a1 t252 (IntKind.u64.wrap ((IntKind.u64.wrap ((IntKind.u64.wrap (((rd_T33 t245 x10_1).f4) + 30)) + t252)) + t253)) true ((rd_T33 t245 x10_1).f0) ((rd_T33 t245 x10_1).f1) ((rd_T33 t245 x10_1).f2) ((rd_T33 t245 x10_1).f3) ((rd_T33 t245 x10_1).f4)))))) = some (r1, r2, r3) := H
                have A10 := Aside0.mk A100
                clear A100
                replace H := Option.bind_eq_some_iff.mp H
                obtain ⟨t253, A110, H⟩ := H
                replace H : (if (IntKind.u64.wrap (((rd_T33 t245 x10_1).f4) + 30)) > t246 then (messuageref07_Find.j1 k1 l0 a1 t252 (IntKind.u64.wrap ((IntKind.u64.wrap ((IntKind.u64.wrap (((rd_T33 t245 x10_1).f4) + 30)) + t252)) + t253)) true ((rd_T33 t245 x10_1).f0) ((rd_T33 t245 x10_1).f1) ((rd_T33 t245 x10_1).f2) ((rd_T33 t245 x10_1).f3) ((rd_T33 t245 x10_1).f4)) else ((messuageref07_n.f k1 l0 ((rd_T33 t245 x10_1).f4) 4).bind fun t254 => (if t254 = 67324752 then (if (IntKind.u64.wrap ((IntKind.u64.wrap (((rd_T33 t245 x10_1).f4) + 30)) + t252)) > (IntKind.u64.wrap ((l0.length : Int))) then (messuageref07_Find.j1 k1 l0 a1 t252 (IntKind.u64.wrap ((IntKind.u64.wrap ((IntKind.u64.wrap (((rd_T33 t245 x10_1).f4) + 30)) + t252)) + t253)) true ((rd_T33 t245 x10_1).f0) ((rd_T33 t245 x10_1).f1) ((rd_T33 t245 x10_1).f2) ((rd_T33 t245 x10_1).f3) ((rd_T33 t245 x10_1).f4)) else ((messuageref07_n.f k1 l0 (IntKind.u64.wrap (((rd_T33 t245 x10_1).f4) + 8)) 2).bind fun t255 => (if t255 = 0 then (if ((rd_T33 t245 x10_1).f2) = ((rd_T33 t245 x10_1).f3) then (messuageref07_Find.j1 k1 l0 a1 t252 (IntKind.u64.wrap ((IntKind.u64.wrap ((IntKind.u64.wrap (((rd_T33 t245 x10_1).f4) + 30)) + t252)) + t253)) (decide ((IntKind.u64.wrap ((IntKind.u64.wrap ((IntKind.u64.wrap ((IntKind.u64.wrap (((rd_T33 t245 x10_1).f4) + 30)) + t252)) + t253)) + ((rd_T33 t245 x10_1).f2))) > t246)) ((rd_T33 t245 x10_1).f0) ((rd_T33 t245 x10_1).f1) ((rd_T33 t245 x10_1).f2) ((rd_T33 t245 x10_1).f3) ((rd_T33 t245 x10_1).f4)) else (messuageref07_Find.j1 k1 l0 a1 t252 (IntKind.u64.wrap ((IntKind.u64.wrap ((IntKind.u64.wrap (((rd_T33 t245 x10_1).f4) + 30)) + t252)) + t253)) true ((rd_T33 t245 x10_1).f0) ((rd_T33 t245 x10_1).f1) ((rd_T33 t245 x10_1).f2) ((rd_T33 t245 x10_1).f3) ((rd_T33 t245 x10_1).f4))) else (messuageref07_Find.j1 k1 l0 a1 t252 (IntKind.u64.wrap ((IntKind.u64.wrap ((IntKind.u64.wrap (((rd_T33 t245 x10_1).f4) + 30)) + t252)) + t253)) true ((rd_T33 t245 x10_1).f0) ((rd_T33 t245 x10_1).f1) ((rd_T33 t245 x10_1).f2) ((rd_T33 t245 x10_1).f3) ((rd_T33 t245 x10_1).f4))))) else (messuageref07_Find.j1 k1 l0 a1 t252 (IntKind.u64.wrap ((IntKind.u64.wrap ((IntKind.u64.wrap (((rd_T33 t245 x10_1).f4) + 30)) + t252)) + t253)) true ((rd_T33 t245 x10_1).f0) ((rd_T33 t245 x10_1).f1) ((rd_T33 t245 x10_1).f2) ((rd_T33 t245 x10_1).f3) ((rd_T33 t245 x10_1).f4))))) = some (r1, r2, r3) := H
                have A11 := Aside0.mk A110
                clear A110
                have HC12 := Aside0.mk H
                clear H
                obtain ⟨Ao13, co13, eo13⟩ := Kd.R_slice HO_7.out
                subst eo13
                have p250 : 0 ≤ (x10_1 : Int) := of_decide_eq_true (by first | (with_reducible assumption) | assumption)
                have q250 : x10_1 < (t245.length : Int) := of_decide_eq_true (by first | (with_reducible assumption) | assumption)
                obtain ⟨ad250, e250, hx250_0, hx250_1, hx250_2, hx250_3, hx250_4⟩ := at_T33 (Kd.R_reads' HO_7.out).2.2 x10_1 p250 q250
                cases e250
                replace p250 := eq_true p250
                replace q250 := eq_true q250
                go_upto_region 13 with (first | ((with_reducible refine gate_dst (N := 11) rfl ?_); (try (refine gate_guard (by rfl) ?_; dsimp only)); refine box_event ?hg (N := 11) ?hd (cs := #[.string (⟨#[]⟩ : ByteArray), .int .i64 0, .int .u64 0, .int .u64 0, .int .u64 0]) (t := 33) ?hr ?_; (case hd => rfl); (case hg => rfl); (case hr => first | (go_simp; done) | (go_simp; rfl)); intro gb251 hg w14 hbox hb; have n0_ := Aside0.mk (Kd.R_below (Kd.R_elderB (by (with_reducible repeat (first | apply Kd.R_alloc | apply Kd.R_drewN | apply Kd.R_drew)); exact HO_7.out) gb251 (Nat.le_of_eq hg.symm)) hb); have n1_ := Aside0.mk (below_step (by repeat (first | (with_reducible first | exact HB.out | apply below_alloc | apply pw_below_drewN | apply below_drew1) | exact HB.out)) hb); have n2_ := Aside0.mk (hbox); have n3_ := Aside0.mk ((by rw [hg]; exact (below_size (by repeat (first | (with_reducible first | exact HB.out | apply below_alloc | apply pw_below_drewN | apply below_drew1) | exact HB.out))) : w.heap.size ≤ gb251)); have n4_ := Aside0.mk ((by rw [hg]; exact (below_size (by repeat (first | (with_reducible first | exact HB.out | apply below_alloc | apply pw_below_drewN | apply below_drew1) | exact HB.out))) : w.heap.size ≤ gb251)); clear HO_7; clear HB; have HO_7 := n0_; have HB := n1_; have BK251 := n2_; have GW251 := n3_; have GE251 := n4_; clear n0_ n1_ n2_ n3_ n4_; clear hb hbox hg; have hcz15_0 : w14.cell? ⟨gb251, 0, none⟩ = some (.string (⟨#[]⟩ : ByteArray)) := (blk_cell BK251.out 0).trans rfl; have hcz15_1 : w14.cell? ⟨gb251, 1, none⟩ = some (.int .i64 0) := (blk_cell BK251.out 1).trans rfl; have hcz15_2 : w14.cell? ⟨gb251, 2, none⟩ = some (.int .u64 0) := (blk_cell BK251.out 2).trans rfl; have hcz15_3 : w14.cell? ⟨gb251, 3, none⟩ = some (.int .u64 0) := (blk_cell BK251.out 3).trans rfl; have hcz15_4 : w14.cell? ⟨gb251, 4, none⟩ = some (.int .u64 0) := (blk_cell BK251.out 4).trans rfl; have hfz15_0 := blk_frozen BK251.out 0; have hfz15_1 := blk_frozen BK251.out 1; have hfz15_2 := blk_frozen BK251.out 2; have hfz15_3 := blk_frozen BK251.out 3; have hfz15_4 := blk_frozen BK251.out 4) | (go_at_call 20; (with_reducible refine (messuageref07_n.calls k1 _ _ l0 (IntKind.u64.wrap (((rd_T33 t245 x10_1).f4) + 26)) 2 t252 _ ?side1 ?side2 A10.out).mono ?_); (case side1 => exact Kd.C_below HR0.out (by repeat (first | (with_reducible first | exact HB.out | apply below_alloc | apply pw_below_drewN | apply below_drew1 | refine below_set ?_ GE251.out) | exact HB.out))); (case side2 => exact HC0.out); rintro e w' ⟨rfl, ⟨nd, rfl⟩⟩; (try first | exact ⟨rfl, _, World.drewN_drewN _ _ _⟩ | exact ⟨rfl, _, Eq.trans (World.drewN_drewN _ _ _) (congrArg (World.drewN _) (Nat.add_assoc _ _ _))⟩)) | (go_at_call 20; (with_reducible refine (messuageref07_n.calls k1 _ _ l0 (IntKind.u64.wrap (((rd_T33 t245 x10_1).f4) + 28)) 2 t253 _ ?side1 ?side2 A11.out).mono ?_); (case side1 => exact Kd.C_below HR0.out (by repeat (first | (with_reducible first | exact HB.out | apply below_alloc | apply pw_below_drewN | apply below_drew1 | refine below_set ?_ GE251.out) | exact HB.out))); (case side2 => exact HC0.out); rintro e w' ⟨rfl, ⟨nd, rfl⟩⟩; (try first | exact ⟨rfl, _, World.drewN_drewN _ _ _⟩ | exact ⟨rfl, _, Eq.trans (World.drewN_drewN _ _ _) (congrArg (World.drewN _) (Nat.add_assoc _ _ _))⟩)))
                repeat (go_quiet (first | ((with_reducible refine gate_dst (N := 11) rfl ?_); (try (refine gate_guard (by rfl) ?_; dsimp only)); refine box_event ?hg (N := 11) ?hd (cs := #[.string (⟨#[]⟩ : ByteArray), .int .i64 0, .int .u64 0, .int .u64 0, .int .u64 0]) (t := 33) ?hr ?_; (case hd => rfl); (case hg => rfl); (case hr => first | (go_simp; done) | (go_simp; rfl)); intro gb251 hg w14 hbox hb; have n0_ := Aside0.mk (Kd.R_below (Kd.R_elderB (by (with_reducible repeat (first | apply Kd.R_alloc | apply Kd.R_drewN | apply Kd.R_drew)); exact HO_7.out) gb251 (Nat.le_of_eq hg.symm)) hb); have n1_ := Aside0.mk (below_step (by repeat (first | (with_reducible first | exact HB.out | apply below_alloc | apply pw_below_drewN | apply below_drew1) | exact HB.out)) hb); have n2_ := Aside0.mk (hbox); have n3_ := Aside0.mk ((by rw [hg]; exact (below_size (by repeat (first | (with_reducible first | exact HB.out | apply below_alloc | apply pw_below_drewN | apply below_drew1) | exact HB.out))) : w.heap.size ≤ gb251)); have n4_ := Aside0.mk ((by rw [hg]; exact (below_size (by repeat (first | (with_reducible first | exact HB.out | apply below_alloc | apply pw_below_drewN | apply below_drew1) | exact HB.out))) : w.heap.size ≤ gb251)); clear HO_7; clear HB; have HO_7 := n0_; have HB := n1_; have BK251 := n2_; have GW251 := n3_; have GE251 := n4_; clear n0_ n1_ n2_ n3_ n4_; clear hb hbox hg; have hcz15_0 : w14.cell? ⟨gb251, 0, none⟩ = some (.string (⟨#[]⟩ : ByteArray)) := (blk_cell BK251.out 0).trans rfl; have hcz15_1 : w14.cell? ⟨gb251, 1, none⟩ = some (.int .i64 0) := (blk_cell BK251.out 1).trans rfl; have hcz15_2 : w14.cell? ⟨gb251, 2, none⟩ = some (.int .u64 0) := (blk_cell BK251.out 2).trans rfl; have hcz15_3 : w14.cell? ⟨gb251, 3, none⟩ = some (.int .u64 0) := (blk_cell BK251.out 3).trans rfl; have hcz15_4 : w14.cell? ⟨gb251, 4, none⟩ = some (.int .u64 0) := (blk_cell BK251.out 4).trans rfl; have hfz15_0 := blk_frozen BK251.out 0; have hfz15_1 := blk_frozen BK251.out 1; have hfz15_2 := blk_frozen BK251.out 2; have hfz15_3 := blk_frozen BK251.out 3; have hfz15_4 := blk_frozen BK251.out 4) | (go_at_call 20; (with_reducible refine (messuageref07_n.calls k1 _ _ l0 (IntKind.u64.wrap (((rd_T33 t245 x10_1).f4) + 26)) 2 t252 _ ?side1 ?side2 A10.out).mono ?_); (case side1 => exact Kd.C_below HR0.out (by repeat (first | (with_reducible first | exact HB.out | apply below_alloc | apply pw_below_drewN | apply below_drew1 | refine below_set ?_ GE251.out) | exact HB.out))); (case side2 => exact HC0.out); rintro e w' ⟨rfl, ⟨nd, rfl⟩⟩; (try first | exact ⟨rfl, _, World.drewN_drewN _ _ _⟩ | exact ⟨rfl, _, Eq.trans (World.drewN_drewN _ _ _) (congrArg (World.drewN _) (Nat.add_assoc _ _ _))⟩)) | (go_at_call 20; (with_reducible refine (messuageref07_n.calls k1 _ _ l0 (IntKind.u64.wrap (((rd_T33 t245 x10_1).f4) + 28)) 2 t253 _ ?side1 ?side2 A11.out).mono ?_); (case side1 => exact Kd.C_below HR0.out (by repeat (first | (with_reducible first | exact HB.out | apply below_alloc | apply pw_below_drewN | apply below_drew1 | refine below_set ?_ GE251.out) | exact HB.out))); (case side2 => exact HC0.out); rintro e w' ⟨rfl, ⟨nd, rfl⟩⟩; (try first | exact ⟨rfl, _, World.drewN_drewN _ _ _⟩ | exact ⟨rfl, _, Eq.trans (World.drewN_drewN _ _ _) (congrArg (World.drewN _) (Nat.add_assoc _ _ _))⟩))); go_upto_region 13 with (first | ((with_reducible refine gate_dst (N := 11) rfl ?_); (try (refine gate_guard (by rfl) ?_; dsimp only)); refine box_event ?hg (N := 11) ?hd (cs := #[.string (⟨#[]⟩ : ByteArray), .int .i64 0, .int .u64 0, .int .u64 0, .int .u64 0]) (t := 33) ?hr ?_; (case hd => rfl); (case hg => rfl); (case hr => first | (go_simp; done) | (go_simp; rfl)); intro gb251 hg w14 hbox hb; have n0_ := Aside0.mk (Kd.R_below (Kd.R_elderB (by (with_reducible repeat (first | apply Kd.R_alloc | apply Kd.R_drewN | apply Kd.R_drew)); exact HO_7.out) gb251 (Nat.le_of_eq hg.symm)) hb); have n1_ := Aside0.mk (below_step (by repeat (first | (with_reducible first | exact HB.out | apply below_alloc | apply pw_below_drewN | apply below_drew1) | exact HB.out)) hb); have n2_ := Aside0.mk (hbox); have n3_ := Aside0.mk ((by rw [hg]; exact (below_size (by repeat (first | (with_reducible first | exact HB.out | apply below_alloc | apply pw_below_drewN | apply below_drew1) | exact HB.out))) : w.heap.size ≤ gb251)); have n4_ := Aside0.mk ((by rw [hg]; exact (below_size (by repeat (first | (with_reducible first | exact HB.out | apply below_alloc | apply pw_below_drewN | apply below_drew1) | exact HB.out))) : w.heap.size ≤ gb251)); clear HO_7; clear HB; have HO_7 := n0_; have HB := n1_; have BK251 := n2_; have GW251 := n3_; have GE251 := n4_; clear n0_ n1_ n2_ n3_ n4_; clear hb hbox hg; have hcz15_0 : w14.cell? ⟨gb251, 0, none⟩ = some (.string (⟨#[]⟩ : ByteArray)) := (blk_cell BK251.out 0).trans rfl; have hcz15_1 : w14.cell? ⟨gb251, 1, none⟩ = some (.int .i64 0) := (blk_cell BK251.out 1).trans rfl; have hcz15_2 : w14.cell? ⟨gb251, 2, none⟩ = some (.int .u64 0) := (blk_cell BK251.out 2).trans rfl; have hcz15_3 : w14.cell? ⟨gb251, 3, none⟩ = some (.int .u64 0) := (blk_cell BK251.out 3).trans rfl; have hcz15_4 : w14.cell? ⟨gb251, 4, none⟩ = some (.int .u64 0) := (blk_cell BK251.out 4).trans rfl; have hfz15_0 := blk_frozen BK251.out 0; have hfz15_1 := blk_frozen BK251.out 1; have hfz15_2 := blk_frozen BK251.out 2; have hfz15_3 := blk_frozen BK251.out 3; have hfz15_4 := blk_frozen BK251.out 4) | (go_at_call 20; (with_reducible refine (messuageref07_n.calls k1 _ _ l0 (IntKind.u64.wrap (((rd_T33 t245 x10_1).f4) + 26)) 2 t252 _ ?side1 ?side2 A10.out).mono ?_); (case side1 => exact Kd.C_below HR0.out (by repeat (first | (with_reducible first | exact HB.out | apply below_alloc | apply pw_below_drewN | apply below_drew1 | refine below_set ?_ GE251.out) | exact HB.out))); (case side2 => exact HC0.out); rintro e w' ⟨rfl, ⟨nd, rfl⟩⟩; (try first | exact ⟨rfl, _, World.drewN_drewN _ _ _⟩ | exact ⟨rfl, _, Eq.trans (World.drewN_drewN _ _ _) (congrArg (World.drewN _) (Nat.add_assoc _ _ _))⟩)) | (go_at_call 20; (with_reducible refine (messuageref07_n.calls k1 _ _ l0 (IntKind.u64.wrap (((rd_T33 t245 x10_1).f4) + 28)) 2 t253 _ ?side1 ?side2 A11.out).mono ?_); (case side1 => exact Kd.C_below HR0.out (by repeat (first | (with_reducible first | exact HB.out | apply below_alloc | apply pw_below_drewN | apply below_drew1 | refine below_set ?_ GE251.out) | exact HB.out))); (case side2 => exact HC0.out); rintro e w' ⟨rfl, ⟨nd, rfl⟩⟩; (try first | exact ⟨rfl, _, World.drewN_drewN _ _ _⟩ | exact ⟨rfl, _, Eq.trans (World.drewN_drewN _ _ _) (congrArg (World.drewN _) (Nat.add_assoc _ _ _))⟩))))
                (try simp only [Act.put, List.setIfInBounds_toArray, List.set_cons_zero, List.set_cons_succ])
                go_cut [101] (fun v101 wc => ∃ (kq : Nat) (x101_11 : Bool), v101 = .bool x101_11 ∧ Aside0 (messuageref07_Find.j1 kq l0 a1 t252 (IntKind.u64.wrap ((IntKind.u64.wrap ((IntKind.u64.wrap (((rd_T33 t245 x10_1).f4) + 30)) + t252)) + t253)) x101_11 ((rd_T33 t245 x10_1).f0) ((rd_T33 t245 x10_1).f1) ((rd_T33 t245 x10_1).f2) ((rd_T33 t245 x10_1).f3) ((rd_T33 t245 x10_1).f4) = some (r1, r2, r3)) ∧ Aside0 (kq ≤ k1) ∧ Aside0 (wc.heap[gb251]? = some (.cells #[.string ((rd_T33 t245 x10_1).f0), .int .i64 ((rd_T33 t245 x10_1).f1), .int .u64 ((rd_T33 t245 x10_1).f2), .int .u64 ((rd_T33 t245 x10_1).f3), .int .u64 ((rd_T33 t245 x10_1).f4)] 33 (0, 0))) ∧ Aside0 (Below w.heap.size w wc))
                case first =>
                  have H := HC12.out
                  clear HC12
                  by_cases c16 : (IntKind.u64.wrap (((rd_T33 t245 x10_1).f4) + 30)) > t246
                  · rw [if_pos c16] at H
                    have c16b0 : decide (t246 < (IntKind.u64.wrap (((rd_T33 t245 x10_1).f4) + 30))) = true := decide_eq_true c16
                    clear c16
                    (first | rw [c16b0] | (simp only [i64_w, i32_w]; rw [c16b0]) | skip)
                    have H' := Aside0.mk H
                    clear H
                    have hcz17_0 : w14.cell? ⟨gb251, 0, none⟩ = some (.string (⟨#[]⟩ : ByteArray)) := (blk_cell BK251.out 0).trans rfl
                    have hcz17_1 : w14.cell? ⟨gb251, 1, none⟩ = some (.int .i64 0) := (blk_cell BK251.out 1).trans rfl
                    have hcz17_2 : w14.cell? ⟨gb251, 2, none⟩ = some (.int .u64 0) := (blk_cell BK251.out 2).trans rfl
                    have hcz17_3 : w14.cell? ⟨gb251, 3, none⟩ = some (.int .u64 0) := (blk_cell BK251.out 3).trans rfl
                    have hcz17_4 : w14.cell? ⟨gb251, 4, none⟩ = some (.int .u64 0) := (blk_cell BK251.out 4).trans rfl
                    have hfz17_0 := blk_frozen BK251.out 0
                    have hfz17_1 := blk_frozen BK251.out 1
                    have hfz17_2 := blk_frozen BK251.out 2
                    have hfz17_3 := blk_frozen BK251.out 3
                    have hfz17_4 := blk_frozen BK251.out 4
                    go_wp2
                    repeat (go_quiet (fail); try go_wp2)
                    go_meet
                    case rel => exact ⟨_, (true), (by first | rfl | (simp; done) | (simp [*]; done)), H', ⟨by have := HK1.out; first | omega | exact Nat.le_refl _⟩, ⟨by (with_reducible repeat (first | refine blk_drewN ?_ _ | refine blk_drew ?_ | refine blk_alloc ?_ _)); refine blk_put (cs := #[.string ((rd_T33 t245 x10_1).f0), .int .i64 ((rd_T33 t245 x10_1).f1), .int .u64 ((rd_T33 t245 x10_1).f2), .int .u64 ((rd_T33 t245 x10_1).f3), .int .u64 0]) ?_ 4 _ rfl; (with_reducible repeat (first | refine blk_drewN ?_ _ | refine blk_drew ?_ | refine blk_alloc ?_ _)); refine blk_put (cs := #[.string ((rd_T33 t245 x10_1).f0), .int .i64 ((rd_T33 t245 x10_1).f1), .int .u64 ((rd_T33 t245 x10_1).f2), .int .u64 0, .int .u64 0]) ?_ 3 _ rfl; (with_reducible repeat (first | refine blk_drewN ?_ _ | refine blk_drew ?_ | refine blk_alloc ?_ _)); refine blk_put (cs := #[.string ((rd_T33 t245 x10_1).f0), .int .i64 ((rd_T33 t245 x10_1).f1), .int .u64 0, .int .u64 0, .int .u64 0]) ?_ 2 _ rfl; (with_reducible repeat (first | refine blk_drewN ?_ _ | refine blk_drew ?_ | refine blk_alloc ?_ _)); refine blk_put (cs := #[.string ((rd_T33 t245 x10_1).f0), .int .i64 0, .int .u64 0, .int .u64 0, .int .u64 0]) ?_ 1 _ rfl; (with_reducible repeat (first | refine blk_drewN ?_ _ | refine blk_drew ?_ | refine blk_alloc ?_ _)); refine blk_put (cs := #[.string (⟨#[]⟩ : ByteArray), .int .i64 0, .int .u64 0, .int .u64 0, .int .u64 0]) ?_ 0 _ rfl; (with_reducible repeat (first | refine blk_drewN ?_ _ | refine blk_drew ?_ | refine blk_alloc ?_ _)); exact BK251.out⟩, ⟨by repeat (first | (with_reducible first | exact HB.out | apply below_alloc | apply pw_below_drewN | apply below_drew1 | refine below_set ?_ GE251.out) | exact HB.out)⟩⟩
                  · rw [if_neg c16] at H
                    have c16b0 : decide (t246 < (IntKind.u64.wrap (((rd_T33 t245 x10_1).f4) + 30))) = false := decide_eq_false c16
                    clear c16
                    (first | rw [c16b0] | (simp only [i64_w, i32_w]; rw [c16b0]) | skip)
                    replace H := Option.bind_eq_some_iff.mp H
                    obtain ⟨t254, A180, H⟩ := H
                    replace H : (if t254 = 67324752 then (if (IntKind.u64.wrap ((IntKind.u64.wrap (((rd_T33 t245 x10_1).f4) + 30)) + t252)) > (IntKind.u64.wrap ((l0.length : Int))) then (messuageref07_Find.j1 k1 l0 a1 t252 (IntKind.u64.wrap ((IntKind.u64.wrap ((IntKind.u64.wrap (((rd_T33 t245 x10_1).f4) + 30)) + t252)) + t253)) true ((rd_T33 t245 x10_1).f0) ((rd_T33 t245 x10_1).f1) ((rd_T33 t245 x10_1).f2) ((rd_T33 t245 x10_1).f3) ((rd_T33 t245 x10_1).f4)) else ((messuageref07_n.f k1 l0 (IntKind.u64.wrap (((rd_T33 t245 x10_1).f4) + 8)) 2).bind fun t255 => (if t255 = 0 then (if ((rd_T33 t245 x10_1).f2) = ((rd_T33 t245 x10_1).f3) then (messuageref07_Find.j1 k1 l0 a1 t252 (IntKind.u64.wrap ((IntKind.u64.wrap ((IntKind.u64.wrap (((rd_T33 t245 x10_1).f4) + 30)) + t252)) + t253)) (decide ((IntKind.u64.wrap ((IntKind.u64.wrap ((IntKind.u64.wrap ((IntKind.u64.wrap (((rd_T33 t245 x10_1).f4) + 30)) + t252)) + t253)) + ((rd_T33 t245 x10_1).f2))) > t246)) ((rd_T33 t245 x10_1).f0) ((rd_T33 t245 x10_1).f1) ((rd_T33 t245 x10_1).f2) ((rd_T33 t245 x10_1).f3) ((rd_T33 t245 x10_1).f4)) else (messuageref07_Find.j1 k1 l0 a1 t252 (IntKind.u64.wrap ((IntKind.u64.wrap ((IntKind.u64.wrap (((rd_T33 t245 x10_1).f4) + 30)) + t252)) + t253)) true ((rd_T33 t245 x10_1).f0) ((rd_T33 t245 x10_1).f1) ((rd_T33 t245 x10_1).f2) ((rd_T33 t245 x10_1).f3) ((rd_T33 t245 x10_1).f4))) else (messuageref07_Find.j1 k1 l0 a1 t252 (IntKind.u64.wrap ((IntKind.u64.wrap ((IntKind.u64.wrap (((rd_T33 t245 x10_1).f4) + 30)) + t252)) + t253)) true ((rd_T33 t245 x10_1).f0) ((rd_T33 t245 x10_1).f1) ((rd_T33 t245 x10_1).f2) ((rd_T33 t245 x10_1).f3) ((rd_T33 t245 x10_1).f4))))) else (messuageref07_Find.j1 k1 l0 a1 t252 (IntKind.u64.wrap ((IntKind.u64.wrap ((IntKind.u64.wrap (((rd_T33 t245 x10_1).f4) + 30)) + t252)) + t253)) true ((rd_T33 t245 x10_1).f0) ((rd_T33 t245 x10_1).f1) ((rd_T33 t245 x10_1).f2) ((rd_T33 t245 x10_1).f3) ((rd_T33 t245 x10_1).f4))) = some (r1, r2, r3) := H
                    have A18 := Aside0.mk A180
                    clear A180
                    by_cases c19 : t254 = 67324752
                    · rw [if_pos c19] at H
                      have c19b0 : (t254 == 67324752) = true := beq_iff_eq.mpr c19
                      have c19b1 : (t254 != 67324752) = false := bne_eq_false_iff_eq.mpr c19
                      clear c19
                      by_cases c20 : (IntKind.u64.wrap ((IntKind.u64.wrap (((rd_T33 t245 x10_1).f4) + 30)) + t252)) > (IntKind.u64.wrap ((l0.length : Int)))
                      · rw [if_pos c20] at H
                        have c20b0 : decide ((IntKind.u64.wrap ((l0.length : Int))) < (IntKind.u64.wrap ((IntKind.u64.wrap (((rd_T33 t245 x10_1).f4) + 30)) + t252))) = true := decide_eq_true c20
                        clear c20
                        have H' := Aside0.mk H
                        clear H
                        have hcz21_0 : w14.cell? ⟨gb251, 0, none⟩ = some (.string (⟨#[]⟩ : ByteArray)) := (blk_cell BK251.out 0).trans rfl
                        have hcz21_1 : w14.cell? ⟨gb251, 1, none⟩ = some (.int .i64 0) := (blk_cell BK251.out 1).trans rfl
                        have hcz21_2 : w14.cell? ⟨gb251, 2, none⟩ = some (.int .u64 0) := (blk_cell BK251.out 2).trans rfl
                        have hcz21_3 : w14.cell? ⟨gb251, 3, none⟩ = some (.int .u64 0) := (blk_cell BK251.out 3).trans rfl
                        have hcz21_4 : w14.cell? ⟨gb251, 4, none⟩ = some (.int .u64 0) := (blk_cell BK251.out 4).trans rfl
                        have hfz21_0 := blk_frozen BK251.out 0
                        have hfz21_1 := blk_frozen BK251.out 1
                        have hfz21_2 := blk_frozen BK251.out 2
                        have hfz21_3 := blk_frozen BK251.out 3
                        have hfz21_4 := blk_frozen BK251.out 4
                        go_wp2_with (first | (go_at_call 20; (with_reducible refine (messuageref07_n.calls k1 _ _ l0 ((rd_T33 t245 x10_1).f4) 4 t254 _ ?side1 ?side2 A18.out).mono ?_); (case side1 => exact Kd.C_below HR0.out (by repeat (first | (with_reducible first | exact HB.out | apply below_alloc | apply pw_below_drewN | apply below_drew1 | refine below_set ?_ GE251.out) | exact HB.out))); (case side2 => exact HC0.out); rintro e w' ⟨rfl, ⟨nd, rfl⟩⟩; (try first | exact ⟨rfl, _, World.drewN_drewN _ _ _⟩ | exact ⟨rfl, _, Eq.trans (World.drewN_drewN _ _ _) (congrArg (World.drewN _) (Nat.add_assoc _ _ _))⟩)))
                        repeat (go_quiet (first | (go_at_call 20; (with_reducible refine (messuageref07_n.calls k1 _ _ l0 ((rd_T33 t245 x10_1).f4) 4 t254 _ ?side1 ?side2 A18.out).mono ?_); (case side1 => exact Kd.C_below HR0.out (by repeat (first | (with_reducible first | exact HB.out | apply below_alloc | apply pw_below_drewN | apply below_drew1 | refine below_set ?_ GE251.out) | exact HB.out))); (case side2 => exact HC0.out); rintro e w' ⟨rfl, ⟨nd, rfl⟩⟩; (try first | exact ⟨rfl, _, World.drewN_drewN _ _ _⟩ | exact ⟨rfl, _, Eq.trans (World.drewN_drewN _ _ _) (congrArg (World.drewN _) (Nat.add_assoc _ _ _))⟩))); try go_wp2_with (first | (go_at_call 20; (with_reducible refine (messuageref07_n.calls k1 _ _ l0 ((rd_T33 t245 x10_1).f4) 4 t254 _ ?side1 ?side2 A18.out).mono ?_); (case side1 => exact Kd.C_below HR0.out (by repeat (first | (with_reducible first | exact HB.out | apply below_alloc | apply pw_below_drewN | apply below_drew1 | refine below_set ?_ GE251.out) | exact HB.out))); (case side2 => exact HC0.out); rintro e w' ⟨rfl, ⟨nd, rfl⟩⟩; (try first | exact ⟨rfl, _, World.drewN_drewN _ _ _⟩ | exact ⟨rfl, _, Eq.trans (World.drewN_drewN _ _ _) (congrArg (World.drewN _) (Nat.add_assoc _ _ _))⟩))))
                        go_meet
                        case rel => exact ⟨_, (true), (by first | rfl | (simp; done) | (simp [*]; done)), H', ⟨by have := HK1.out; first | omega | exact Nat.le_refl _⟩, ⟨by (with_reducible repeat (first | refine blk_drewN ?_ _ | refine blk_drew ?_ | refine blk_alloc ?_ _)); refine blk_put (cs := #[.string ((rd_T33 t245 x10_1).f0), .int .i64 ((rd_T33 t245 x10_1).f1), .int .u64 ((rd_T33 t245 x10_1).f2), .int .u64 ((rd_T33 t245 x10_1).f3), .int .u64 0]) ?_ 4 _ rfl; (with_reducible repeat (first | refine blk_drewN ?_ _ | refine blk_drew ?_ | refine blk_alloc ?_ _)); refine blk_put (cs := #[.string ((rd_T33 t245 x10_1).f0), .int .i64 ((rd_T33 t245 x10_1).f1), .int .u64 ((rd_T33 t245 x10_1).f2), .int .u64 0, .int .u64 0]) ?_ 3 _ rfl; (with_reducible repeat (first | refine blk_drewN ?_ _ | refine blk_drew ?_ | refine blk_alloc ?_ _)); refine blk_put (cs := #[.string ((rd_T33 t245 x10_1).f0), .int .i64 ((rd_T33 t245 x10_1).f1), .int .u64 0, .int .u64 0, .int .u64 0]) ?_ 2 _ rfl; (with_reducible repeat (first | refine blk_drewN ?_ _ | refine blk_drew ?_ | refine blk_alloc ?_ _)); refine blk_put (cs := #[.string ((rd_T33 t245 x10_1).f0), .int .i64 0, .int .u64 0, .int .u64 0, .int .u64 0]) ?_ 1 _ rfl; (with_reducible repeat (first | refine blk_drewN ?_ _ | refine blk_drew ?_ | refine blk_alloc ?_ _)); refine blk_put (cs := #[.string (⟨#[]⟩ : ByteArray), .int .i64 0, .int .u64 0, .int .u64 0, .int .u64 0]) ?_ 0 _ rfl; (with_reducible repeat (first | refine blk_drewN ?_ _ | refine blk_drew ?_ | refine blk_alloc ?_ _)); exact BK251.out⟩, ⟨by repeat (first | (with_reducible first | exact HB.out | apply below_alloc | apply pw_below_drewN | apply below_drew1 | refine below_set ?_ GE251.out) | exact HB.out)⟩⟩
                      · rw [if_neg c20] at H
                        have c20b0 : decide ((IntKind.u64.wrap ((l0.length : Int))) < (IntKind.u64.wrap ((IntKind.u64.wrap (((rd_T33 t245 x10_1).f4) + 30)) + t252))) = false := decide_eq_false c20
                        clear c20
                        replace H := Option.bind_eq_some_iff.mp H
                        obtain ⟨t255, A220, H⟩ := H
                        replace H : (if t255 = 0 then (if ((rd_T33 t245 x10_1).f2) = ((rd_T33 t245 x10_1).f3) then (messuageref07_Find.j1 k1 l0 a1 t252 (IntKind.u64.wrap ((IntKind.u64.wrap ((IntKind.u64.wrap (((rd_T33 t245 x10_1).f4) + 30)) + t252)) + t253)) (decide ((IntKind.u64.wrap ((IntKind.u64.wrap ((IntKind.u64.wrap ((IntKind.u64.wrap (((rd_T33 t245 x10_1).f4) + 30)) + t252)) + t253)) + ((rd_T33 t245 x10_1).f2))) > t246)) ((rd_T33 t245 x10_1).f0) ((rd_T33 t245 x10_1).f1) ((rd_T33 t245 x10_1).f2) ((rd_T33 t245 x10_1).f3) ((rd_T33 t245 x10_1).f4)) else (messuageref07_Find.j1 k1 l0 a1 t252 (IntKind.u64.wrap ((IntKind.u64.wrap ((IntKind.u64.wrap (((rd_T33 t245 x10_1).f4) + 30)) + t252)) + t253)) true ((rd_T33 t245 x10_1).f0) ((rd_T33 t245 x10_1).f1) ((rd_T33 t245 x10_1).f2) ((rd_T33 t245 x10_1).f3) ((rd_T33 t245 x10_1).f4))) else (messuageref07_Find.j1 k1 l0 a1 t252 (IntKind.u64.wrap ((IntKind.u64.wrap ((IntKind.u64.wrap (((rd_T33 t245 x10_1).f4) + 30)) + t252)) + t253)) true ((rd_T33 t245 x10_1).f0) ((rd_T33 t245 x10_1).f1) ((rd_T33 t245 x10_1).f2) ((rd_T33 t245 x10_1).f3) ((rd_T33 t245 x10_1).f4))) = some (r1, r2, r3) := H
                        have A22 := Aside0.mk A220
                        clear A220
                        by_cases c23 : t255 = 0
                        · rw [if_pos c23] at H
                          have c23b0 : (t255 == 0) = true := beq_iff_eq.mpr c23
                          have c23b1 : (t255 != 0) = false := bne_eq_false_iff_eq.mpr c23
                          clear c23
                          by_cases c24 : ((rd_T33 t245 x10_1).f2) = ((rd_T33 t245 x10_1).f3)
                          · rw [if_pos c24] at H
                            have c24b0 : (((rd_T33 t245 x10_1).f2) == ((rd_T33 t245 x10_1).f3)) = true := beq_iff_eq.mpr c24
                            have c24b1 : (((rd_T33 t245 x10_1).f2) != ((rd_T33 t245 x10_1).f3)) = false := bne_eq_false_iff_eq.mpr c24
                            clear c24
                            have H' := Aside0.mk H
                            clear H
                            have hcz25_0 : w14.cell? ⟨gb251, 0, none⟩ = some (.string (⟨#[]⟩ : ByteArray)) := (blk_cell BK251.out 0).trans rfl
                            have hcz25_1 : w14.cell? ⟨gb251, 1, none⟩ = some (.int .i64 0) := (blk_cell BK251.out 1).trans rfl
                            have hcz25_2 : w14.cell? ⟨gb251, 2, none⟩ = some (.int .u64 0) := (blk_cell BK251.out 2).trans rfl
                            have hcz25_3 : w14.cell? ⟨gb251, 3, none⟩ = some (.int .u64 0) := (blk_cell BK251.out 3).trans rfl
                            have hcz25_4 : w14.cell? ⟨gb251, 4, none⟩ = some (.int .u64 0) := (blk_cell BK251.out 4).trans rfl
                            have hfz25_0 := blk_frozen BK251.out 0
                            have hfz25_1 := blk_frozen BK251.out 1
                            have hfz25_2 := blk_frozen BK251.out 2
                            have hfz25_3 := blk_frozen BK251.out 3
                            have hfz25_4 := blk_frozen BK251.out 4
                            go_wp2_with (first | (go_at_call 20; (with_reducible refine (messuageref07_n.calls k1 _ _ l0 ((rd_T33 t245 x10_1).f4) 4 t254 _ ?side1 ?side2 A18.out).mono ?_); (case side1 => exact Kd.C_below HR0.out (by repeat (first | (with_reducible first | exact HB.out | apply below_alloc | apply pw_below_drewN | apply below_drew1 | refine below_set ?_ GE251.out) | exact HB.out))); (case side2 => exact HC0.out); rintro e w' ⟨rfl, ⟨nd, rfl⟩⟩; (try first | exact ⟨rfl, _, World.drewN_drewN _ _ _⟩ | exact ⟨rfl, _, Eq.trans (World.drewN_drewN _ _ _) (congrArg (World.drewN _) (Nat.add_assoc _ _ _))⟩)) | (go_at_call 20; (with_reducible refine (messuageref07_n.calls k1 _ _ l0 (IntKind.u64.wrap (((rd_T33 t245 x10_1).f4) + 8)) 2 t255 _ ?side1 ?side2 A22.out).mono ?_); (case side1 => exact Kd.C_below HR0.out (by repeat (first | (with_reducible first | exact HB.out | apply below_alloc | apply pw_below_drewN | apply below_drew1 | refine below_set ?_ GE251.out) | exact HB.out))); (case side2 => exact HC0.out); rintro e w' ⟨rfl, ⟨nd, rfl⟩⟩; (try first | exact ⟨rfl, _, World.drewN_drewN _ _ _⟩ | exact ⟨rfl, _, Eq.trans (World.drewN_drewN _ _ _) (congrArg (World.drewN _) (Nat.add_assoc _ _ _))⟩)))
                            repeat (go_quiet (first | (go_at_call 20; (with_reducible refine (messuageref07_n.calls k1 _ _ l0 ((rd_T33 t245 x10_1).f4) 4 t254 _ ?side1 ?side2 A18.out).mono ?_); (case side1 => exact Kd.C_below HR0.out (by repeat (first | (with_reducible first | exact HB.out | apply below_alloc | apply pw_below_drewN | apply below_drew1 | refine below_set ?_ GE251.out) | exact HB.out))); (case side2 => exact HC0.out); rintro e w' ⟨rfl, ⟨nd, rfl⟩⟩; (try first | exact ⟨rfl, _, World.drewN_drewN _ _ _⟩ | exact ⟨rfl, _, Eq.trans (World.drewN_drewN _ _ _) (congrArg (World.drewN _) (Nat.add_assoc _ _ _))⟩)) | (go_at_call 20; (with_reducible refine (messuageref07_n.calls k1 _ _ l0 (IntKind.u64.wrap (((rd_T33 t245 x10_1).f4) + 8)) 2 t255 _ ?side1 ?side2 A22.out).mono ?_); (case side1 => exact Kd.C_below HR0.out (by repeat (first | (with_reducible first | exact HB.out | apply below_alloc | apply pw_below_drewN | apply below_drew1 | refine below_set ?_ GE251.out) | exact HB.out))); (case side2 => exact HC0.out); rintro e w' ⟨rfl, ⟨nd, rfl⟩⟩; (try first | exact ⟨rfl, _, World.drewN_drewN _ _ _⟩ | exact ⟨rfl, _, Eq.trans (World.drewN_drewN _ _ _) (congrArg (World.drewN _) (Nat.add_assoc _ _ _))⟩))); try go_wp2_with (first | (go_at_call 20; (with_reducible refine (messuageref07_n.calls k1 _ _ l0 ((rd_T33 t245 x10_1).f4) 4 t254 _ ?side1 ?side2 A18.out).mono ?_); (case side1 => exact Kd.C_below HR0.out (by repeat (first | (with_reducible first | exact HB.out | apply below_alloc | apply pw_below_drewN | apply below_drew1 | refine below_set ?_ GE251.out) | exact HB.out))); (case side2 => exact HC0.out); rintro e w' ⟨rfl, ⟨nd, rfl⟩⟩; (try first | exact ⟨rfl, _, World.drewN_drewN _ _ _⟩ | exact ⟨rfl, _, Eq.trans (World.drewN_drewN _ _ _) (congrArg (World.drewN _) (Nat.add_assoc _ _ _))⟩)) | (go_at_call 20; (with_reducible refine (messuageref07_n.calls k1 _ _ l0 (IntKind.u64.wrap (((rd_T33 t245 x10_1).f4) + 8)) 2 t255 _ ?side1 ?side2 A22.out).mono ?_); (case side1 => exact Kd.C_below HR0.out (by repeat (first | (with_reducible first | exact HB.out | apply below_alloc | apply pw_below_drewN | apply below_drew1 | refine below_set ?_ GE251.out) | exact HB.out))); (case side2 => exact HC0.out); rintro e w' ⟨rfl, ⟨nd, rfl⟩⟩; (try first | exact ⟨rfl, _, World.drewN_drewN _ _ _⟩ | exact ⟨rfl, _, Eq.trans (World.drewN_drewN _ _ _) (congrArg (World.drewN _) (Nat.add_assoc _ _ _))⟩))))
                            go_meet
                            case rel => exact ⟨_, (decide ((IntKind.u64.wrap ((IntKind.u64.wrap ((IntKind.u64.wrap ((IntKind.u64.wrap (((rd_T33 t245 x10_1).f4) + 30)) + t252)) + t253)) + ((rd_T33 t245 x10_1).f2))) > t246)), (by first | rfl | (simp; done) | (simp [*]; done)), H', ⟨by have := HK1.out; first | omega | exact Nat.le_refl _⟩, ⟨by (with_reducible repeat (first | refine blk_drewN ?_ _ | refine blk_drew ?_ | refine blk_alloc ?_ _)); refine blk_put (cs := #[.string ((rd_T33 t245 x10_1).f0), .int .i64 ((rd_T33 t245 x10_1).f1), .int .u64 ((rd_T33 t245 x10_1).f2), .int .u64 ((rd_T33 t245 x10_1).f3), .int .u64 0]) ?_ 4 _ rfl; (with_reducible repeat (first | refine blk_drewN ?_ _ | refine blk_drew ?_ | refine blk_alloc ?_ _)); refine blk_put (cs := #[.string ((rd_T33 t245 x10_1).f0), .int .i64 ((rd_T33 t245 x10_1).f1), .int .u64 ((rd_T33 t245 x10_1).f2), .int .u64 0, .int .u64 0]) ?_ 3 _ rfl; (with_reducible repeat (first | refine blk_drewN ?_ _ | refine blk_drew ?_ | refine blk_alloc ?_ _)); refine blk_put (cs := #[.string ((rd_T33 t245 x10_1).f0), .int .i64 ((rd_T33 t245 x10_1).f1), .int .u64 0, .int .u64 0, .int .u64 0]) ?_ 2 _ rfl; (with_reducible repeat (first | refine blk_drewN ?_ _ | refine blk_drew ?_ | refine blk_alloc ?_ _)); refine blk_put (cs := #[.string ((rd_T33 t245 x10_1).f0), .int .i64 0, .int .u64 0, .int .u64 0, .int .u64 0]) ?_ 1 _ rfl; (with_reducible repeat (first | refine blk_drewN ?_ _ | refine blk_drew ?_ | refine blk_alloc ?_ _)); refine blk_put (cs := #[.string (⟨#[]⟩ : ByteArray), .int .i64 0, .int .u64 0, .int .u64 0, .int .u64 0]) ?_ 0 _ rfl; (with_reducible repeat (first | refine blk_drewN ?_ _ | refine blk_drew ?_ | refine blk_alloc ?_ _)); exact BK251.out⟩, ⟨by repeat (first | (with_reducible first | exact HB.out | apply below_alloc | apply pw_below_drewN | apply below_drew1 | refine below_set ?_ GE251.out) | exact HB.out)⟩⟩
                          · rw [if_neg c24] at H
                            have c24b0 : (((rd_T33 t245 x10_1).f2) == ((rd_T33 t245 x10_1).f3)) = false := beq_eq_false_iff_ne.mpr c24
                            have c24b1 : (((rd_T33 t245 x10_1).f2) != ((rd_T33 t245 x10_1).f3)) = true := bne_iff_ne.mpr c24
                            have H' := Aside0.mk H
                            clear H
                            have hcz26_0 : w14.cell? ⟨gb251, 0, none⟩ = some (.string (⟨#[]⟩ : ByteArray)) := (blk_cell BK251.out 0).trans rfl
                            have hcz26_1 : w14.cell? ⟨gb251, 1, none⟩ = some (.int .i64 0) := (blk_cell BK251.out 1).trans rfl
                            have hcz26_2 : w14.cell? ⟨gb251, 2, none⟩ = some (.int .u64 0) := (blk_cell BK251.out 2).trans rfl
                            have hcz26_3 : w14.cell? ⟨gb251, 3, none⟩ = some (.int .u64 0) := (blk_cell BK251.out 3).trans rfl
                            have hcz26_4 : w14.cell? ⟨gb251, 4, none⟩ = some (.int .u64 0) := (blk_cell BK251.out 4).trans rfl
                            have hfz26_0 := blk_frozen BK251.out 0
                            have hfz26_1 := blk_frozen BK251.out 1
                            have hfz26_2 := blk_frozen BK251.out 2
                            have hfz26_3 := blk_frozen BK251.out 3
                            have hfz26_4 := blk_frozen BK251.out 4
                            go_wp2_with (first | (go_at_call 20; (with_reducible refine (messuageref07_n.calls k1 _ _ l0 ((rd_T33 t245 x10_1).f4) 4 t254 _ ?side1 ?side2 A18.out).mono ?_); (case side1 => exact Kd.C_below HR0.out (by repeat (first | (with_reducible first | exact HB.out | apply below_alloc | apply pw_below_drewN | apply below_drew1 | refine below_set ?_ GE251.out) | exact HB.out))); (case side2 => exact HC0.out); rintro e w' ⟨rfl, ⟨nd, rfl⟩⟩; (try first | exact ⟨rfl, _, World.drewN_drewN _ _ _⟩ | exact ⟨rfl, _, Eq.trans (World.drewN_drewN _ _ _) (congrArg (World.drewN _) (Nat.add_assoc _ _ _))⟩)) | (go_at_call 20; (with_reducible refine (messuageref07_n.calls k1 _ _ l0 (IntKind.u64.wrap (((rd_T33 t245 x10_1).f4) + 8)) 2 t255 _ ?side1 ?side2 A22.out).mono ?_); (case side1 => exact Kd.C_below HR0.out (by repeat (first | (with_reducible first | exact HB.out | apply below_alloc | apply pw_below_drewN | apply below_drew1 | refine below_set ?_ GE251.out) | exact HB.out))); (case side2 => exact HC0.out); rintro e w' ⟨rfl, ⟨nd, rfl⟩⟩; (try first | exact ⟨rfl, _, World.drewN_drewN _ _ _⟩ | exact ⟨rfl, _, Eq.trans (World.drewN_drewN _ _ _) (congrArg (World.drewN _) (Nat.add_assoc _ _ _))⟩)))
                            repeat (go_quiet (first | (go_at_call 20; (with_reducible refine (messuageref07_n.calls k1 _ _ l0 ((rd_T33 t245 x10_1).f4) 4 t254 _ ?side1 ?side2 A18.out).mono ?_); (case side1 => exact Kd.C_below HR0.out (by repeat (first | (with_reducible first | exact HB.out | apply below_alloc | apply pw_below_drewN | apply below_drew1 | refine below_set ?_ GE251.out) | exact HB.out))); (case side2 => exact HC0.out); rintro e w' ⟨rfl, ⟨nd, rfl⟩⟩; (try first | exact ⟨rfl, _, World.drewN_drewN _ _ _⟩ | exact ⟨rfl, _, Eq.trans (World.drewN_drewN _ _ _) (congrArg (World.drewN _) (Nat.add_assoc _ _ _))⟩)) | (go_at_call 20; (with_reducible refine (messuageref07_n.calls k1 _ _ l0 (IntKind.u64.wrap (((rd_T33 t245 x10_1).f4) + 8)) 2 t255 _ ?side1 ?side2 A22.out).mono ?_); (case side1 => exact Kd.C_below HR0.out (by repeat (first | (with_reducible first | exact HB.out | apply below_alloc | apply pw_below_drewN | apply below_drew1 | refine below_set ?_ GE251.out) | exact HB.out))); (case side2 => exact HC0.out); rintro e w' ⟨rfl, ⟨nd, rfl⟩⟩; (try first | exact ⟨rfl, _, World.drewN_drewN _ _ _⟩ | exact ⟨rfl, _, Eq.trans (World.drewN_drewN _ _ _) (congrArg (World.drewN _) (Nat.add_assoc _ _ _))⟩))); try go_wp2_with (first | (go_at_call 20; (with_reducible refine (messuageref07_n.calls k1 _ _ l0 ((rd_T33 t245 x10_1).f4) 4 t254 _ ?side1 ?side2 A18.out).mono ?_); (case side1 => exact Kd.C_below HR0.out (by repeat (first | (with_reducible first | exact HB.out | apply below_alloc | apply pw_below_drewN | apply below_drew1 | refine below_set ?_ GE251.out) | exact HB.out))); (case side2 => exact HC0.out); rintro e w' ⟨rfl, ⟨nd, rfl⟩⟩; (try first | exact ⟨rfl, _, World.drewN_drewN _ _ _⟩ | exact ⟨rfl, _, Eq.trans (World.drewN_drewN _ _ _) (congrArg (World.drewN _) (Nat.add_assoc _ _ _))⟩)) | (go_at_call 20; (with_reducible refine (messuageref07_n.calls k1 _ _ l0 (IntKind.u64.wrap (((rd_T33 t245 x10_1).f4) + 8)) 2 t255 _ ?side1 ?side2 A22.out).mono ?_); (case side1 => exact Kd.C_below HR0.out (by repeat (first | (with_reducible first | exact HB.out | apply below_alloc | apply pw_below_drewN | apply below_drew1 | refine below_set ?_ GE251.out) | exact HB.out))); (case side2 => exact HC0.out); rintro e w' ⟨rfl, ⟨nd, rfl⟩⟩; (try first | exact ⟨rfl, _, World.drewN_drewN _ _ _⟩ | exact ⟨rfl, _, Eq.trans (World.drewN_drewN _ _ _) (congrArg (World.drewN _) (Nat.add_assoc _ _ _))⟩))))
                            go_meet
                            case rel => exact ⟨_, (true), (by first | rfl | (simp; done) | (simp [*]; done)), H', ⟨by have := HK1.out; first | omega | exact Nat.le_refl _⟩, ⟨by (with_reducible repeat (first | refine blk_drewN ?_ _ | refine blk_drew ?_ | refine blk_alloc ?_ _)); refine blk_put (cs := #[.string ((rd_T33 t245 x10_1).f0), .int .i64 ((rd_T33 t245 x10_1).f1), .int .u64 ((rd_T33 t245 x10_1).f2), .int .u64 ((rd_T33 t245 x10_1).f3), .int .u64 0]) ?_ 4 _ rfl; (with_reducible repeat (first | refine blk_drewN ?_ _ | refine blk_drew ?_ | refine blk_alloc ?_ _)); refine blk_put (cs := #[.string ((rd_T33 t245 x10_1).f0), .int .i64 ((rd_T33 t245 x10_1).f1), .int .u64 ((rd_T33 t245 x10_1).f2), .int .u64 0, .int .u64 0]) ?_ 3 _ rfl; (with_reducible repeat (first | refine blk_drewN ?_ _ | refine blk_drew ?_ | refine blk_alloc ?_ _)); refine blk_put (cs := #[.string ((rd_T33 t245 x10_1).f0), .int .i64 ((rd_T33 t245 x10_1).f1), .int .u64 0, .int .u64 0, .int .u64 0]) ?_ 2 _ rfl; (with_reducible repeat (first | refine blk_drewN ?_ _ | refine blk_drew ?_ | refine blk_alloc ?_ _)); refine blk_put (cs := #[.string ((rd_T33 t245 x10_1).f0), .int .i64 0, .int .u64 0, .int .u64 0, .int .u64 0]) ?_ 1 _ rfl; (with_reducible repeat (first | refine blk_drewN ?_ _ | refine blk_drew ?_ | refine blk_alloc ?_ _)); refine blk_put (cs := #[.string (⟨#[]⟩ : ByteArray), .int .i64 0, .int .u64 0, .int .u64 0, .int .u64 0]) ?_ 0 _ rfl; (with_reducible repeat (first | refine blk_drewN ?_ _ | refine blk_drew ?_ | refine blk_alloc ?_ _)); exact BK251.out⟩, ⟨by repeat (first | (with_reducible first | exact HB.out | apply below_alloc | apply pw_below_drewN | apply below_drew1 | refine below_set ?_ GE251.out) | exact HB.out)⟩⟩
                        · rw [if_neg c23] at H
                          have c23b0 : (t255 == 0) = false := beq_eq_false_iff_ne.mpr c23
                          have c23b1 : (t255 != 0) = true := bne_iff_ne.mpr c23
                          have H' := Aside0.mk H
                          clear H
                          have hcz27_0 : w14.cell? ⟨gb251, 0, none⟩ = some (.string (⟨#[]⟩ : ByteArray)) := (blk_cell BK251.out 0).trans rfl
                          have hcz27_1 : w14.cell? ⟨gb251, 1, none⟩ = some (.int .i64 0) := (blk_cell BK251.out 1).trans rfl
                          have hcz27_2 : w14.cell? ⟨gb251, 2, none⟩ = some (.int .u64 0) := (blk_cell BK251.out 2).trans rfl
                          have hcz27_3 : w14.cell? ⟨gb251, 3, none⟩ = some (.int .u64 0) := (blk_cell BK251.out 3).trans rfl
                          have hcz27_4 : w14.cell? ⟨gb251, 4, none⟩ = some (.int .u64 0) := (blk_cell BK251.out 4).trans rfl
                          have hfz27_0 := blk_frozen BK251.out 0
                          have hfz27_1 := blk_frozen BK251.out 1
                          have hfz27_2 := blk_frozen BK251.out 2
                          have hfz27_3 := blk_frozen BK251.out 3
                          have hfz27_4 := blk_frozen BK251.out 4
                          go_wp2_with (first | (go_at_call 20; (with_reducible refine (messuageref07_n.calls k1 _ _ l0 ((rd_T33 t245 x10_1).f4) 4 t254 _ ?side1 ?side2 A18.out).mono ?_); (case side1 => exact Kd.C_below HR0.out (by repeat (first | (with_reducible first | exact HB.out | apply below_alloc | apply pw_below_drewN | apply below_drew1 | refine below_set ?_ GE251.out) | exact HB.out))); (case side2 => exact HC0.out); rintro e w' ⟨rfl, ⟨nd, rfl⟩⟩; (try first | exact ⟨rfl, _, World.drewN_drewN _ _ _⟩ | exact ⟨rfl, _, Eq.trans (World.drewN_drewN _ _ _) (congrArg (World.drewN _) (Nat.add_assoc _ _ _))⟩)) | (go_at_call 20; (with_reducible refine (messuageref07_n.calls k1 _ _ l0 (IntKind.u64.wrap (((rd_T33 t245 x10_1).f4) + 8)) 2 t255 _ ?side1 ?side2 A22.out).mono ?_); (case side1 => exact Kd.C_below HR0.out (by repeat (first | (with_reducible first | exact HB.out | apply below_alloc | apply pw_below_drewN | apply below_drew1 | refine below_set ?_ GE251.out) | exact HB.out))); (case side2 => exact HC0.out); rintro e w' ⟨rfl, ⟨nd, rfl⟩⟩; (try first | exact ⟨rfl, _, World.drewN_drewN _ _ _⟩ | exact ⟨rfl, _, Eq.trans (World.drewN_drewN _ _ _) (congrArg (World.drewN _) (Nat.add_assoc _ _ _))⟩)))
                          repeat (go_quiet (first | (go_at_call 20; (with_reducible refine (messuageref07_n.calls k1 _ _ l0 ((rd_T33 t245 x10_1).f4) 4 t254 _ ?side1 ?side2 A18.out).mono ?_); (case side1 => exact Kd.C_below HR0.out (by repeat (first | (with_reducible first | exact HB.out | apply below_alloc | apply pw_below_drewN | apply below_drew1 | refine below_set ?_ GE251.out) | exact HB.out))); (case side2 => exact HC0.out); rintro e w' ⟨rfl, ⟨nd, rfl⟩⟩; (try first | exact ⟨rfl, _, World.drewN_drewN _ _ _⟩ | exact ⟨rfl, _, Eq.trans (World.drewN_drewN _ _ _) (congrArg (World.drewN _) (Nat.add_assoc _ _ _))⟩)) | (go_at_call 20; (with_reducible refine (messuageref07_n.calls k1 _ _ l0 (IntKind.u64.wrap (((rd_T33 t245 x10_1).f4) + 8)) 2 t255 _ ?side1 ?side2 A22.out).mono ?_); (case side1 => exact Kd.C_below HR0.out (by repeat (first | (with_reducible first | exact HB.out | apply below_alloc | apply pw_below_drewN | apply below_drew1 | refine below_set ?_ GE251.out) | exact HB.out))); (case side2 => exact HC0.out); rintro e w' ⟨rfl, ⟨nd, rfl⟩⟩; (try first | exact ⟨rfl, _, World.drewN_drewN _ _ _⟩ | exact ⟨rfl, _, Eq.trans (World.drewN_drewN _ _ _) (congrArg (World.drewN _) (Nat.add_assoc _ _ _))⟩))); try go_wp2_with (first | (go_at_call 20; (with_reducible refine (messuageref07_n.calls k1 _ _ l0 ((rd_T33 t245 x10_1).f4) 4 t254 _ ?side1 ?side2 A18.out).mono ?_); (case side1 => exact Kd.C_below HR0.out (by repeat (first | (with_reducible first | exact HB.out | apply below_alloc | apply pw_below_drewN | apply below_drew1 | refine below_set ?_ GE251.out) | exact HB.out))); (case side2 => exact HC0.out); rintro e w' ⟨rfl, ⟨nd, rfl⟩⟩; (try first | exact ⟨rfl, _, World.drewN_drewN _ _ _⟩ | exact ⟨rfl, _, Eq.trans (World.drewN_drewN _ _ _) (congrArg (World.drewN _) (Nat.add_assoc _ _ _))⟩)) | (go_at_call 20; (with_reducible refine (messuageref07_n.calls k1 _ _ l0 (IntKind.u64.wrap (((rd_T33 t245 x10_1).f4) + 8)) 2 t255 _ ?side1 ?side2 A22.out).mono ?_); (case side1 => exact Kd.C_below HR0.out (by repeat (first | (with_reducible first | exact HB.out | apply below_alloc | apply pw_below_drewN | apply below_drew1 | refine below_set ?_ GE251.out) | exact HB.out))); (case side2 => exact HC0.out); rintro e w' ⟨rfl, ⟨nd, rfl⟩⟩; (try first | exact ⟨rfl, _, World.drewN_drewN _ _ _⟩ | exact ⟨rfl, _, Eq.trans (World.drewN_drewN _ _ _) (congrArg (World.drewN _) (Nat.add_assoc _ _ _))⟩))))
                          go_meet
                          case rel => exact ⟨_, (true), (by first | rfl | (simp; done) | (simp [*]; done)), H', ⟨by have := HK1.out; first | omega | exact Nat.le_refl _⟩, ⟨by (with_reducible repeat (first | refine blk_drewN ?_ _ | refine blk_drew ?_ | refine blk_alloc ?_ _)); refine blk_put (cs := #[.string ((rd_T33 t245 x10_1).f0), .int .i64 ((rd_T33 t245 x10_1).f1), .int .u64 ((rd_T33 t245 x10_1).f2), .int .u64 ((rd_T33 t245 x10_1).f3), .int .u64 0]) ?_ 4 _ rfl; (with_reducible repeat (first | refine blk_drewN ?_ _ | refine blk_drew ?_ | refine blk_alloc ?_ _)); refine blk_put (cs := #[.string ((rd_T33 t245 x10_1).f0), .int .i64 ((rd_T33 t245 x10_1).f1), .int .u64 ((rd_T33 t245 x10_1).f2), .int .u64 0, .int .u64 0]) ?_ 3 _ rfl; (with_reducible repeat (first | refine blk_drewN ?_ _ | refine blk_drew ?_ | refine blk_alloc ?_ _)); refine blk_put (cs := #[.string ((rd_T33 t245 x10_1).f0), .int .i64 ((rd_T33 t245 x10_1).f1), .int .u64 0, .int .u64 0, .int .u64 0]) ?_ 2 _ rfl; (with_reducible repeat (first | refine blk_drewN ?_ _ | refine blk_drew ?_ | refine blk_alloc ?_ _)); refine blk_put (cs := #[.string ((rd_T33 t245 x10_1).f0), .int .i64 0, .int .u64 0, .int .u64 0, .int .u64 0]) ?_ 1 _ rfl; (with_reducible repeat (first | refine blk_drewN ?_ _ | refine blk_drew ?_ | refine blk_alloc ?_ _)); refine blk_put (cs := #[.string (⟨#[]⟩ : ByteArray), .int .i64 0, .int .u64 0, .int .u64 0, .int .u64 0]) ?_ 0 _ rfl; (with_reducible repeat (first | refine blk_drewN ?_ _ | refine blk_drew ?_ | refine blk_alloc ?_ _)); exact BK251.out⟩, ⟨by repeat (first | (with_reducible first | exact HB.out | apply below_alloc | apply pw_below_drewN | apply below_drew1 | refine below_set ?_ GE251.out) | exact HB.out)⟩⟩
                    · rw [if_neg c19] at H
                      have c19b0 : (t254 == 67324752) = false := beq_eq_false_iff_ne.mpr c19
                      have c19b1 : (t254 != 67324752) = true := bne_iff_ne.mpr c19
                      have H' := Aside0.mk H
                      clear H
                      have hcz28_0 : w14.cell? ⟨gb251, 0, none⟩ = some (.string (⟨#[]⟩ : ByteArray)) := (blk_cell BK251.out 0).trans rfl
                      have hcz28_1 : w14.cell? ⟨gb251, 1, none⟩ = some (.int .i64 0) := (blk_cell BK251.out 1).trans rfl
                      have hcz28_2 : w14.cell? ⟨gb251, 2, none⟩ = some (.int .u64 0) := (blk_cell BK251.out 2).trans rfl
                      have hcz28_3 : w14.cell? ⟨gb251, 3, none⟩ = some (.int .u64 0) := (blk_cell BK251.out 3).trans rfl
                      have hcz28_4 : w14.cell? ⟨gb251, 4, none⟩ = some (.int .u64 0) := (blk_cell BK251.out 4).trans rfl
                      have hfz28_0 := blk_frozen BK251.out 0
                      have hfz28_1 := blk_frozen BK251.out 1
                      have hfz28_2 := blk_frozen BK251.out 2
                      have hfz28_3 := blk_frozen BK251.out 3
                      have hfz28_4 := blk_frozen BK251.out 4
                      go_wp2_with (first | (go_at_call 20; (with_reducible refine (messuageref07_n.calls k1 _ _ l0 ((rd_T33 t245 x10_1).f4) 4 t254 _ ?side1 ?side2 A18.out).mono ?_); (case side1 => exact Kd.C_below HR0.out (by repeat (first | (with_reducible first | exact HB.out | apply below_alloc | apply pw_below_drewN | apply below_drew1 | refine below_set ?_ GE251.out) | exact HB.out))); (case side2 => exact HC0.out); rintro e w' ⟨rfl, ⟨nd, rfl⟩⟩; (try first | exact ⟨rfl, _, World.drewN_drewN _ _ _⟩ | exact ⟨rfl, _, Eq.trans (World.drewN_drewN _ _ _) (congrArg (World.drewN _) (Nat.add_assoc _ _ _))⟩)))
                      repeat (go_quiet (first | (go_at_call 20; (with_reducible refine (messuageref07_n.calls k1 _ _ l0 ((rd_T33 t245 x10_1).f4) 4 t254 _ ?side1 ?side2 A18.out).mono ?_); (case side1 => exact Kd.C_below HR0.out (by repeat (first | (with_reducible first | exact HB.out | apply below_alloc | apply pw_below_drewN | apply below_drew1 | refine below_set ?_ GE251.out) | exact HB.out))); (case side2 => exact HC0.out); rintro e w' ⟨rfl, ⟨nd, rfl⟩⟩; (try first | exact ⟨rfl, _, World.drewN_drewN _ _ _⟩ | exact ⟨rfl, _, Eq.trans (World.drewN_drewN _ _ _) (congrArg (World.drewN _) (Nat.add_assoc _ _ _))⟩))); try go_wp2_with (first | (go_at_call 20; (with_reducible refine (messuageref07_n.calls k1 _ _ l0 ((rd_T33 t245 x10_1).f4) 4 t254 _ ?side1 ?side2 A18.out).mono ?_); (case side1 => exact Kd.C_below HR0.out (by repeat (first | (with_reducible first | exact HB.out | apply below_alloc | apply pw_below_drewN | apply below_drew1 | refine below_set ?_ GE251.out) | exact HB.out))); (case side2 => exact HC0.out); rintro e w' ⟨rfl, ⟨nd, rfl⟩⟩; (try first | exact ⟨rfl, _, World.drewN_drewN _ _ _⟩ | exact ⟨rfl, _, Eq.trans (World.drewN_drewN _ _ _) (congrArg (World.drewN _) (Nat.add_assoc _ _ _))⟩))))
                      go_meet
                      case rel => exact ⟨_, (true), (by first | rfl | (simp; done) | (simp [*]; done)), H', ⟨by have := HK1.out; first | omega | exact Nat.le_refl _⟩, ⟨by (with_reducible repeat (first | refine blk_drewN ?_ _ | refine blk_drew ?_ | refine blk_alloc ?_ _)); refine blk_put (cs := #[.string ((rd_T33 t245 x10_1).f0), .int .i64 ((rd_T33 t245 x10_1).f1), .int .u64 ((rd_T33 t245 x10_1).f2), .int .u64 ((rd_T33 t245 x10_1).f3), .int .u64 0]) ?_ 4 _ rfl; (with_reducible repeat (first | refine blk_drewN ?_ _ | refine blk_drew ?_ | refine blk_alloc ?_ _)); refine blk_put (cs := #[.string ((rd_T33 t245 x10_1).f0), .int .i64 ((rd_T33 t245 x10_1).f1), .int .u64 ((rd_T33 t245 x10_1).f2), .int .u64 0, .int .u64 0]) ?_ 3 _ rfl; (with_reducible repeat (first | refine blk_drewN ?_ _ | refine blk_drew ?_ | refine blk_alloc ?_ _)); refine blk_put (cs := #[.string ((rd_T33 t245 x10_1).f0), .int .i64 ((rd_T33 t245 x10_1).f1), .int .u64 0, .int .u64 0, .int .u64 0]) ?_ 2 _ rfl; (with_reducible repeat (first | refine blk_drewN ?_ _ | refine blk_drew ?_ | refine blk_alloc ?_ _)); refine blk_put (cs := #[.string ((rd_T33 t245 x10_1).f0), .int .i64 0, .int .u64 0, .int .u64 0, .int .u64 0]) ?_ 1 _ rfl; (with_reducible repeat (first | refine blk_drewN ?_ _ | refine blk_drew ?_ | refine blk_alloc ?_ _)); refine blk_put (cs := #[.string (⟨#[]⟩ : ByteArray), .int .i64 0, .int .u64 0, .int .u64 0, .int .u64 0]) ?_ 0 _ rfl; (with_reducible repeat (first | refine blk_drewN ?_ _ | refine blk_drew ?_ | refine blk_alloc ?_ _)); exact BK251.out⟩, ⟨by repeat (first | (with_reducible first | exact HB.out | apply below_alloc | apply pw_below_drewN | apply below_drew1 | refine below_set ?_ GE251.out) | exact HB.out)⟩⟩
                case rest =>
                  clear HC12
                  try clear c1
                  try clear c2
                  try clear p2
                  try clear q2
                  try clear hx2
                  try clear c4
                  try clear c4b0
                  try clear c4b1
                  try clear c6
                  try clear c6b0
                  try clear c7
                  try clear c7b0
                  try clear c8
                  try clear c8b0
                  try clear c8b1
                  try clear c9
                  try clear c9b0
                  try clear c9b1
                  try clear c13
                  try clear c16
                  try clear c16b0
                  try clear c19
                  try clear c19b0
                  try clear c19b1
                  try clear c20
                  try clear c20b0
                  try clear c23
                  try clear c23b0
                  try clear c23b1
                  try clear c24
                  try clear c24b0
                  try clear c24b1
                  try clear p25
                  try clear q25
                  try clear hx25
                  try clear hcz15_0
                  try clear hcz15_1
                  try clear hcz15_2
                  try clear hcz15_3
                  try clear hcz15_4
                  try clear hcz17_0
                  try clear hcz17_1
                  try clear hcz17_2
                  try clear hcz17_3
                  try clear hcz17_4
                  try clear hcz21_0
                  try clear hcz21_1
                  try clear hcz21_2
                  try clear hcz21_3
                  try clear hcz21_4
                  try clear hcz25_0
                  try clear hcz25_1
                  try clear hcz25_2
                  try clear hcz25_3
                  try clear hcz25_4
                  try clear hcz26_0
                  try clear hcz26_1
                  try clear hcz26_2
                  try clear hcz26_3
                  try clear hcz26_4
                  try clear hcz27_0
                  try clear hcz27_1
                  try clear hcz27_2
                  try clear hcz27_3
                  try clear hcz27_4
                  try clear hcz28_0
                  try clear hcz28_1
                  try clear hcz28_2
                  try clear hcz28_3
                  try clear hcz28_4
                  try clear hfz15_0
                  try clear hfz15_1
                  try clear hfz15_2
                  try clear hfz15_3
                  try clear hfz15_4
                  try clear hfz17_0
                  try clear hfz17_1
                  try clear hfz17_2
                  try clear hfz17_3
                  try clear hfz17_4
                  try clear hfz21_0
                  try clear hfz21_1
                  try clear hfz21_2
                  try clear hfz21_3
                  try clear hfz21_4
                  try clear hfz25_0
                  try clear hfz25_1
                  try clear hfz25_2
                  try clear hfz25_3
                  try clear hfz25_4
                  try clear hfz26_0
                  try clear hfz26_1
                  try clear hfz26_2
                  try clear hfz26_3
                  try clear hfz26_4
                  try clear hfz27_0
                  try clear hfz27_1
                  try clear hfz27_2
                  try clear hfz27_3
                  try clear hfz27_4
                  try clear hfz28_0
                  try clear hfz28_1
                  try clear hfz28_2
                  try clear hfz28_3
                  try clear hfz28_4
                  try clear hx250_0
                  try clear hx250_1
                  try clear hx250_2
                  try clear hx250_3
                  try clear hx250_4
                  try clear p2
                  try clear p250
                  try clear q250
                  obtain ⟨kq, x101_11, rfl, HA, HJ11, BK251, HB⟩ := hcut
                  cases kq with
                  | zero => exact absurd HA.out (by simp [messuageref07_Find.j1])
                  | succ kj11 =>
                    have H := HA.out
                    clear HA
                    simp only [messuageref07_Find.j1] at H
                    by_cases c29 : x101_11 = true
                    · subst c29
                      have H1 : (some (0, 0, 70)) = some (r1, r2, r3) := by rw [if_pos rfl] at H; exact H
                      clear H
                      have H := H1
                      clear H1
                      simp only [Option.some.injEq, Prod.mk.injEq] at H
                      obtain ⟨rfl, rfl, rfl⟩ := H
                      go_wp2
                      repeat (go_quiet (fail); try go_wp2)
                      go_ret3
                      exact ⟨by first | rfl | (simp [errW_none, errW_some] <;> rfl) | (simp [*, errW_none, errW_some] <;> rfl), by repeat (first | (with_reducible first | exact HB.out | apply below_alloc | apply pw_below_drewN | apply below_drew1 | refine below_set ?_ GE251.out) | exact HB.out)⟩
                    · replace c29 := Bool.eq_false_iff.mpr c29
                      subst c29
                      have H1 : (if 0 ≤ (IntKind.u64.wrap (((rd_T33 t245 x10_1).f4) + 30)) then (if (IntKind.u64.wrap (((rd_T33 t245 x10_1).f4) + 30)) ≤ (IntKind.u64.wrap ((IntKind.u64.wrap (((rd_T33 t245 x10_1).f4) + 30)) + t252)) then (if (IntKind.u64.wrap ((IntKind.u64.wrap (((rd_T33 t245 x10_1).f4) + 30)) + t252)) ≤ (l0.length : Int) then (if (strOfNums ((l0.take ((IntKind.u64.wrap ((IntKind.u64.wrap (((rd_T33 t245 x10_1).f4) + 30)) + t252)) : Int).toNat).drop ((IntKind.u64.wrap (((rd_T33 t245 x10_1).f4) + 30)) : Int).toNat)).toList = a1.toList then (if (Int.tmod (IntKind.u64.wrap ((IntKind.u64.wrap ((IntKind.u64.wrap (((rd_T33 t245 x10_1).f4) + 30)) + t252)) + t253)) 256) = 0 then (some ((IntKind.u64.wrap ((IntKind.u64.wrap ((IntKind.u64.wrap (((rd_T33 t245 x10_1).f4) + 30)) + t252)) + t253)), ((rd_T33 t245 x10_1).f2), 0)) else (some (0, 0, 73))) else (some (0, 0, 70))) else (none)) else (none)) else (none)) = some (r1, r2, r3) := by rw [if_neg (show ¬ (false = true) by decide)] at H; exact H
                      clear H
                      have H := H1
                      clear H1
                      obtain ⟨ji30, hji30⟩ : ∃ j_ : Int, (IntKind.u64.wrap (((rd_T33 t245 x10_1).f4) + 30)) = j_ := ⟨_, rfl⟩
                      replace H : (if 0 ≤ (ji30) then (if (ji30) ≤ (IntKind.u64.wrap ((ji30) + t252)) then (if (IntKind.u64.wrap ((ji30) + t252)) ≤ (l0.length : Int) then (if (strOfNums ((l0.take ((IntKind.u64.wrap ((ji30) + t252)) : Int).toNat).drop ((ji30) : Int).toNat)).toList = a1.toList then (if (Int.tmod (IntKind.u64.wrap ((IntKind.u64.wrap ((ji30) + t252)) + t253)) 256) = 0 then (some ((IntKind.u64.wrap ((IntKind.u64.wrap ((ji30) + t252)) + t253)), ((rd_T33 t245 x10_1).f2), 0)) else (some (0, 0, 73))) else (some (0, 0, 70))) else (none)) else (none)) else (none)) = some (r1, r2, r3) := by first | (rw [hji30] at H; exact H) | (simp only [hji30] at H ⊢; exact H)
                      by_cases c31 : 0 ≤ (ji30)
                      · rw [if_pos c31] at H
                        have c31b0 := eq_true c31
                        have c31b1 : decide (0 ≤ (ji30)) = true := decide_eq_true c31
                        clear c31
                        by_cases c32 : (ji30) ≤ (IntKind.u64.wrap ((ji30) + t252))
                        · rw [if_pos c32] at H
                          have c32b0 := eq_true c32
                          have c32b1 : decide ((ji30) ≤ (IntKind.u64.wrap ((ji30) + t252))) = true := decide_eq_true c32
                          by_cases c33 : (IntKind.u64.wrap ((ji30) + t252)) ≤ (l0.length : Int)
                          · rw [if_pos c33] at H
                            have c33b0 := eq_true c33
                            have c33b1 : decide ((IntKind.u64.wrap ((ji30) + t252)) ≤ (l0.length : Int)) = true := decide_eq_true c33
                            by_cases c34 : (strOfNums ((l0.take ((IntKind.u64.wrap ((ji30) + t252)) : Int).toNat).drop ((ji30) : Int).toNat)).toList = a1.toList
                            · rw [if_pos c34] at H
                              have c34b0 : ((strOfNums ((l0.take ((IntKind.u64.wrap ((ji30) + t252)) : Int).toNat).drop ((ji30) : Int).toNat)).toList == a1.toList) = true := beq_iff_eq.mpr c34
                              have c34b1 : ((strOfNums ((l0.take ((IntKind.u64.wrap ((ji30) + t252)) : Int).toNat).drop ((ji30) : Int).toNat)).toList != a1.toList) = false := bne_eq_false_iff_eq.mpr c34
                              clear c34
                              by_cases c35 : (Int.tmod (IntKind.u64.wrap ((IntKind.u64.wrap ((ji30) + t252)) + t253)) 256) = 0
                              · rw [if_pos c35] at H
                                have c35b0 : ((Int.tmod (IntKind.u64.wrap ((IntKind.u64.wrap ((ji30) + t252)) + t253)) 256) == 0) = true := beq_iff_eq.mpr c35
                                have c35b1 : ((Int.tmod (IntKind.u64.wrap ((IntKind.u64.wrap ((ji30) + t252)) + t253)) 256) != 0) = false := bne_eq_false_iff_eq.mpr c35
                                clear c35
                                simp only [Option.some.injEq, Prod.mk.injEq] at H
                                obtain ⟨rfl, rfl, rfl⟩ := H
                                have hcz36_0 : wc.cell? ⟨gb251, 0, none⟩ = some (.string ((rd_T33 t245 x10_1).f0)) := (blk_cell BK251.out 0).trans rfl
                                have hcz36_1 : wc.cell? ⟨gb251, 1, none⟩ = some (.int .i64 ((rd_T33 t245 x10_1).f1)) := (blk_cell BK251.out 1).trans rfl
                                have hcz36_2 : wc.cell? ⟨gb251, 2, none⟩ = some (.int .u64 ((rd_T33 t245 x10_1).f2)) := (blk_cell BK251.out 2).trans rfl
                                have hcz36_3 : wc.cell? ⟨gb251, 3, none⟩ = some (.int .u64 ((rd_T33 t245 x10_1).f3)) := (blk_cell BK251.out 3).trans rfl
                                have hcz36_4 : wc.cell? ⟨gb251, 4, none⟩ = some (.int .u64 ((rd_T33 t245 x10_1).f4)) := (blk_cell BK251.out 4).trans rfl
                                have hfz36_0 := blk_frozen BK251.out 0
                                have hfz36_1 := blk_frozen BK251.out 1
                                have hfz36_2 := blk_frozen BK251.out 2
                                have hfz36_3 := blk_frozen BK251.out 3
                                have hfz36_4 := blk_frozen BK251.out 4
                                obtain ⟨i037, hi037, _, hsz37, _⟩ := info_parts info5
                                obtain ⟨A37, hcut37, hA37, hC37⟩ := print_mid_of (P := Try.prog) (Value.int .u8) 0 22 5 .u64 .u64 Try.underlying22 hi037 hsz37 A0 c0 l0 (ji30) (IntKind.u64.wrap ((ji30) + t252)) (of_decide_eq_true (by first | (with_reducible assumption) | assumption)) (by first | omega | exact of_decide_eq_true (by first | (with_reducible assumption) | assumption)) (of_decide_eq_true (by first | (with_reducible assumption) | assumption)) HC0.out
                                have HR256 := Aside0.mk (Kd.C_of_reads (h1 := fun _ => rfl) (hA37 _ (Kd.reads_of_C HR0.out)))
                                have HC256 := Aside0.mk hC37
                                clear hA37 hC37 hi037 hsz37
                                have hcv38 := Kd.C_string (P := Try.prog) (A := A37) (c := (c0 - (ji30).toNat)) Try.underlying22 Try.underlying5 Try.underlying9 (Kd.C_below HR256.out HB.out)
                                rw [show ((l0.take ((IntKind.u64.wrap ((ji30) + t252)) : Int).toNat).drop ((ji30) : Int).toNat).length = ((IntKind.u64.wrap ((ji30) + t252)).toNat - (ji30).toNat) from (by rw [List.length_drop, List.length_take]; have h_ : ((IntKind.u64.wrap ((ji30) + t252)) : Int) ≤ (l0.length : Int) := of_decide_eq_true (by first | (with_reducible assumption) | assumption); omega)] at hcv38
                                have hcw38 := fun n_ : Nat => conv_len (Kd.C_string (P := Try.prog) (A := A37) (c := (c0 - (ji30).toNat)) Try.underlying22 Try.underlying5 Try.underlying9 (Kd.C_drewN (Kd.C_below HR256.out HB.out) n_)) (show ((l0.take ((IntKind.u64.wrap ((ji30) + t252)) : Int).toNat).drop ((ji30) : Int).toNat).length = ((IntKind.u64.wrap ((ji30) + t252)).toNat - (ji30).toNat) from (by rw [List.length_drop, List.length_take]; have h_ : ((IntKind.u64.wrap ((ji30) + t252)) : Int) ≤ (l0.length : Int) := of_decide_eq_true (by first | (with_reducible assumption) | assumption); omega))
                                go_wp2
                                repeat (go_quiet (fail); try go_wp2)
                                go_ret3
                                exact ⟨by first | rfl | (simp [errW_none, errW_some] <;> rfl) | (simp only [← hji30]; first | rfl | (simp [errW_none, errW_some] <;> rfl)) | (simp [*, errW_none, errW_some] <;> rfl), by repeat (first | (with_reducible first | exact HB.out | apply below_alloc | apply pw_below_drewN | apply below_drew1 | refine below_set ?_ GE251.out) | exact HB.out)⟩
                              · rw [if_neg c35] at H
                                have c35b0 : ((Int.tmod (IntKind.u64.wrap ((IntKind.u64.wrap ((ji30) + t252)) + t253)) 256) == 0) = false := beq_eq_false_iff_ne.mpr c35
                                have c35b1 : ((Int.tmod (IntKind.u64.wrap ((IntKind.u64.wrap ((ji30) + t252)) + t253)) 256) != 0) = true := bne_iff_ne.mpr c35
                                simp only [Option.some.injEq, Prod.mk.injEq] at H
                                obtain ⟨rfl, rfl, rfl⟩ := H
                                have hcz39_0 : wc.cell? ⟨gb251, 0, none⟩ = some (.string ((rd_T33 t245 x10_1).f0)) := (blk_cell BK251.out 0).trans rfl
                                have hcz39_1 : wc.cell? ⟨gb251, 1, none⟩ = some (.int .i64 ((rd_T33 t245 x10_1).f1)) := (blk_cell BK251.out 1).trans rfl
                                have hcz39_2 : wc.cell? ⟨gb251, 2, none⟩ = some (.int .u64 ((rd_T33 t245 x10_1).f2)) := (blk_cell BK251.out 2).trans rfl
                                have hcz39_3 : wc.cell? ⟨gb251, 3, none⟩ = some (.int .u64 ((rd_T33 t245 x10_1).f3)) := (blk_cell BK251.out 3).trans rfl
                                have hcz39_4 : wc.cell? ⟨gb251, 4, none⟩ = some (.int .u64 ((rd_T33 t245 x10_1).f4)) := (blk_cell BK251.out 4).trans rfl
                                have hfz39_0 := blk_frozen BK251.out 0
                                have hfz39_1 := blk_frozen BK251.out 1
                                have hfz39_2 := blk_frozen BK251.out 2
                                have hfz39_3 := blk_frozen BK251.out 3
                                have hfz39_4 := blk_frozen BK251.out 4
                                obtain ⟨i040, hi040, _, hsz40, _⟩ := info_parts info5
                                obtain ⟨A40, hcut40, hA40, hC40⟩ := print_mid_of (P := Try.prog) (Value.int .u8) 0 22 5 .u64 .u64 Try.underlying22 hi040 hsz40 A0 c0 l0 (ji30) (IntKind.u64.wrap ((ji30) + t252)) (of_decide_eq_true (by first | (with_reducible assumption) | assumption)) (by first | omega | exact of_decide_eq_true (by first | (with_reducible assumption) | assumption)) (of_decide_eq_true (by first | (with_reducible assumption) | assumption)) HC0.out
                                have HR256 := Aside0.mk (Kd.C_of_reads (h1 := fun _ => rfl) (hA40 _ (Kd.reads_of_C HR0.out)))
                                have HC256 := Aside0.mk hC40
                                clear hA40 hC40 hi040 hsz40
                                have hcv41 := Kd.C_string (P := Try.prog) (A := A40) (c := (c0 - (ji30).toNat)) Try.underlying22 Try.underlying5 Try.underlying9 (Kd.C_below HR256.out HB.out)
                                rw [show ((l0.take ((IntKind.u64.wrap ((ji30) + t252)) : Int).toNat).drop ((ji30) : Int).toNat).length = ((IntKind.u64.wrap ((ji30) + t252)).toNat - (ji30).toNat) from (by rw [List.length_drop, List.length_take]; have h_ : ((IntKind.u64.wrap ((ji30) + t252)) : Int) ≤ (l0.length : Int) := of_decide_eq_true (by first | (with_reducible assumption) | assumption); omega)] at hcv41
                                have hcw41 := fun n_ : Nat => conv_len (Kd.C_string (P := Try.prog) (A := A40) (c := (c0 - (ji30).toNat)) Try.underlying22 Try.underlying5 Try.underlying9 (Kd.C_drewN (Kd.C_below HR256.out HB.out) n_)) (show ((l0.take ((IntKind.u64.wrap ((ji30) + t252)) : Int).toNat).drop ((ji30) : Int).toNat).length = ((IntKind.u64.wrap ((ji30) + t252)).toNat - (ji30).toNat) from (by rw [List.length_drop, List.length_take]; have h_ : ((IntKind.u64.wrap ((ji30) + t252)) : Int) ≤ (l0.length : Int) := of_decide_eq_true (by first | (with_reducible assumption) | assumption); omega))
                                go_wp2
                                repeat (go_quiet (fail); try go_wp2)
                                go_ret3
                                exact ⟨by first | rfl | (simp [errW_none, errW_some] <;> rfl) | (simp only [← hji30]; first | rfl | (simp [errW_none, errW_some] <;> rfl)) | (simp [*, errW_none, errW_some] <;> rfl), by repeat (first | (with_reducible first | exact HB.out | apply below_alloc | apply pw_below_drewN | apply below_drew1 | refine below_set ?_ GE251.out) | exact HB.out)⟩
                            · rw [if_neg c34] at H
                              have c34b0 : ((strOfNums ((l0.take ((IntKind.u64.wrap ((ji30) + t252)) : Int).toNat).drop ((ji30) : Int).toNat)).toList == a1.toList) = false := beq_eq_false_iff_ne.mpr c34
                              have c34b1 : ((strOfNums ((l0.take ((IntKind.u64.wrap ((ji30) + t252)) : Int).toNat).drop ((ji30) : Int).toNat)).toList != a1.toList) = true := bne_iff_ne.mpr c34
                              simp only [Option.some.injEq, Prod.mk.injEq] at H
                              obtain ⟨rfl, rfl, rfl⟩ := H
                              have hcz42_0 : wc.cell? ⟨gb251, 0, none⟩ = some (.string ((rd_T33 t245 x10_1).f0)) := (blk_cell BK251.out 0).trans rfl
                              have hcz42_1 : wc.cell? ⟨gb251, 1, none⟩ = some (.int .i64 ((rd_T33 t245 x10_1).f1)) := (blk_cell BK251.out 1).trans rfl
                              have hcz42_2 : wc.cell? ⟨gb251, 2, none⟩ = some (.int .u64 ((rd_T33 t245 x10_1).f2)) := (blk_cell BK251.out 2).trans rfl
                              have hcz42_3 : wc.cell? ⟨gb251, 3, none⟩ = some (.int .u64 ((rd_T33 t245 x10_1).f3)) := (blk_cell BK251.out 3).trans rfl
                              have hcz42_4 : wc.cell? ⟨gb251, 4, none⟩ = some (.int .u64 ((rd_T33 t245 x10_1).f4)) := (blk_cell BK251.out 4).trans rfl
                              have hfz42_0 := blk_frozen BK251.out 0
                              have hfz42_1 := blk_frozen BK251.out 1
                              have hfz42_2 := blk_frozen BK251.out 2
                              have hfz42_3 := blk_frozen BK251.out 3
                              have hfz42_4 := blk_frozen BK251.out 4
                              obtain ⟨i043, hi043, _, hsz43, _⟩ := info_parts info5
                              obtain ⟨A43, hcut43, hA43, hC43⟩ := print_mid_of (P := Try.prog) (Value.int .u8) 0 22 5 .u64 .u64 Try.underlying22 hi043 hsz43 A0 c0 l0 (ji30) (IntKind.u64.wrap ((ji30) + t252)) (of_decide_eq_true (by first | (with_reducible assumption) | assumption)) (by first | omega | exact of_decide_eq_true (by first | (with_reducible assumption) | assumption)) (of_decide_eq_true (by first | (with_reducible assumption) | assumption)) HC0.out
                              have HR256 := Aside0.mk (Kd.C_of_reads (h1 := fun _ => rfl) (hA43 _ (Kd.reads_of_C HR0.out)))
                              have HC256 := Aside0.mk hC43
                              clear hA43 hC43 hi043 hsz43
                              have hcv44 := Kd.C_string (P := Try.prog) (A := A43) (c := (c0 - (ji30).toNat)) Try.underlying22 Try.underlying5 Try.underlying9 (Kd.C_below HR256.out HB.out)
                              rw [show ((l0.take ((IntKind.u64.wrap ((ji30) + t252)) : Int).toNat).drop ((ji30) : Int).toNat).length = ((IntKind.u64.wrap ((ji30) + t252)).toNat - (ji30).toNat) from (by rw [List.length_drop, List.length_take]; have h_ : ((IntKind.u64.wrap ((ji30) + t252)) : Int) ≤ (l0.length : Int) := of_decide_eq_true (by first | (with_reducible assumption) | assumption); omega)] at hcv44
                              have hcw44 := fun n_ : Nat => conv_len (Kd.C_string (P := Try.prog) (A := A43) (c := (c0 - (ji30).toNat)) Try.underlying22 Try.underlying5 Try.underlying9 (Kd.C_drewN (Kd.C_below HR256.out HB.out) n_)) (show ((l0.take ((IntKind.u64.wrap ((ji30) + t252)) : Int).toNat).drop ((ji30) : Int).toNat).length = ((IntKind.u64.wrap ((ji30) + t252)).toNat - (ji30).toNat) from (by rw [List.length_drop, List.length_take]; have h_ : ((IntKind.u64.wrap ((ji30) + t252)) : Int) ≤ (l0.length : Int) := of_decide_eq_true (by first | (with_reducible assumption) | assumption); omega))
                              go_wp2
                              repeat (go_quiet (fail); try go_wp2)
                              go_ret3
                              exact ⟨by first | rfl | (simp [errW_none, errW_some] <;> rfl) | (simp only [← hji30]; first | rfl | (simp [errW_none, errW_some] <;> rfl)) | (simp [*, errW_none, errW_some] <;> rfl), by repeat (first | (with_reducible first | exact HB.out | apply below_alloc | apply pw_below_drewN | apply below_drew1 | refine below_set ?_ GE251.out) | exact HB.out)⟩
                          · rw [if_neg c33] at H
                            exact absurd H (by simp)
                        · rw [if_neg c32] at H
                          exact absurd H (by simp)
                      · rw [if_neg c31] at H
                        exact absurd H (by simp)
              · rw [if_neg c9] at H
                have c9b0 : (((rd_T33 t245 x10_1).f1) == 0) = false := beq_eq_false_iff_ne.mpr c9
                have c9b1 : (((rd_T33 t245 x10_1).f1) != 0) = true := bne_iff_ne.mpr c9
                simp only [Option.some.injEq, Prod.mk.injEq] at H
                obtain ⟨rfl, rfl, rfl⟩ := H
                obtain ⟨Ao45, co45, eo45⟩ := Kd.R_slice HO_7.out
                subst eo45
                have p250 : 0 ≤ (x10_1 : Int) := of_decide_eq_true (by first | (with_reducible assumption) | assumption)
                have q250 : x10_1 < (t245.length : Int) := of_decide_eq_true (by first | (with_reducible assumption) | assumption)
                obtain ⟨ad250, e250, hx250_0, hx250_1, hx250_2, hx250_3, hx250_4⟩ := at_T33 (Kd.R_reads' HO_7.out).2.2 x10_1 p250 q250
                cases e250
                replace p250 := eq_true p250
                replace q250 := eq_true q250
                go_wp2_with (first | ((with_reducible refine gate_dst (N := 11) rfl ?_); (try (refine gate_guard (by rfl) ?_; dsimp only)); refine box_event ?hg (N := 11) ?hd (cs := #[.string (⟨#[]⟩ : ByteArray), .int .i64 0, .int .u64 0, .int .u64 0, .int .u64 0]) (t := 33) ?hr ?_; (case hd => rfl); (case hg => rfl); (case hr => first | (go_simp; done) | (go_simp; rfl)); intro gb251 hg w46 hbox hb; have n0_ := Aside0.mk (Kd.R_below (Kd.R_elderB (by (with_reducible repeat (first | apply Kd.R_alloc | apply Kd.R_drewN | apply Kd.R_drew)); exact HO_7.out) gb251 (Nat.le_of_eq hg.symm)) hb); have n1_ := Aside0.mk (below_step (by repeat (first | (with_reducible first | exact HB.out | apply below_alloc | apply pw_below_drewN | apply below_drew1) | exact HB.out)) hb); have n2_ := Aside0.mk (hbox); have n3_ := Aside0.mk ((by rw [hg]; exact (below_size (by repeat (first | (with_reducible first | exact HB.out | apply below_alloc | apply pw_below_drewN | apply below_drew1) | exact HB.out))) : w.heap.size ≤ gb251)); have n4_ := Aside0.mk ((by rw [hg]; exact (below_size (by repeat (first | (with_reducible first | exact HB.out | apply below_alloc | apply pw_below_drewN | apply below_drew1) | exact HB.out))) : w.heap.size ≤ gb251)); clear HO_7; clear HB; have HO_7 := n0_; have HB := n1_; have BK251 := n2_; have GW251 := n3_; have GE251 := n4_; clear n0_ n1_ n2_ n3_ n4_; clear hb hbox hg; have hcz47_0 : w46.cell? ⟨gb251, 0, none⟩ = some (.string (⟨#[]⟩ : ByteArray)) := (blk_cell BK251.out 0).trans rfl; have hcz47_1 : w46.cell? ⟨gb251, 1, none⟩ = some (.int .i64 0) := (blk_cell BK251.out 1).trans rfl; have hcz47_2 : w46.cell? ⟨gb251, 2, none⟩ = some (.int .u64 0) := (blk_cell BK251.out 2).trans rfl; have hcz47_3 : w46.cell? ⟨gb251, 3, none⟩ = some (.int .u64 0) := (blk_cell BK251.out 3).trans rfl; have hcz47_4 : w46.cell? ⟨gb251, 4, none⟩ = some (.int .u64 0) := (blk_cell BK251.out 4).trans rfl; have hfz47_0 := blk_frozen BK251.out 0; have hfz47_1 := blk_frozen BK251.out 1; have hfz47_2 := blk_frozen BK251.out 2; have hfz47_3 := blk_frozen BK251.out 3; have hfz47_4 := blk_frozen BK251.out 4))
                repeat (go_quiet (first | ((with_reducible refine gate_dst (N := 11) rfl ?_); (try (refine gate_guard (by rfl) ?_; dsimp only)); refine box_event ?hg (N := 11) ?hd (cs := #[.string (⟨#[]⟩ : ByteArray), .int .i64 0, .int .u64 0, .int .u64 0, .int .u64 0]) (t := 33) ?hr ?_; (case hd => rfl); (case hg => rfl); (case hr => first | (go_simp; done) | (go_simp; rfl)); intro gb251 hg w46 hbox hb; have n0_ := Aside0.mk (Kd.R_below (Kd.R_elderB (by (with_reducible repeat (first | apply Kd.R_alloc | apply Kd.R_drewN | apply Kd.R_drew)); exact HO_7.out) gb251 (Nat.le_of_eq hg.symm)) hb); have n1_ := Aside0.mk (below_step (by repeat (first | (with_reducible first | exact HB.out | apply below_alloc | apply pw_below_drewN | apply below_drew1) | exact HB.out)) hb); have n2_ := Aside0.mk (hbox); have n3_ := Aside0.mk ((by rw [hg]; exact (below_size (by repeat (first | (with_reducible first | exact HB.out | apply below_alloc | apply pw_below_drewN | apply below_drew1) | exact HB.out))) : w.heap.size ≤ gb251)); have n4_ := Aside0.mk ((by rw [hg]; exact (below_size (by repeat (first | (with_reducible first | exact HB.out | apply below_alloc | apply pw_below_drewN | apply below_drew1) | exact HB.out))) : w.heap.size ≤ gb251)); clear HO_7; clear HB; have HO_7 := n0_; have HB := n1_; have BK251 := n2_; have GW251 := n3_; have GE251 := n4_; clear n0_ n1_ n2_ n3_ n4_; clear hb hbox hg; have hcz47_0 : w46.cell? ⟨gb251, 0, none⟩ = some (.string (⟨#[]⟩ : ByteArray)) := (blk_cell BK251.out 0).trans rfl; have hcz47_1 : w46.cell? ⟨gb251, 1, none⟩ = some (.int .i64 0) := (blk_cell BK251.out 1).trans rfl; have hcz47_2 : w46.cell? ⟨gb251, 2, none⟩ = some (.int .u64 0) := (blk_cell BK251.out 2).trans rfl; have hcz47_3 : w46.cell? ⟨gb251, 3, none⟩ = some (.int .u64 0) := (blk_cell BK251.out 3).trans rfl; have hcz47_4 : w46.cell? ⟨gb251, 4, none⟩ = some (.int .u64 0) := (blk_cell BK251.out 4).trans rfl; have hfz47_0 := blk_frozen BK251.out 0; have hfz47_1 := blk_frozen BK251.out 1; have hfz47_2 := blk_frozen BK251.out 2; have hfz47_3 := blk_frozen BK251.out 3; have hfz47_4 := blk_frozen BK251.out 4)); try go_wp2_with (first | ((with_reducible refine gate_dst (N := 11) rfl ?_); (try (refine gate_guard (by rfl) ?_; dsimp only)); refine box_event ?hg (N := 11) ?hd (cs := #[.string (⟨#[]⟩ : ByteArray), .int .i64 0, .int .u64 0, .int .u64 0, .int .u64 0]) (t := 33) ?hr ?_; (case hd => rfl); (case hg => rfl); (case hr => first | (go_simp; done) | (go_simp; rfl)); intro gb251 hg w46 hbox hb; have n0_ := Aside0.mk (Kd.R_below (Kd.R_elderB (by (with_reducible repeat (first | apply Kd.R_alloc | apply Kd.R_drewN | apply Kd.R_drew)); exact HO_7.out) gb251 (Nat.le_of_eq hg.symm)) hb); have n1_ := Aside0.mk (below_step (by repeat (first | (with_reducible first | exact HB.out | apply below_alloc | apply pw_below_drewN | apply below_drew1) | exact HB.out)) hb); have n2_ := Aside0.mk (hbox); have n3_ := Aside0.mk ((by rw [hg]; exact (below_size (by repeat (first | (with_reducible first | exact HB.out | apply below_alloc | apply pw_below_drewN | apply below_drew1) | exact HB.out))) : w.heap.size ≤ gb251)); have n4_ := Aside0.mk ((by rw [hg]; exact (below_size (by repeat (first | (with_reducible first | exact HB.out | apply below_alloc | apply pw_below_drewN | apply below_drew1) | exact HB.out))) : w.heap.size ≤ gb251)); clear HO_7; clear HB; have HO_7 := n0_; have HB := n1_; have BK251 := n2_; have GW251 := n3_; have GE251 := n4_; clear n0_ n1_ n2_ n3_ n4_; clear hb hbox hg; have hcz47_0 : w46.cell? ⟨gb251, 0, none⟩ = some (.string (⟨#[]⟩ : ByteArray)) := (blk_cell BK251.out 0).trans rfl; have hcz47_1 : w46.cell? ⟨gb251, 1, none⟩ = some (.int .i64 0) := (blk_cell BK251.out 1).trans rfl; have hcz47_2 : w46.cell? ⟨gb251, 2, none⟩ = some (.int .u64 0) := (blk_cell BK251.out 2).trans rfl; have hcz47_3 : w46.cell? ⟨gb251, 3, none⟩ = some (.int .u64 0) := (blk_cell BK251.out 3).trans rfl; have hcz47_4 : w46.cell? ⟨gb251, 4, none⟩ = some (.int .u64 0) := (blk_cell BK251.out 4).trans rfl; have hfz47_0 := blk_frozen BK251.out 0; have hfz47_1 := blk_frozen BK251.out 1; have hfz47_2 := blk_frozen BK251.out 2; have hfz47_3 := blk_frozen BK251.out 3; have hfz47_4 := blk_frozen BK251.out 4)))
                go_ret3
                exact ⟨by first | rfl | (simp [errW_none, errW_some] <;> rfl) | (simp [*, errW_none, errW_some] <;> rfl), by repeat (first | (with_reducible first | exact HB.out | apply below_alloc | apply pw_below_drewN | apply below_drew1 | refine below_set ?_ GE251.out) | exact HB.out)⟩
            · rw [if_neg c8] at H
              have c8b0 : (((rd_T33 t245 x10_1).f0).toList == a1.toList) = false := beq_eq_false_iff_ne.mpr c8
              have c8b1 : (((rd_T33 t245 x10_1).f0).toList != a1.toList) = true := bne_iff_ne.mpr c8
              have H' := Aside0.mk H
              clear H
              obtain ⟨Ao48, co48, eo48⟩ := Kd.R_slice HO_7.out
              subst eo48
              have p250 : 0 ≤ (x10_1 : Int) := of_decide_eq_true (by first | (with_reducible assumption) | assumption)
              have q250 : x10_1 < (t245.length : Int) := of_decide_eq_true (by first | (with_reducible assumption) | assumption)
              obtain ⟨ad250, e250, hx250_0, hx250_1, hx250_2, hx250_3, hx250_4⟩ := at_T33 (Kd.R_reads' HO_7.out).2.2 x10_1 p250 q250
              cases e250
              replace p250 := eq_true p250
              replace q250 := eq_true q250
              go_wp2_with (first | ((with_reducible refine gate_dst (N := 11) rfl ?_); (try (refine gate_guard (by rfl) ?_; dsimp only)); refine box_event ?hg (N := 11) ?hd (cs := #[.string (⟨#[]⟩ : ByteArray), .int .i64 0, .int .u64 0, .int .u64 0, .int .u64 0]) (t := 33) ?hr ?_; (case hd => rfl); (case hg => rfl); (case hr => first | (go_simp; done) | (go_simp; rfl)); intro gb251 hg w49 hbox hb; have n0_ := Aside0.mk (Kd.R_below (Kd.R_elderB (by (with_reducible repeat (first | apply Kd.R_alloc | apply Kd.R_drewN | apply Kd.R_drew)); exact HO_7.out) gb251 (Nat.le_of_eq hg.symm)) hb); have n1_ := Aside0.mk (below_step (by repeat (first | (with_reducible first | exact HB.out | apply below_alloc | apply pw_below_drewN | apply below_drew1) | exact HB.out)) hb); have n2_ := Aside0.mk (hbox); have n3_ := Aside0.mk ((by rw [hg]; exact (below_size (by repeat (first | (with_reducible first | exact HB.out | apply below_alloc | apply pw_below_drewN | apply below_drew1) | exact HB.out))) : w.heap.size ≤ gb251)); have n4_ := Aside0.mk ((by rw [hg]; exact (below_size (by repeat (first | (with_reducible first | exact HB.out | apply below_alloc | apply pw_below_drewN | apply below_drew1) | exact HB.out))) : w.heap.size ≤ gb251)); clear HO_7; clear HB; have HO_7 := n0_; have HB := n1_; have BK251 := n2_; have GW251 := n3_; have GE251 := n4_; clear n0_ n1_ n2_ n3_ n4_; clear hb hbox hg; have hcz50_0 : w49.cell? ⟨gb251, 0, none⟩ = some (.string (⟨#[]⟩ : ByteArray)) := (blk_cell BK251.out 0).trans rfl; have hcz50_1 : w49.cell? ⟨gb251, 1, none⟩ = some (.int .i64 0) := (blk_cell BK251.out 1).trans rfl; have hcz50_2 : w49.cell? ⟨gb251, 2, none⟩ = some (.int .u64 0) := (blk_cell BK251.out 2).trans rfl; have hcz50_3 : w49.cell? ⟨gb251, 3, none⟩ = some (.int .u64 0) := (blk_cell BK251.out 3).trans rfl; have hcz50_4 : w49.cell? ⟨gb251, 4, none⟩ = some (.int .u64 0) := (blk_cell BK251.out 4).trans rfl; have hfz50_0 := blk_frozen BK251.out 0; have hfz50_1 := blk_frozen BK251.out 1; have hfz50_2 := blk_frozen BK251.out 2; have hfz50_3 := blk_frozen BK251.out 3; have hfz50_4 := blk_frozen BK251.out 4))
              repeat (go_quiet (first | ((with_reducible refine gate_dst (N := 11) rfl ?_); (try (refine gate_guard (by rfl) ?_; dsimp only)); refine box_event ?hg (N := 11) ?hd (cs := #[.string (⟨#[]⟩ : ByteArray), .int .i64 0, .int .u64 0, .int .u64 0, .int .u64 0]) (t := 33) ?hr ?_; (case hd => rfl); (case hg => rfl); (case hr => first | (go_simp; done) | (go_simp; rfl)); intro gb251 hg w49 hbox hb; have n0_ := Aside0.mk (Kd.R_below (Kd.R_elderB (by (with_reducible repeat (first | apply Kd.R_alloc | apply Kd.R_drewN | apply Kd.R_drew)); exact HO_7.out) gb251 (Nat.le_of_eq hg.symm)) hb); have n1_ := Aside0.mk (below_step (by repeat (first | (with_reducible first | exact HB.out | apply below_alloc | apply pw_below_drewN | apply below_drew1) | exact HB.out)) hb); have n2_ := Aside0.mk (hbox); have n3_ := Aside0.mk ((by rw [hg]; exact (below_size (by repeat (first | (with_reducible first | exact HB.out | apply below_alloc | apply pw_below_drewN | apply below_drew1) | exact HB.out))) : w.heap.size ≤ gb251)); have n4_ := Aside0.mk ((by rw [hg]; exact (below_size (by repeat (first | (with_reducible first | exact HB.out | apply below_alloc | apply pw_below_drewN | apply below_drew1) | exact HB.out))) : w.heap.size ≤ gb251)); clear HO_7; clear HB; have HO_7 := n0_; have HB := n1_; have BK251 := n2_; have GW251 := n3_; have GE251 := n4_; clear n0_ n1_ n2_ n3_ n4_; clear hb hbox hg; have hcz50_0 : w49.cell? ⟨gb251, 0, none⟩ = some (.string (⟨#[]⟩ : ByteArray)) := (blk_cell BK251.out 0).trans rfl; have hcz50_1 : w49.cell? ⟨gb251, 1, none⟩ = some (.int .i64 0) := (blk_cell BK251.out 1).trans rfl; have hcz50_2 : w49.cell? ⟨gb251, 2, none⟩ = some (.int .u64 0) := (blk_cell BK251.out 2).trans rfl; have hcz50_3 : w49.cell? ⟨gb251, 3, none⟩ = some (.int .u64 0) := (blk_cell BK251.out 3).trans rfl; have hcz50_4 : w49.cell? ⟨gb251, 4, none⟩ = some (.int .u64 0) := (blk_cell BK251.out 4).trans rfl; have hfz50_0 := blk_frozen BK251.out 0; have hfz50_1 := blk_frozen BK251.out 1; have hfz50_2 := blk_frozen BK251.out 2; have hfz50_3 := blk_frozen BK251.out 3; have hfz50_4 := blk_frozen BK251.out 4)); try go_wp2_with (first | ((with_reducible refine gate_dst (N := 11) rfl ?_); (try (refine gate_guard (by rfl) ?_; dsimp only)); refine box_event ?hg (N := 11) ?hd (cs := #[.string (⟨#[]⟩ : ByteArray), .int .i64 0, .int .u64 0, .int .u64 0, .int .u64 0]) (t := 33) ?hr ?_; (case hd => rfl); (case hg => rfl); (case hr => first | (go_simp; done) | (go_simp; rfl)); intro gb251 hg w49 hbox hb; have n0_ := Aside0.mk (Kd.R_below (Kd.R_elderB (by (with_reducible repeat (first | apply Kd.R_alloc | apply Kd.R_drewN | apply Kd.R_drew)); exact HO_7.out) gb251 (Nat.le_of_eq hg.symm)) hb); have n1_ := Aside0.mk (below_step (by repeat (first | (with_reducible first | exact HB.out | apply below_alloc | apply pw_below_drewN | apply below_drew1) | exact HB.out)) hb); have n2_ := Aside0.mk (hbox); have n3_ := Aside0.mk ((by rw [hg]; exact (below_size (by repeat (first | (with_reducible first | exact HB.out | apply below_alloc | apply pw_below_drewN | apply below_drew1) | exact HB.out))) : w.heap.size ≤ gb251)); have n4_ := Aside0.mk ((by rw [hg]; exact (below_size (by repeat (first | (with_reducible first | exact HB.out | apply below_alloc | apply pw_below_drewN | apply below_drew1) | exact HB.out))) : w.heap.size ≤ gb251)); clear HO_7; clear HB; have HO_7 := n0_; have HB := n1_; have BK251 := n2_; have GW251 := n3_; have GE251 := n4_; clear n0_ n1_ n2_ n3_ n4_; clear hb hbox hg; have hcz50_0 : w49.cell? ⟨gb251, 0, none⟩ = some (.string (⟨#[]⟩ : ByteArray)) := (blk_cell BK251.out 0).trans rfl; have hcz50_1 : w49.cell? ⟨gb251, 1, none⟩ = some (.int .i64 0) := (blk_cell BK251.out 1).trans rfl; have hcz50_2 : w49.cell? ⟨gb251, 2, none⟩ = some (.int .u64 0) := (blk_cell BK251.out 2).trans rfl; have hcz50_3 : w49.cell? ⟨gb251, 3, none⟩ = some (.int .u64 0) := (blk_cell BK251.out 3).trans rfl; have hcz50_4 : w49.cell? ⟨gb251, 4, none⟩ = some (.int .u64 0) := (blk_cell BK251.out 4).trans rfl; have hfz50_0 := blk_frozen BK251.out 0; have hfz50_1 := blk_frozen BK251.out 1; have hfz50_2 := blk_frozen BK251.out 2; have hfz50_3 := blk_frozen BK251.out 3; have hfz50_4 := blk_frozen BK251.out 4)))
              go_roundg k1
              case measure => have := HK1.out; omega
              case rel => exact ⟨(wrap64 (x10_1 + 1)), (by first | rfl | (simp; done) | (simp [*]; done)), H', ⟨by have := HK1.out; omega⟩, ⟨by (with_reducible repeat (first | apply Kd.R_alloc | apply Kd.R_drewN | apply Kd.R_drew)); exact Kd.R_mono (Kd.R_far (p := ⟨gb251, 4, none⟩) (Kd.R_far (p := ⟨gb251, 3, none⟩) (Kd.R_far (p := ⟨gb251, 2, none⟩) (Kd.R_far (p := ⟨gb251, 1, none⟩) (Kd.R_far (p := ⟨gb251, 0, none⟩) (Kd.R_mono HO_7.out (fun k_ hk => (⟨hk, hk.2⟩ : _ ∧ k_ ≠ gb251))) (fun _ hk => hk.2) (.string ((rd_T33 t245 x10_1).f0))) (fun _ hk => hk.2) (.int .i64 ((rd_T33 t245 x10_1).f1))) (fun _ hk => hk.2) (.int .u64 ((rd_T33 t245 x10_1).f2))) (fun _ hk => hk.2) (.int .u64 ((rd_T33 t245 x10_1).f3))) (fun _ hk => hk.2) (.int .u64 ((rd_T33 t245 x10_1).f4))) (fun _ hk => trivial)⟩, ⟨by repeat (first | (with_reducible first | exact HB.out | apply below_alloc | apply pw_below_drewN | apply below_drew1 | refine below_set ?_ GE251.out) | exact HB.out)⟩⟩
          · rw [if_neg c7] at H
            exact absurd H (by simp)
        · rw [if_neg c6] at H
          have c6b0 : decide (x10_1 < (t245.length : Int)) = false := decide_eq_false c6
          clear c6
          simp only [Option.some.injEq, Prod.mk.injEq] at H
          obtain ⟨rfl, rfl, rfl⟩ := H
          obtain ⟨Ao51, co51, eo51⟩ := Kd.R_slice HO_7.out
          subst eo51
          go_wp2
          repeat (go_quiet (fail); try go_wp2)
          go_ret3
          exact ⟨by first | rfl | (simp [errW_none, errW_some] <;> rfl) | (simp [*, errW_none, errW_some] <;> rfl), by repeat (first | (with_reducible first | exact HB.out | apply below_alloc | apply pw_below_drewN | apply below_drew1) | exact HB.out)⟩
  · rw [if_neg c4] at H
    have c4b0 : (t247 == 0) = false := beq_eq_false_iff_ne.mpr c4
    have c4b1 : (t247 != 0) = true := bne_iff_ne.mpr c4
    simp only [Option.some.injEq, Prod.mk.injEq] at H
    obtain ⟨rfl, rfl, rfl⟩ := H
    go_enter Try.func13, Try.ntmps13
    go_wp2_with (first | (go_at_call 10; (with_reducible refine (messuageref07_List.calls k _ _ l0 t245 t246 t247 _ ?side1 ?side2 A3.out).mono ?_); (case side1 => repeat (first | exact HR0.out | (with_reducible refine Kd.C_alloc ?_ _) | (with_reducible refine Kd.C_drewN ?_ _) | (with_reducible refine Kd.C_drew ?_))); (case side2 => exact HC0.out); rintro e w52 ⟨v248, rfl, ho0, hb⟩; have n0_ := Aside0.mk (Kd.R_lower ho0 (below_size (by repeat (first | (with_reducible first | exact HB.out | apply below_alloc | apply pw_below_drewN | apply below_drew1) | exact HB.out)))); have n1_ := Aside0.mk (below_step (by repeat (first | (with_reducible first | exact HB.out | apply below_alloc | apply pw_below_drewN | apply below_drew1) | exact HB.out)) hb); clear HB; have HO249 := n0_; have HB := n1_; clear n0_ n1_; (try clear hb); (try clear hb2); (try clear hk); (try clear hi); (try clear ho0)))
    repeat (go_quiet (first | (go_at_call 10; (with_reducible refine (messuageref07_List.calls k _ _ l0 t245 t246 t247 _ ?side1 ?side2 A3.out).mono ?_); (case side1 => repeat (first | exact HR0.out | (with_reducible refine Kd.C_alloc ?_ _) | (with_reducible refine Kd.C_drewN ?_ _) | (with_reducible refine Kd.C_drew ?_))); (case side2 => exact HC0.out); rintro e w52 ⟨v248, rfl, ho0, hb⟩; have n0_ := Aside0.mk (Kd.R_lower ho0 (below_size (by repeat (first | (with_reducible first | exact HB.out | apply below_alloc | apply pw_below_drewN | apply below_drew1) | exact HB.out)))); have n1_ := Aside0.mk (below_step (by repeat (first | (with_reducible first | exact HB.out | apply below_alloc | apply pw_below_drewN | apply below_drew1) | exact HB.out)) hb); clear HB; have HO249 := n0_; have HB := n1_; clear n0_ n1_; (try clear hb); (try clear hb2); (try clear hk); (try clear hi); (try clear ho0))); try go_wp2_with (first | (go_at_call 10; (with_reducible refine (messuageref07_List.calls k _ _ l0 t245 t246 t247 _ ?side1 ?side2 A3.out).mono ?_); (case side1 => repeat (first | exact HR0.out | (with_reducible refine Kd.C_alloc ?_ _) | (with_reducible refine Kd.C_drewN ?_ _) | (with_reducible refine Kd.C_drew ?_))); (case side2 => exact HC0.out); rintro e w52 ⟨v248, rfl, ho0, hb⟩; have n0_ := Aside0.mk (Kd.R_lower ho0 (below_size (by repeat (first | (with_reducible first | exact HB.out | apply below_alloc | apply pw_below_drewN | apply below_drew1) | exact HB.out)))); have n1_ := Aside0.mk (below_step (by repeat (first | (with_reducible first | exact HB.out | apply below_alloc | apply pw_below_drewN | apply below_drew1) | exact HB.out)) hb); clear HB; have HO249 := n0_; have HB := n1_; clear n0_ n1_; (try clear hb); (try clear hb2); (try clear hk); (try clear hi); (try clear ho0))))
    go_ret3
    exact ⟨by first | rfl | (simp [errW_none, errW_some] <;> rfl) | (simp [*, errW_none, errW_some] <;> rfl), by repeat (first | (with_reducible first | exact HB.out | apply below_alloc | apply pw_below_drewN | apply below_drew1) | exact HB.out)⟩

/-! ### messuagelaw07_ZipFinds: function 4 -/
def messuagelaw07_ZipFinds.f (k : Nat) (l0 : List Int) (a1 : ByteArray) : Option (Bool) := if (l0.length : Int) > 263144 then (some true) else ((zip_Find.f k l0 a1).bind fun bt257 => ((messuageref07_Find.f k l0 a1).bind fun bt260 => (if bt257.1 = bt260.1 then (if bt257.2.1 = bt260.2.1 then (if bt257.2.2 = bt260.2.2 then ((messuagelaw07_alive.f k).bind fun t263 => (some t263)) else (some false)) else (some false)) else (some false))))
theorem messuagelaw07_ZipFinds.mono : ∀ a0 a1 k, LeO (messuagelaw07_ZipFinds.f k a0 a1) (messuagelaw07_ZipFinds.f (k + 1) a0 a1) := by
  intro a0 a1 k
  unfold messuagelaw07_ZipFinds.f
  repeat' first
      | (with_reducible exact messuagelaw07_alive.mono _)
      | (with_reducible exact messuageref07_Find.mono _ _ _)
      | (with_reducible exact zip_Find.mono _ _ _)
      | (with_reducible exact LeO.refl _)
      | (with_reducible exact LeO.none _)
      | (with_reducible refine LeO.ite ?_ ?_)
      | (with_reducible refine LeO.bind ?_ (fun _ => ?_))
      | exact messuagelaw07_alive.mono _
      | exact messuageref07_Find.mono _ _ _
      | exact zip_Find.mono _ _ _
      | exact LeO.none _
      | refine LeO.ite ?_ ?_
      | refine LeO.bind ?_ (fun _ => ?_)
set_option maxHeartbeats 8000000 in
set_option maxRecDepth 100000 in
theorem messuagelaw07_ZipFinds.calls (k : Nat) (A0 : Option Addr) (c0 : Nat) (l0 : List Int) (a1 : ByteArray) (r : Bool) (w : World) (hr0 : Kd.C (Kd.int .u8) w A0 l0.length l0) (hc0 : l0.length ≤ c0) (h : messuagelaw07_ZipFinds.f k l0 a1 = some r) :
    Calls Try.prog 4 #[.slice A0 l0.length c0, .string a1] w fun e w' => e = .returned (.bool r) ∧ Below w.heap.size w w' := by
  have HR0 := Aside0.mk hr0
  have HC0 := Aside0.mk hc0
  clear hr0 hc0
  have HB := Aside0.mk (Below.refl w.heap.size w)
  have H : (if (l0.length : Int) > 263144 then (some true) else ((zip_Find.f k l0 a1).bind fun bt257 => ((messuageref07_Find.f k l0 a1).bind fun bt260 => (if bt257.1 = bt260.1 then (if bt257.2.1 = bt260.2.1 then (if bt257.2.2 = bt260.2.2 then ((messuagelaw07_alive.f k).bind fun t263 => (some t263)) else (some false)) else (some false)) else (some false))))) = some r := h
  clear h
  by_cases c3 : (l0.length : Int) > 263144
  · rw [if_pos c3] at H
    have c3b0 : decide (263144 < (l0.length : Int)) = true := decide_eq_true c3
    have c3b1 : decide (263144 < l0.length) = true := decide_eq_true (by omega)
    clear c3
    obtain rfl := Option.some.inj H
    go_enter Try.func4, Try.ntmps4
    go_wp2
    go_ret
    exact ⟨by first | rfl | (simp [errW_none, errW_some] <;> rfl) | (simp [*, errW_none, errW_some] <;> rfl), by repeat (first | (with_reducible first | exact HB.out | apply below_alloc | apply pw_below_drewN | apply below_drew1) | exact HB.out)⟩
  · rw [if_neg c3] at H
    have c3b0 : decide (263144 < (l0.length : Int)) = false := decide_eq_false c3
    have c3b1 : decide (263144 < l0.length) = false := decide_eq_false (by omega)
    clear c3
    replace H := Option.bind_eq_some_iff.mp H
    obtain ⟨⟨t257, t258, t259⟩, A40, H⟩ := H
    replace H : ((messuageref07_Find.f k l0 a1).bind fun bt260 => (if t257 = bt260.1 then (if t258 = bt260.2.1 then (if t259 = bt260.2.2 then ((messuagelaw07_alive.f k).bind fun t263 => (some t263)) else (some false)) else (some false)) else (some false))) = some r := H
    have A4 := Aside0.mk A40
    clear A40
    replace H := Option.bind_eq_some_iff.mp H
    obtain ⟨⟨t260, t261, t262⟩, A50, H⟩ := H
    replace H : (if t257 = t260 then (if t258 = t261 then (if t259 = t262 then ((messuagelaw07_alive.f k).bind fun t263 => (some t263)) else (some false)) else (some false)) else (some false)) = some r := H
    have A5 := Aside0.mk A50
    clear A50
    by_cases c6 : t257 = t260
    · rw [if_pos c6] at H
      have c6b0 : (t257 == t260) = true := beq_iff_eq.mpr c6
      have c6b1 : (t257 != t260) = false := bne_eq_false_iff_eq.mpr c6
      clear c6
      by_cases c7 : t258 = t261
      · rw [if_pos c7] at H
        have c7b0 : (t258 == t261) = true := beq_iff_eq.mpr c7
        have c7b1 : (t258 != t261) = false := bne_eq_false_iff_eq.mpr c7
        clear c7
        by_cases c8 : t259 = t262
        · rw [if_pos c8] at H
          have c8b0 : (t259 == t262) = true := beq_iff_eq.mpr c8
          have c8b1 : (t259 != t262) = false := bne_eq_false_iff_eq.mpr c8
          clear c8
          replace H := Option.bind_eq_some_iff.mp H
          obtain ⟨t263, A90, H⟩ := H
          replace H : (some t263) = some r := H
          have A9 := Aside0.mk A90
          clear A90
          obtain rfl := Option.some.inj H
          go_enter Try.func4, Try.ntmps4
          go_wp2_with (first | ((with_reducible refine gate_callee (f := 12) rfl ?_); refine goesL_ (some 17) rfl rfl Try.func12 (by kernel_rfl) rfl #[.slice A0 l0.length c0, .string a1] rfl (by (try simp only [List.map_toArray, List.map_cons, List.map_nil]); first | done | rfl | (simp only [List.length_drop, List.length_take]; rfl)) ?_; (with_reducible refine (zip_Find.calls k _ _ l0 a1 t257 t258 t259 _ ?side1 ?side2 A4.out).mono ?_); (case side1 => repeat (first | exact HR0.out | (with_reducible refine Kd.C_alloc ?_ _) | (with_reducible refine Kd.C_drewN ?_ _) | (with_reducible refine Kd.C_drew ?_))); (case side2 => exact HC0.out); rintro e w10 ⟨rfl, hb⟩; refine ⟨_, rfl, ?_⟩; have n0_ := Aside0.mk (below_step (by repeat (first | (with_reducible first | exact HB.out | apply below_alloc | apply pw_below_drewN | apply below_drew1) | exact HB.out)) hb); clear HB; have HB := n0_; clear n0_; (try clear hb); (try clear hb2); (try clear hk); (try clear hi)) | ((with_reducible refine gate_callee (f := 13) rfl ?_); refine goesL_ (some 24) rfl rfl Try.func13 (by kernel_rfl) rfl #[.slice A0 l0.length c0, .string a1] rfl (by (try simp only [List.map_toArray, List.map_cons, List.map_nil]); first | done | rfl | (simp only [List.length_drop, List.length_take]; rfl)) ?_; (with_reducible refine (messuageref07_Find.calls k _ _ l0 a1 t260 t261 t262 _ ?side1 ?side2 A5.out).mono ?_); (case side1 => repeat (first | exact (Kd.C_below HR0.out HB.out) | (with_reducible refine Kd.C_alloc ?_ _) | (with_reducible refine Kd.C_drewN ?_ _) | (with_reducible refine Kd.C_drew ?_))); (case side2 => exact HC0.out); rintro e w11 ⟨rfl, hb⟩; refine ⟨_, rfl, ?_⟩; have n0_ := Aside0.mk (below_step (by repeat (first | (with_reducible first | exact HB.out | apply below_alloc | apply pw_below_drewN | apply below_drew1) | exact HB.out)) hb); clear HB; have HB := n0_; clear n0_; (try clear hb); (try clear hb2); (try clear hk); (try clear hi)) | (go_at_call 11; (with_reducible refine (messuagelaw07_alive.calls k  t263 _ A9.out).mono ?_); rintro e w12 ⟨rfl, hb⟩; have n0_ := Aside0.mk (below_step (by repeat (first | (with_reducible first | exact HB.out | apply below_alloc | apply pw_below_drewN | apply below_drew1) | exact HB.out)) hb); clear HB; have HB := n0_; clear n0_; (try clear hb); (try clear hb2); (try clear hk); (try clear hi)))
          go_ret
          exact ⟨by first | rfl | (simp [errW_none, errW_some] <;> rfl) | (simp [*, errW_none, errW_some] <;> rfl), by repeat (first | (with_reducible first | exact HB.out | apply below_alloc | apply pw_below_drewN | apply below_drew1) | exact HB.out)⟩
        · rw [if_neg c8] at H
          have c8b0 : (t259 == t262) = false := beq_eq_false_iff_ne.mpr c8
          have c8b1 : (t259 != t262) = true := bne_iff_ne.mpr c8
          obtain rfl := Option.some.inj H
          go_enter Try.func4, Try.ntmps4
          go_wp2_with (first | ((with_reducible refine gate_callee (f := 12) rfl ?_); refine goesL_ (some 17) rfl rfl Try.func12 (by kernel_rfl) rfl #[.slice A0 l0.length c0, .string a1] rfl (by (try simp only [List.map_toArray, List.map_cons, List.map_nil]); first | done | rfl | (simp only [List.length_drop, List.length_take]; rfl)) ?_; (with_reducible refine (zip_Find.calls k _ _ l0 a1 t257 t258 t259 _ ?side1 ?side2 A4.out).mono ?_); (case side1 => repeat (first | exact HR0.out | (with_reducible refine Kd.C_alloc ?_ _) | (with_reducible refine Kd.C_drewN ?_ _) | (with_reducible refine Kd.C_drew ?_))); (case side2 => exact HC0.out); rintro e w13 ⟨rfl, hb⟩; refine ⟨_, rfl, ?_⟩; have n0_ := Aside0.mk (below_step (by repeat (first | (with_reducible first | exact HB.out | apply below_alloc | apply pw_below_drewN | apply below_drew1) | exact HB.out)) hb); clear HB; have HB := n0_; clear n0_; (try clear hb); (try clear hb2); (try clear hk); (try clear hi)) | ((with_reducible refine gate_callee (f := 13) rfl ?_); refine goesL_ (some 24) rfl rfl Try.func13 (by kernel_rfl) rfl #[.slice A0 l0.length c0, .string a1] rfl (by (try simp only [List.map_toArray, List.map_cons, List.map_nil]); first | done | rfl | (simp only [List.length_drop, List.length_take]; rfl)) ?_; (with_reducible refine (messuageref07_Find.calls k _ _ l0 a1 t260 t261 t262 _ ?side1 ?side2 A5.out).mono ?_); (case side1 => repeat (first | exact (Kd.C_below HR0.out HB.out) | (with_reducible refine Kd.C_alloc ?_ _) | (with_reducible refine Kd.C_drewN ?_ _) | (with_reducible refine Kd.C_drew ?_))); (case side2 => exact HC0.out); rintro e w14 ⟨rfl, hb⟩; refine ⟨_, rfl, ?_⟩; have n0_ := Aside0.mk (below_step (by repeat (first | (with_reducible first | exact HB.out | apply below_alloc | apply pw_below_drewN | apply below_drew1) | exact HB.out)) hb); clear HB; have HB := n0_; clear n0_; (try clear hb); (try clear hb2); (try clear hk); (try clear hi)))
          go_ret
          exact ⟨by first | rfl | (simp [errW_none, errW_some] <;> rfl) | (simp [*, errW_none, errW_some] <;> rfl), by repeat (first | (with_reducible first | exact HB.out | apply below_alloc | apply pw_below_drewN | apply below_drew1) | exact HB.out)⟩
      · rw [if_neg c7] at H
        have c7b0 : (t258 == t261) = false := beq_eq_false_iff_ne.mpr c7
        have c7b1 : (t258 != t261) = true := bne_iff_ne.mpr c7
        obtain rfl := Option.some.inj H
        go_enter Try.func4, Try.ntmps4
        go_wp2_with (first | ((with_reducible refine gate_callee (f := 12) rfl ?_); refine goesL_ (some 17) rfl rfl Try.func12 (by kernel_rfl) rfl #[.slice A0 l0.length c0, .string a1] rfl (by (try simp only [List.map_toArray, List.map_cons, List.map_nil]); first | done | rfl | (simp only [List.length_drop, List.length_take]; rfl)) ?_; (with_reducible refine (zip_Find.calls k _ _ l0 a1 t257 t258 t259 _ ?side1 ?side2 A4.out).mono ?_); (case side1 => repeat (first | exact HR0.out | (with_reducible refine Kd.C_alloc ?_ _) | (with_reducible refine Kd.C_drewN ?_ _) | (with_reducible refine Kd.C_drew ?_))); (case side2 => exact HC0.out); rintro e w15 ⟨rfl, hb⟩; refine ⟨_, rfl, ?_⟩; have n0_ := Aside0.mk (below_step (by repeat (first | (with_reducible first | exact HB.out | apply below_alloc | apply pw_below_drewN | apply below_drew1) | exact HB.out)) hb); clear HB; have HB := n0_; clear n0_; (try clear hb); (try clear hb2); (try clear hk); (try clear hi)) | ((with_reducible refine gate_callee (f := 13) rfl ?_); refine goesL_ (some 24) rfl rfl Try.func13 (by kernel_rfl) rfl #[.slice A0 l0.length c0, .string a1] rfl (by (try simp only [List.map_toArray, List.map_cons, List.map_nil]); first | done | rfl | (simp only [List.length_drop, List.length_take]; rfl)) ?_; (with_reducible refine (messuageref07_Find.calls k _ _ l0 a1 t260 t261 t262 _ ?side1 ?side2 A5.out).mono ?_); (case side1 => repeat (first | exact (Kd.C_below HR0.out HB.out) | (with_reducible refine Kd.C_alloc ?_ _) | (with_reducible refine Kd.C_drewN ?_ _) | (with_reducible refine Kd.C_drew ?_))); (case side2 => exact HC0.out); rintro e w16 ⟨rfl, hb⟩; refine ⟨_, rfl, ?_⟩; have n0_ := Aside0.mk (below_step (by repeat (first | (with_reducible first | exact HB.out | apply below_alloc | apply pw_below_drewN | apply below_drew1) | exact HB.out)) hb); clear HB; have HB := n0_; clear n0_; (try clear hb); (try clear hb2); (try clear hk); (try clear hi)))
        go_ret
        exact ⟨by first | rfl | (simp [errW_none, errW_some] <;> rfl) | (simp [*, errW_none, errW_some] <;> rfl), by repeat (first | (with_reducible first | exact HB.out | apply below_alloc | apply pw_below_drewN | apply below_drew1) | exact HB.out)⟩
    · rw [if_neg c6] at H
      have c6b0 : (t257 == t260) = false := beq_eq_false_iff_ne.mpr c6
      have c6b1 : (t257 != t260) = true := bne_iff_ne.mpr c6
      obtain rfl := Option.some.inj H
      go_enter Try.func4, Try.ntmps4
      go_wp2_with (first | ((with_reducible refine gate_callee (f := 12) rfl ?_); refine goesL_ (some 17) rfl rfl Try.func12 (by kernel_rfl) rfl #[.slice A0 l0.length c0, .string a1] rfl (by (try simp only [List.map_toArray, List.map_cons, List.map_nil]); first | done | rfl | (simp only [List.length_drop, List.length_take]; rfl)) ?_; (with_reducible refine (zip_Find.calls k _ _ l0 a1 t257 t258 t259 _ ?side1 ?side2 A4.out).mono ?_); (case side1 => repeat (first | exact HR0.out | (with_reducible refine Kd.C_alloc ?_ _) | (with_reducible refine Kd.C_drewN ?_ _) | (with_reducible refine Kd.C_drew ?_))); (case side2 => exact HC0.out); rintro e w17 ⟨rfl, hb⟩; refine ⟨_, rfl, ?_⟩; have n0_ := Aside0.mk (below_step (by repeat (first | (with_reducible first | exact HB.out | apply below_alloc | apply pw_below_drewN | apply below_drew1) | exact HB.out)) hb); clear HB; have HB := n0_; clear n0_; (try clear hb); (try clear hb2); (try clear hk); (try clear hi)) | ((with_reducible refine gate_callee (f := 13) rfl ?_); refine goesL_ (some 24) rfl rfl Try.func13 (by kernel_rfl) rfl #[.slice A0 l0.length c0, .string a1] rfl (by (try simp only [List.map_toArray, List.map_cons, List.map_nil]); first | done | rfl | (simp only [List.length_drop, List.length_take]; rfl)) ?_; (with_reducible refine (messuageref07_Find.calls k _ _ l0 a1 t260 t261 t262 _ ?side1 ?side2 A5.out).mono ?_); (case side1 => repeat (first | exact (Kd.C_below HR0.out HB.out) | (with_reducible refine Kd.C_alloc ?_ _) | (with_reducible refine Kd.C_drewN ?_ _) | (with_reducible refine Kd.C_drew ?_))); (case side2 => exact HC0.out); rintro e w18 ⟨rfl, hb⟩; refine ⟨_, rfl, ?_⟩; have n0_ := Aside0.mk (below_step (by repeat (first | (with_reducible first | exact HB.out | apply below_alloc | apply pw_below_drewN | apply below_drew1) | exact HB.out)) hb); clear HB; have HB := n0_; clear n0_; (try clear hb); (try clear hb2); (try clear hk); (try clear hi)))
      go_ret
      exact ⟨by first | rfl | (simp [errW_none, errW_some] <;> rfl) | (simp [*, errW_none, errW_some] <;> rfl), by repeat (first | (with_reducible first | exact HB.out | apply below_alloc | apply pw_below_drewN | apply below_drew1) | exact HB.out)⟩

/-- THE ONE PURE STATEMENT of messuagelaw07_ZipFinds: yours. -/
def messuagelaw07_ZipFinds.Pure : Prop := ∀ (l0 : List Int) (a1 : ByteArray), l0.length ≤ maxLen → l0.length * 1 ≤ 140737488351232 → (∀ x ∈ l0, (Lit.int .u8 x).wf = true) → a1.size ≤ 140737488351232 → ∃ k, messuagelaw07_ZipFinds.f k l0 a1 = some true
theorem messuagelaw07_ZipFinds.walk (P : messuagelaw07_ZipFinds.Pure) (a0 : Option Addr) (len0 cap0 : Nat) (z0 : List Int) (a1 : ByteArray) (w : World) (w0 : (a0 = none ∧ len0 = 0 ∧ cap0 = 0 ∧ z0 = []) ∨ ∃ x, a0 = some x ∧ len0 ≤ cap0 ∧ cap0 ≤ maxLen ∧ z0.length = cap0 ∧ (∀ i, i < z0.length → w.cell? (x.add i) = some (.int .u8 (z0.getD i 0))) ∧ ∀ n ∈ z0, (Lit.int .u8 n).wf = true) (y0 : len0 * 1 ≤ 140737488351232) (w1 : a1.size ≤ 140737488351232) :
    Calls Try.prog 4 #[.slice a0 len0 cap0, .string a1] w fun e w' => e = .returned (.bool true) ∧ Below w.heap.size w w' := by
  obtain ⟨l0, rfl, hr0, hm0, hw0, hc0⟩ := ReadsInt.ofRowC w0
  obtain ⟨k, h⟩ := P l0 a1 hm0 y0 hw0 w1
  refine (messuagelaw07_ZipFinds.calls k _ _ l0 a1 true w (Kd.C_of_reads (d := (0 : Int)) (h1 := fun _ => rfl) hr0) hc0 h).mono ?_
  rintro e w' ⟨rfl, hd⟩
  exact ⟨rfl, hd⟩

end Go.Proofs.Ytkikbbmgibgamaa.Z
