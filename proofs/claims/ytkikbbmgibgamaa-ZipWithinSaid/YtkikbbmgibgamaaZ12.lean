-- Written by this session's program gen.py (over the kit's printer) for this seat. Not trusted: Lean checks it.
import Derived.Test.YtkikbbmgibgamaaZ0
import Derived.Test.YtkikbbmgibgamaaZ3
import Derived.Test.YtkikbbmgibgamaaZ6
import Derived.Test.YtkikbbmgibgamaaHAlive
namespace Go.Proofs.Ytkikbbmgibgamaa.Z
open Go.RowKit Go.Proofs.Ytkikbbmgibgamaa.H Go.Proofs.YtkikbbmgibgamaaW.PrintWords Go.Proofs.YtkikbbmgibgamaaW.PrintLast Go.Proofs.YtkikbbmgibgamaaW.PrintMore
attribute [local go_sem] max2_int min2_int max_two min_two max_three min_three max_four min_four   -- for this text's walks alone
set_option linter.unusedVariables false
set_option linter.unusedSimpArgs false

/-! ### messuagelaw07_ZipWithin: function 7 -/
mutual
def messuagelaw07_ZipWithin.j0 : Nat → ByteArray → Int → Int → List (S32) → Bool → Option (Bool)
  | 0, _, _, _, _, _ => none
  | k + 1, x1, x5, x6, x8, x68 => if x68 = true then (some false) else (messuagelaw07_ZipWithin.l0 k x1 x5 x6 x8 0)
def messuagelaw07_ZipWithin.l0 : Nat → ByteArray → Int → Int → List (S32) → Int → Option (Bool)
  | 0, _, _, _, _, _ => none
  | k + 1, x1, x5, x6, x8, x10 => if x10 < (x8.length : Int) then (if 0 ≤ x10 then (if ((rd_T32 x8 x10).f0).toList = x1.toList then (if ((rd_T32 x8 x10).f1) = 0 then (if ((rd_T32 x8 x10).f2) = x6 then (if ((rd_T32 x8 x10).f4) < x5 then ((messuagelaw07_alive.f k).bind fun t340 => (some t340)) else (some false)) else (some false)) else (some false)) else (messuagelaw07_ZipWithin.l0 k x1 x5 x6 x8 (wrap64 (x10 + 1)))) else (none)) else (some false)
end
def messuagelaw07_ZipWithin.f (k : Nat) (l0 : List Int) (a1 : ByteArray) : Option (Bool) := if (l0.length : Int) > 263144 then (some true) else ((zip_Find.f k l0 a1).bind fun bt327 => ((zip_List.f k l0).bind fun bt330 => (if bt327.2.2 = 0 then (if bt330.2 = 0 then (if (Int.tmod bt327.1 256) = 0 then (if bt327.1 > (IntKind.u64.wrap ((l0.length : Int))) then (messuagelaw07_ZipWithin.j0 k a1 bt327.1 bt327.2.1 bt330.1 true) else (messuagelaw07_ZipWithin.j0 k a1 bt327.1 bt327.2.1 bt330.1 (decide (bt327.2.1 > (IntKind.u64.wrap ((IntKind.u64.wrap ((l0.length : Int))) - bt327.1)))))) else (messuagelaw07_ZipWithin.j0 k a1 bt327.1 bt327.2.1 bt330.1 true)) else (messuagelaw07_ZipWithin.j0 k a1 bt327.1 bt327.2.1 bt330.1 true)) else (if bt327.1 = 0 then (if bt327.2.1 = 0 then (if bt330.2 = 0 then ((messuagelaw07_alive.f k).bind fun t334 => (some t334)) else (if bt327.2.2 = bt330.2 then ((messuagelaw07_alive.f k).bind fun t335 => (some t335)) else (some false))) else (some false)) else (some false)))))
theorem messuagelaw07_ZipWithin.mono_l : ∀ k, (∀ y0 y1 y2 y3 y4, LeO (messuagelaw07_ZipWithin.j0 k y0 y1 y2 y3 y4) (messuagelaw07_ZipWithin.j0 (k + 1) y0 y1 y2 y3 y4)) ∧ (∀ y0 y1 y2 y3 y4, LeO (messuagelaw07_ZipWithin.l0 k y0 y1 y2 y3 y4) (messuagelaw07_ZipWithin.l0 (k + 1) y0 y1 y2 y3 y4))
  | 0 => ⟨fun _ _ _ _ _ r h => by simp [messuagelaw07_ZipWithin.j0] at h, fun _ _ _ _ _ r h => by simp [messuagelaw07_ZipWithin.l0] at h⟩
  | k + 1 => by
    obtain ⟨ih0, ih1⟩ := messuagelaw07_ZipWithin.mono_l k
    refine ⟨?_, ?_⟩
    · intro y0 y1 y2 y3 y4
      unfold messuagelaw07_ZipWithin.j0
      repeat' first
      | (with_reducible exact ih0 _ _ _ _ _)
      | (with_reducible exact ih1 _ _ _ _ _)
      | (with_reducible exact messuagelaw07_alive.mono _)
      | (with_reducible exact zip_Find.mono _ _ _)
      | (with_reducible exact zip_List.mono _ _)
      | (with_reducible exact LeO.refl _)
      | (with_reducible exact LeO.none _)
      | (with_reducible refine LeO.ite ?_ ?_)
      | (with_reducible refine LeO.bind ?_ (fun _ => ?_))
      | exact ih0 _ _ _ _ _
      | exact ih1 _ _ _ _ _
      | exact messuagelaw07_alive.mono _
      | exact zip_Find.mono _ _ _
      | exact zip_List.mono _ _
      | exact LeO.none _
      | refine LeO.ite ?_ ?_
      | refine LeO.bind ?_ (fun _ => ?_)
    · intro y0 y1 y2 y3 y4
      unfold messuagelaw07_ZipWithin.l0
      repeat' first
      | (with_reducible exact ih0 _ _ _ _ _)
      | (with_reducible exact ih1 _ _ _ _ _)
      | (with_reducible exact messuagelaw07_alive.mono _)
      | (with_reducible exact zip_Find.mono _ _ _)
      | (with_reducible exact zip_List.mono _ _)
      | (with_reducible exact LeO.refl _)
      | (with_reducible exact LeO.none _)
      | (with_reducible refine LeO.ite ?_ ?_)
      | (with_reducible refine LeO.bind ?_ (fun _ => ?_))
      | exact ih0 _ _ _ _ _
      | exact ih1 _ _ _ _ _
      | exact messuagelaw07_alive.mono _
      | exact zip_Find.mono _ _ _
      | exact zip_List.mono _ _
      | exact LeO.none _
      | refine LeO.ite ?_ ?_
      | refine LeO.bind ?_ (fun _ => ?_)
theorem messuagelaw07_ZipWithin.mono : ∀ a0 a1 k, LeO (messuagelaw07_ZipWithin.f k a0 a1) (messuagelaw07_ZipWithin.f (k + 1) a0 a1) := by
  intro a0 a1 k
  obtain ⟨ih0, ih1⟩ := messuagelaw07_ZipWithin.mono_l k
  unfold messuagelaw07_ZipWithin.f
  repeat' first
      | (with_reducible exact ih0 _ _ _ _ _)
      | (with_reducible exact ih1 _ _ _ _ _)
      | (with_reducible exact messuagelaw07_alive.mono _)
      | (with_reducible exact zip_Find.mono _ _ _)
      | (with_reducible exact zip_List.mono _ _)
      | (with_reducible exact LeO.refl _)
      | (with_reducible exact LeO.none _)
      | (with_reducible refine LeO.ite ?_ ?_)
      | (with_reducible refine LeO.bind ?_ (fun _ => ?_))
      | exact ih0 _ _ _ _ _
      | exact ih1 _ _ _ _ _
      | exact messuagelaw07_alive.mono _
      | exact zip_Find.mono _ _ _
      | exact zip_List.mono _ _
      | exact LeO.none _
      | refine LeO.ite ?_ ?_
      | refine LeO.bind ?_ (fun _ => ?_)
set_option maxHeartbeats 8000000 in
set_option maxRecDepth 100000 in
theorem messuagelaw07_ZipWithin.calls (k : Nat) (A0 : Option Addr) (c0 : Nat) (l0 : List Int) (a1 : ByteArray) (r : Bool) (w : World) (hr0 : Kd.C (Kd.int .u8) w A0 l0.length l0) (hc0 : l0.length ≤ c0) (h : messuagelaw07_ZipWithin.f k l0 a1 = some r) :
    Calls Try.prog 7 #[.slice A0 l0.length c0, .string a1] w fun e w' => e = .returned (.bool r) ∧ Below w.heap.size w w' := by
  have HR0 := Aside0.mk hr0
  have HC0 := Aside0.mk hc0
  clear hr0 hc0
  have HB := Aside0.mk (Below.refl w.heap.size w)
  have H : (if (l0.length : Int) > 263144 then (some true) else ((zip_Find.f k l0 a1).bind fun bt327 => ((zip_List.f k l0).bind fun bt330 => (if bt327.2.2 = 0 then (if bt330.2 = 0 then (if (Int.tmod bt327.1 256) = 0 then (if bt327.1 > (IntKind.u64.wrap ((l0.length : Int))) then (messuagelaw07_ZipWithin.j0 k a1 bt327.1 bt327.2.1 bt330.1 true) else (messuagelaw07_ZipWithin.j0 k a1 bt327.1 bt327.2.1 bt330.1 (decide (bt327.2.1 > (IntKind.u64.wrap ((IntKind.u64.wrap ((l0.length : Int))) - bt327.1)))))) else (messuagelaw07_ZipWithin.j0 k a1 bt327.1 bt327.2.1 bt330.1 true)) else (messuagelaw07_ZipWithin.j0 k a1 bt327.1 bt327.2.1 bt330.1 true)) else (if bt327.1 = 0 then (if bt327.2.1 = 0 then (if bt330.2 = 0 then ((messuagelaw07_alive.f k).bind fun t334 => (some t334)) else (if bt327.2.2 = bt330.2 then ((messuagelaw07_alive.f k).bind fun t335 => (some t335)) else (some false))) else (some false)) else (some false)))))) = some r := h
  clear h
  by_cases c3 : (l0.length : Int) > 263144
  · rw [if_pos c3] at H
    have c3b0 : decide (263144 < (l0.length : Int)) = true := decide_eq_true c3
    have c3b1 : decide (263144 < l0.length) = true := decide_eq_true (by omega)
    clear c3
    obtain rfl := Option.some.inj H
    go_enter Try.func7, Try.ntmps7
    go_wp2
    go_ret
    exact ⟨by first | rfl | (simp [errW_none, errW_some] <;> rfl) | (simp [*, errW_none, errW_some] <;> rfl), by repeat (first | (with_reducible first | exact HB.out | apply below_alloc | apply pw_below_drewN | apply below_drew1) | exact HB.out)⟩
  · rw [if_neg c3] at H
    have c3b0 : decide (263144 < (l0.length : Int)) = false := decide_eq_false c3
    have c3b1 : decide (263144 < l0.length) = false := decide_eq_false (by omega)
    clear c3
    replace H := Option.bind_eq_some_iff.mp H
    obtain ⟨⟨t327, t328, t329⟩, A40, H⟩ := H
    replace H : ((zip_List.f k l0).bind fun bt330 => (if t329 = 0 then (if bt330.2 = 0 then (if (Int.tmod t327 256) = 0 then (if t327 > (IntKind.u64.wrap ((l0.length : Int))) then (messuagelaw07_ZipWithin.j0 k a1 t327 t328 bt330.1 true) else (messuagelaw07_ZipWithin.j0 k a1 t327 t328 bt330.1 (decide (t328 > (IntKind.u64.wrap ((IntKind.u64.wrap ((l0.length : Int))) - t327)))))) else (messuagelaw07_ZipWithin.j0 k a1 t327 t328 bt330.1 true)) else (messuagelaw07_ZipWithin.j0 k a1 t327 t328 bt330.1 true)) else (if t327 = 0 then (if t328 = 0 then (if bt330.2 = 0 then ((messuagelaw07_alive.f k).bind fun t334 => (some t334)) else (if t329 = bt330.2 then ((messuagelaw07_alive.f k).bind fun t335 => (some t335)) else (some false))) else (some false)) else (some false)))) = some r := H
    have A4 := Aside0.mk A40
    clear A40
    replace H := Option.bind_eq_some_iff.mp H
    obtain ⟨⟨t330, t331⟩, A50, H⟩ := H
    replace H : (if t329 = 0 then (if t331 = 0 then (if (Int.tmod t327 256) = 0 then (if t327 > (IntKind.u64.wrap ((l0.length : Int))) then (messuagelaw07_ZipWithin.j0 k a1 t327 t328 t330 true) else (messuagelaw07_ZipWithin.j0 k a1 t327 t328 t330 (decide (t328 > (IntKind.u64.wrap ((IntKind.u64.wrap ((l0.length : Int))) - t327)))))) else (messuagelaw07_ZipWithin.j0 k a1 t327 t328 t330 true)) else (messuagelaw07_ZipWithin.j0 k a1 t327 t328 t330 true)) else (if t327 = 0 then (if t328 = 0 then (if t331 = 0 then ((messuagelaw07_alive.f k).bind fun t334 => (some t334)) else (if t329 = t331 then ((messuagelaw07_alive.f k).bind fun t335 => (some t335)) else (some false))) else (some false)) else (some false))) = some r := H
    have A5 := Aside0.mk A50
    clear A50
    by_cases c6 : t329 = 0
    · rw [if_pos c6] at H
      have c6b0 : (t329 == 0) = true := beq_iff_eq.mpr c6
      have c6b1 : (t329 != 0) = false := bne_eq_false_iff_eq.mpr c6
      clear c6
      have HC7 := Aside0.mk H
      clear H
      go_enter Try.func7, Try.ntmps7
      go_upto_region 7 with (first | ((with_reducible refine gate_callee (f := 12) rfl ?_); refine goesL_ (some 17) rfl rfl Try.func12 (by kernel_rfl) rfl #[.slice A0 l0.length c0, .string a1] rfl (by (try simp only [List.map_toArray, List.map_cons, List.map_nil]); first | done | rfl | (simp only [List.length_drop, List.length_take]; rfl)) ?_; (with_reducible refine (zip_Find.calls k _ _ l0 a1 t327 t328 t329 _ ?side1 ?side2 A4.out).mono ?_); (case side1 => repeat (first | exact HR0.out | (with_reducible refine Kd.C_alloc ?_ _) | (with_reducible refine Kd.C_drewN ?_ _) | (with_reducible refine Kd.C_drew ?_))); (case side2 => exact HC0.out); rintro e w8 ⟨rfl, hb⟩; refine ⟨_, rfl, ?_⟩; have n0_ := Aside0.mk (below_step (by repeat (first | (with_reducible first | exact HB.out | apply below_alloc | apply pw_below_drewN | apply below_drew1) | exact HB.out)) hb); clear HB; have HB := n0_; clear n0_; (try clear hb); (try clear hb2); (try clear hk); (try clear hi)) | ((with_reducible refine gate_callee (f := 9) rfl ?_); refine goesL_ (some 23) rfl rfl Try.func9 (by kernel_rfl) rfl #[.slice A0 l0.length c0] rfl (by (try simp only [List.map_toArray, List.map_cons, List.map_nil]); first | done | rfl | (simp only [List.length_drop, List.length_take]; rfl)) ?_; (with_reducible refine (zip_List.calls k _ _ l0 t330 t331 _ ?side1 ?side2 A5.out).mono ?_); (case side1 => repeat (first | exact (Kd.C_below HR0.out HB.out) | (with_reducible refine Kd.C_alloc ?_ _) | (with_reducible refine Kd.C_drewN ?_ _) | (with_reducible refine Kd.C_drew ?_))); (case side2 => exact HC0.out); rintro e w9 ⟨v332, rfl, ho0, hb⟩; refine ⟨_, rfl, ?_⟩; have n0_ := Aside0.mk (Kd.R_lower ho0 (below_size (by repeat (first | (with_reducible first | exact HB.out | apply below_alloc | apply pw_below_drewN | apply below_drew1) | exact HB.out)))); have n1_ := Aside0.mk (below_step (by repeat (first | (with_reducible first | exact HB.out | apply below_alloc | apply pw_below_drewN | apply below_drew1) | exact HB.out)) hb); clear HB; have HO333 := n0_; have HB := n1_; clear n0_ n1_; (try clear hb); (try clear hb2); (try clear hk); (try clear hi); (try clear ho0)))
      (try simp only [Act.put, List.setIfInBounds_toArray, List.set_cons_zero, List.set_cons_succ])
      go_cut [68] (fun v68 wc => ∃ (kq : Nat) (x68_6 : Bool), v68 = .bool x68_6 ∧ Aside0 (messuagelaw07_ZipWithin.j0 kq a1 t327 t328 t330 x68_6 = some r) ∧ Aside0 (kq ≤ k) ∧ Aside0 (Kd.R k32 32 wc w.heap.size (fun _ => True) v332 t330) ∧ Aside0 (Below w.heap.size w wc))
      case first =>
        have H := HC7.out
        clear HC7
        by_cases c10 : t331 = 0
        · rw [if_pos c10] at H
          have c10b0 : (t331 == 0) = true := beq_iff_eq.mpr c10
          have c10b1 : (t331 != 0) = false := bne_eq_false_iff_eq.mpr c10
          clear c10
          (first | rw [c10b0] | (simp only [i64_w, i32_w]; rw [c10b0]) | skip)
          by_cases c11 : (Int.tmod t327 256) = 0
          · rw [if_pos c11] at H
            have c11b0 : ((Int.tmod t327 256) == 0) = true := beq_iff_eq.mpr c11
            have c11b1 : ((Int.tmod t327 256) != 0) = false := bne_eq_false_iff_eq.mpr c11
            clear c11
            by_cases c12 : t327 > (IntKind.u64.wrap ((l0.length : Int)))
            · rw [if_pos c12] at H
              have c12b0 : decide ((IntKind.u64.wrap ((l0.length : Int))) < t327) = true := decide_eq_true c12
              clear c12
              have H' := Aside0.mk H
              clear H
              go_wp2
              go_meet
              case rel => exact ⟨_, (true), (by first | rfl | (simp; done) | (simp [*]; done)), H', ⟨by first | omega | exact Nat.le_refl _⟩, ⟨by (with_reducible repeat (first | apply Kd.R_alloc | apply Kd.R_drewN | apply Kd.R_drew)); exact HO333.out⟩, ⟨by repeat (first | (with_reducible first | exact HB.out | apply below_alloc | apply pw_below_drewN | apply below_drew1) | exact HB.out)⟩⟩
            · rw [if_neg c12] at H
              have c12b0 : decide ((IntKind.u64.wrap ((l0.length : Int))) < t327) = false := decide_eq_false c12
              clear c12
              have H' := Aside0.mk H
              clear H
              go_wp2
              go_meet
              case rel => exact ⟨_, (decide (t328 > (IntKind.u64.wrap ((IntKind.u64.wrap ((l0.length : Int))) - t327)))), (by first | rfl | (simp; done) | (simp [*]; done)), H', ⟨by first | omega | exact Nat.le_refl _⟩, ⟨by (with_reducible repeat (first | apply Kd.R_alloc | apply Kd.R_drewN | apply Kd.R_drew)); exact HO333.out⟩, ⟨by repeat (first | (with_reducible first | exact HB.out | apply below_alloc | apply pw_below_drewN | apply below_drew1) | exact HB.out)⟩⟩
          · rw [if_neg c11] at H
            have c11b0 : ((Int.tmod t327 256) == 0) = false := beq_eq_false_iff_ne.mpr c11
            have c11b1 : ((Int.tmod t327 256) != 0) = true := bne_iff_ne.mpr c11
            have H' := Aside0.mk H
            clear H
            go_wp2
            go_meet
            case rel => exact ⟨_, (true), (by first | rfl | (simp; done) | (simp [*]; done)), H', ⟨by first | omega | exact Nat.le_refl _⟩, ⟨by (with_reducible repeat (first | apply Kd.R_alloc | apply Kd.R_drewN | apply Kd.R_drew)); exact HO333.out⟩, ⟨by repeat (first | (with_reducible first | exact HB.out | apply below_alloc | apply pw_below_drewN | apply below_drew1) | exact HB.out)⟩⟩
        · rw [if_neg c10] at H
          have c10b0 : (t331 == 0) = false := beq_eq_false_iff_ne.mpr c10
          have c10b1 : (t331 != 0) = true := bne_iff_ne.mpr c10
          (first | rw [c10b0] | (simp only [i64_w, i32_w]; rw [c10b0]) | skip)
          have H' := Aside0.mk H
          clear H
          go_wp2
          go_meet
          case rel => exact ⟨_, (true), (by first | rfl | (simp; done) | (simp [*]; done)), H', ⟨by first | omega | exact Nat.le_refl _⟩, ⟨by (with_reducible repeat (first | apply Kd.R_alloc | apply Kd.R_drewN | apply Kd.R_drew)); exact HO333.out⟩, ⟨by repeat (first | (with_reducible first | exact HB.out | apply below_alloc | apply pw_below_drewN | apply below_drew1) | exact HB.out)⟩⟩
      case rest =>
        clear HC7
        try clear c1
        try clear p2
        try clear c3
        try clear c3b0
        try clear c3b1
        try clear c6
        try clear c6b0
        try clear c6b1
        try clear c7
        try clear c9
        try clear c10
        try clear c10b0
        try clear c10b1
        try clear c11
        try clear c11b0
        try clear c11b1
        try clear c12
        try clear c12b0
        obtain ⟨kq, x68_6, rfl, HA, HJ6, HO_8, HB⟩ := hcut
        cases kq with
        | zero => exact absurd HA.out (by simp [messuagelaw07_ZipWithin.j0])
        | succ kj6 =>
          have H := HA.out
          clear HA
          simp only [messuagelaw07_ZipWithin.j0] at H
          by_cases c13 : x68_6 = true
          · subst c13
            have H1 : (some false) = some r := by rw [if_pos rfl] at H; exact H
            clear H
            have H := H1
            clear H1
            obtain rfl := Option.some.inj H
            go_wp2
            go_ret
            exact ⟨by first | rfl | (simp [errW_none, errW_some] <;> rfl) | (simp [*, errW_none, errW_some] <;> rfl), by repeat (first | (with_reducible first | exact HB.out | apply below_alloc | apply pw_below_drewN | apply below_drew1) | exact HB.out)⟩
          · replace c13 := Bool.eq_false_iff.mpr c13
            subst c13
            have H1 : (messuagelaw07_ZipWithin.l0 kj6 a1 t327 t328 t330 0) = some r := by rw [if_neg (show ¬ (false = true) by decide)] at H; exact H
            clear H
            have H := H1
            clear H1
            have H' := Aside0.mk H
            clear H
            go_wp2
            go_loopg [10] kj6 (fun kq v10 w' => ∃ (x10_2 : Int), v10 = .int .i64 x10_2 ∧ Aside0 (messuagelaw07_ZipWithin.l0 kq a1 t327 t328 t330 x10_2 = some r) ∧ Aside0 (kq ≤ kj6) ∧ Aside0 (Kd.R k32 32 w' w.heap.size (fun _ => True) v332 t330) ∧ Aside0 (Below w.heap.size w w'))
            case atStart => exact ⟨(0), (by first | rfl | (simp; done) | (simp [*]; done)), H', ⟨Nat.le_refl _⟩, ⟨by (with_reducible repeat (first | apply Kd.R_alloc | apply Kd.R_drewN | apply Kd.R_drew)); exact HO_8.out⟩, ⟨by repeat (first | (with_reducible first | exact HB.out | apply below_alloc | apply pw_below_drewN | apply below_drew1) | exact HB.out)⟩⟩
            case round =>
              clear H'
              try clear c1
              try clear p2
              try clear c3
              try clear c3b0
              try clear c3b1
              try clear c6
              try clear c6b0
              try clear c6b1
              try clear c7
              try clear c9
              try clear c10
              try clear c10b0
              try clear c10b1
              try clear c11
              try clear c11b0
              try clear c11b1
              try clear c12
              try clear c12b0
              try clear c13
              try clear p2
              obtain ⟨x10_2, rfl, HA, HK2, HO_8, HB⟩ := hrel
              cases gk with
              | zero => exact absurd HA.out (by simp [messuagelaw07_ZipWithin.l0])
              | succ k2 =>
                have H := HA.out
                clear HA
                simp only [messuagelaw07_ZipWithin.l0] at H
                by_cases c14 : x10_2 < (t330.length : Int)
                · rw [if_pos c14] at H
                  have c14b0 : decide (x10_2 < (t330.length : Int)) = true := decide_eq_true c14
                  clear c14
                  by_cases c15 : 0 ≤ x10_2
                  · rw [if_pos c15] at H
                    have c15b0 : decide (0 ≤ x10_2) = true := decide_eq_true c15
                    clear c15
                    by_cases c16 : ((rd_T32 t330 x10_2).f0).toList = a1.toList
                    · rw [if_pos c16] at H
                      have c16b0 : (((rd_T32 t330 x10_2).f0).toList == a1.toList) = true := beq_iff_eq.mpr c16
                      have c16b1 : (((rd_T32 t330 x10_2).f0).toList != a1.toList) = false := bne_eq_false_iff_eq.mpr c16
                      clear c16
                      by_cases c17 : ((rd_T32 t330 x10_2).f1) = 0
                      · rw [if_pos c17] at H
                        have c17b0 : (((rd_T32 t330 x10_2).f1) == 0) = true := beq_iff_eq.mpr c17
                        have c17b1 : (((rd_T32 t330 x10_2).f1) != 0) = false := bne_eq_false_iff_eq.mpr c17
                        clear c17
                        by_cases c18 : ((rd_T32 t330 x10_2).f2) = t328
                        · rw [if_pos c18] at H
                          have c18b0 : (((rd_T32 t330 x10_2).f2) == t328) = true := beq_iff_eq.mpr c18
                          have c18b1 : (((rd_T32 t330 x10_2).f2) != t328) = false := bne_eq_false_iff_eq.mpr c18
                          clear c18
                          by_cases c19 : ((rd_T32 t330 x10_2).f4) < t327
                          · rw [if_pos c19] at H
                            have c19b0 : decide (((rd_T32 t330 x10_2).f4) < t327) = true := decide_eq_true c19
                            clear c19
                            replace H := Option.bind_eq_some_iff.mp H
                            obtain ⟨t340, A200, H⟩ := H
                            replace H : (some t340) = some r := H
                            have A20 := Aside0.mk A200
                            clear A200
                            obtain rfl := Option.some.inj H
                            obtain ⟨Ao21, co21, eo21⟩ := Kd.R_slice HO_8.out
                            subst eo21
                            have p336 : 0 ≤ (x10_2 : Int) := of_decide_eq_true (by first | (with_reducible assumption) | assumption)
                            have q336 : x10_2 < (t330.length : Int) := of_decide_eq_true (by first | (with_reducible assumption) | assumption)
                            obtain ⟨ad336, e336, hx336_0, hx336_1, hx336_2, hx336_3, hx336_4⟩ := at_T32 (Kd.R_reads' HO_8.out).2.2 x10_2 p336 q336
                            cases e336
                            replace p336 := eq_true p336
                            replace q336 := eq_true q336
                            have p337 : 0 ≤ (x10_2 : Int) := of_decide_eq_true (by first | (with_reducible assumption) | assumption)
                            have q337 : x10_2 < (t330.length : Int) := of_decide_eq_true (by first | (with_reducible assumption) | assumption)
                            obtain ⟨ad337, e337, hx337_0, hx337_1, hx337_2, hx337_3, hx337_4⟩ := at_T32 (Kd.R_reads' HO_8.out).2.2 x10_2 p337 q337
                            obtain rfl : ad336 = ad337 := (by injection e337)
                            replace p337 := eq_true p337
                            replace q337 := eq_true q337
                            have p338 : 0 ≤ (x10_2 : Int) := of_decide_eq_true (by first | (with_reducible assumption) | assumption)
                            have q338 : x10_2 < (t330.length : Int) := of_decide_eq_true (by first | (with_reducible assumption) | assumption)
                            obtain ⟨ad338, e338, hx338_0, hx338_1, hx338_2, hx338_3, hx338_4⟩ := at_T32 (Kd.R_reads' HO_8.out).2.2 x10_2 p338 q338
                            obtain rfl : ad336 = ad338 := (by injection e338)
                            replace p338 := eq_true p338
                            replace q338 := eq_true q338
                            have p339 : 0 ≤ (x10_2 : Int) := of_decide_eq_true (by first | (with_reducible assumption) | assumption)
                            have q339 : x10_2 < (t330.length : Int) := of_decide_eq_true (by first | (with_reducible assumption) | assumption)
                            obtain ⟨ad339, e339, hx339_0, hx339_1, hx339_2, hx339_3, hx339_4⟩ := at_T32 (Kd.R_reads' HO_8.out).2.2 x10_2 p339 q339
                            obtain rfl : ad336 = ad339 := (by injection e339)
                            replace p339 := eq_true p339
                            replace q339 := eq_true q339
                            go_wp2_with (first | (go_at_call 11; (with_reducible refine (messuagelaw07_alive.calls k2  t340 _ A20.out).mono ?_); rintro e w22 ⟨rfl, hb⟩; have n0_ := Aside0.mk (Kd.R_below (by (with_reducible repeat (first | apply Kd.R_alloc | apply Kd.R_drewN | apply Kd.R_drew)); exact HO_8.out) hb); have n1_ := Aside0.mk (below_step (by repeat (first | (with_reducible first | exact HB.out | apply below_alloc | apply pw_below_drewN | apply below_drew1) | exact HB.out)) hb); clear HO_8; clear HB; have HO_8 := n0_; have HB := n1_; clear n0_ n1_; (try clear hb); (try clear hb2); (try clear hk); (try clear hi)))
                            go_ret
                            exact ⟨by first | rfl | (simp [errW_none, errW_some] <;> rfl) | (simp [*, errW_none, errW_some] <;> rfl), by repeat (first | (with_reducible first | exact HB.out | apply below_alloc | apply pw_below_drewN | apply below_drew1) | exact HB.out)⟩
                          · rw [if_neg c19] at H
                            have c19b0 : decide (((rd_T32 t330 x10_2).f4) < t327) = false := decide_eq_false c19
                            clear c19
                            obtain rfl := Option.some.inj H
                            obtain ⟨Ao23, co23, eo23⟩ := Kd.R_slice HO_8.out
                            subst eo23
                            have p336 : 0 ≤ (x10_2 : Int) := of_decide_eq_true (by first | (with_reducible assumption) | assumption)
                            have q336 : x10_2 < (t330.length : Int) := of_decide_eq_true (by first | (with_reducible assumption) | assumption)
                            obtain ⟨ad336, e336, hx336_0, hx336_1, hx336_2, hx336_3, hx336_4⟩ := at_T32 (Kd.R_reads' HO_8.out).2.2 x10_2 p336 q336
                            cases e336
                            replace p336 := eq_true p336
                            replace q336 := eq_true q336
                            have p337 : 0 ≤ (x10_2 : Int) := of_decide_eq_true (by first | (with_reducible assumption) | assumption)
                            have q337 : x10_2 < (t330.length : Int) := of_decide_eq_true (by first | (with_reducible assumption) | assumption)
                            obtain ⟨ad337, e337, hx337_0, hx337_1, hx337_2, hx337_3, hx337_4⟩ := at_T32 (Kd.R_reads' HO_8.out).2.2 x10_2 p337 q337
                            obtain rfl : ad336 = ad337 := (by injection e337)
                            replace p337 := eq_true p337
                            replace q337 := eq_true q337
                            have p338 : 0 ≤ (x10_2 : Int) := of_decide_eq_true (by first | (with_reducible assumption) | assumption)
                            have q338 : x10_2 < (t330.length : Int) := of_decide_eq_true (by first | (with_reducible assumption) | assumption)
                            obtain ⟨ad338, e338, hx338_0, hx338_1, hx338_2, hx338_3, hx338_4⟩ := at_T32 (Kd.R_reads' HO_8.out).2.2 x10_2 p338 q338
                            obtain rfl : ad336 = ad338 := (by injection e338)
                            replace p338 := eq_true p338
                            replace q338 := eq_true q338
                            have p339 : 0 ≤ (x10_2 : Int) := of_decide_eq_true (by first | (with_reducible assumption) | assumption)
                            have q339 : x10_2 < (t330.length : Int) := of_decide_eq_true (by first | (with_reducible assumption) | assumption)
                            obtain ⟨ad339, e339, hx339_0, hx339_1, hx339_2, hx339_3, hx339_4⟩ := at_T32 (Kd.R_reads' HO_8.out).2.2 x10_2 p339 q339
                            obtain rfl : ad336 = ad339 := (by injection e339)
                            replace p339 := eq_true p339
                            replace q339 := eq_true q339
                            go_wp2
                            go_ret
                            exact ⟨by first | rfl | (simp [errW_none, errW_some] <;> rfl) | (simp [*, errW_none, errW_some] <;> rfl), by repeat (first | (with_reducible first | exact HB.out | apply below_alloc | apply pw_below_drewN | apply below_drew1) | exact HB.out)⟩
                        · rw [if_neg c18] at H
                          have c18b0 : (((rd_T32 t330 x10_2).f2) == t328) = false := beq_eq_false_iff_ne.mpr c18
                          have c18b1 : (((rd_T32 t330 x10_2).f2) != t328) = true := bne_iff_ne.mpr c18
                          obtain rfl := Option.some.inj H
                          obtain ⟨Ao24, co24, eo24⟩ := Kd.R_slice HO_8.out
                          subst eo24
                          have p336 : 0 ≤ (x10_2 : Int) := of_decide_eq_true (by first | (with_reducible assumption) | assumption)
                          have q336 : x10_2 < (t330.length : Int) := of_decide_eq_true (by first | (with_reducible assumption) | assumption)
                          obtain ⟨ad336, e336, hx336_0, hx336_1, hx336_2, hx336_3, hx336_4⟩ := at_T32 (Kd.R_reads' HO_8.out).2.2 x10_2 p336 q336
                          cases e336
                          replace p336 := eq_true p336
                          replace q336 := eq_true q336
                          have p337 : 0 ≤ (x10_2 : Int) := of_decide_eq_true (by first | (with_reducible assumption) | assumption)
                          have q337 : x10_2 < (t330.length : Int) := of_decide_eq_true (by first | (with_reducible assumption) | assumption)
                          obtain ⟨ad337, e337, hx337_0, hx337_1, hx337_2, hx337_3, hx337_4⟩ := at_T32 (Kd.R_reads' HO_8.out).2.2 x10_2 p337 q337
                          obtain rfl : ad336 = ad337 := (by injection e337)
                          replace p337 := eq_true p337
                          replace q337 := eq_true q337
                          have p338 : 0 ≤ (x10_2 : Int) := of_decide_eq_true (by first | (with_reducible assumption) | assumption)
                          have q338 : x10_2 < (t330.length : Int) := of_decide_eq_true (by first | (with_reducible assumption) | assumption)
                          obtain ⟨ad338, e338, hx338_0, hx338_1, hx338_2, hx338_3, hx338_4⟩ := at_T32 (Kd.R_reads' HO_8.out).2.2 x10_2 p338 q338
                          obtain rfl : ad336 = ad338 := (by injection e338)
                          replace p338 := eq_true p338
                          replace q338 := eq_true q338
                          go_wp2
                          go_ret
                          exact ⟨by first | rfl | (simp [errW_none, errW_some] <;> rfl) | (simp [*, errW_none, errW_some] <;> rfl), by repeat (first | (with_reducible first | exact HB.out | apply below_alloc | apply pw_below_drewN | apply below_drew1) | exact HB.out)⟩
                      · rw [if_neg c17] at H
                        have c17b0 : (((rd_T32 t330 x10_2).f1) == 0) = false := beq_eq_false_iff_ne.mpr c17
                        have c17b1 : (((rd_T32 t330 x10_2).f1) != 0) = true := bne_iff_ne.mpr c17
                        obtain rfl := Option.some.inj H
                        obtain ⟨Ao25, co25, eo25⟩ := Kd.R_slice HO_8.out
                        subst eo25
                        have p336 : 0 ≤ (x10_2 : Int) := of_decide_eq_true (by first | (with_reducible assumption) | assumption)
                        have q336 : x10_2 < (t330.length : Int) := of_decide_eq_true (by first | (with_reducible assumption) | assumption)
                        obtain ⟨ad336, e336, hx336_0, hx336_1, hx336_2, hx336_3, hx336_4⟩ := at_T32 (Kd.R_reads' HO_8.out).2.2 x10_2 p336 q336
                        cases e336
                        replace p336 := eq_true p336
                        replace q336 := eq_true q336
                        have p337 : 0 ≤ (x10_2 : Int) := of_decide_eq_true (by first | (with_reducible assumption) | assumption)
                        have q337 : x10_2 < (t330.length : Int) := of_decide_eq_true (by first | (with_reducible assumption) | assumption)
                        obtain ⟨ad337, e337, hx337_0, hx337_1, hx337_2, hx337_3, hx337_4⟩ := at_T32 (Kd.R_reads' HO_8.out).2.2 x10_2 p337 q337
                        obtain rfl : ad336 = ad337 := (by injection e337)
                        replace p337 := eq_true p337
                        replace q337 := eq_true q337
                        go_wp2
                        go_ret
                        exact ⟨by first | rfl | (simp [errW_none, errW_some] <;> rfl) | (simp [*, errW_none, errW_some] <;> rfl), by repeat (first | (with_reducible first | exact HB.out | apply below_alloc | apply pw_below_drewN | apply below_drew1) | exact HB.out)⟩
                    · rw [if_neg c16] at H
                      have c16b0 : (((rd_T32 t330 x10_2).f0).toList == a1.toList) = false := beq_eq_false_iff_ne.mpr c16
                      have c16b1 : (((rd_T32 t330 x10_2).f0).toList != a1.toList) = true := bne_iff_ne.mpr c16
                      have H' := Aside0.mk H
                      clear H
                      obtain ⟨Ao26, co26, eo26⟩ := Kd.R_slice HO_8.out
                      subst eo26
                      have p336 : 0 ≤ (x10_2 : Int) := of_decide_eq_true (by first | (with_reducible assumption) | assumption)
                      have q336 : x10_2 < (t330.length : Int) := of_decide_eq_true (by first | (with_reducible assumption) | assumption)
                      obtain ⟨ad336, e336, hx336_0, hx336_1, hx336_2, hx336_3, hx336_4⟩ := at_T32 (Kd.R_reads' HO_8.out).2.2 x10_2 p336 q336
                      cases e336
                      replace p336 := eq_true p336
                      replace q336 := eq_true q336
                      go_wp2
                      go_roundg k2
                      case measure => have := HJ6.out; have := HK2.out; omega
                      case rel => exact ⟨(wrap64 (x10_2 + 1)), (by first | rfl | (simp; done) | (simp [*]; done)), H', ⟨by have := HJ6.out; have := HK2.out; omega⟩, ⟨by (with_reducible repeat (first | apply Kd.R_alloc | apply Kd.R_drewN | apply Kd.R_drew)); exact HO_8.out⟩, ⟨by repeat (first | (with_reducible first | exact HB.out | apply below_alloc | apply pw_below_drewN | apply below_drew1) | exact HB.out)⟩⟩
                  · rw [if_neg c15] at H
                    exact absurd H (by simp)
                · rw [if_neg c14] at H
                  have c14b0 : decide (x10_2 < (t330.length : Int)) = false := decide_eq_false c14
                  clear c14
                  obtain rfl := Option.some.inj H
                  obtain ⟨Ao27, co27, eo27⟩ := Kd.R_slice HO_8.out
                  subst eo27
                  go_wp2
                  go_ret
                  exact ⟨by first | rfl | (simp [errW_none, errW_some] <;> rfl) | (simp [*, errW_none, errW_some] <;> rfl), by repeat (first | (with_reducible first | exact HB.out | apply below_alloc | apply pw_below_drewN | apply below_drew1) | exact HB.out)⟩
    · rw [if_neg c6] at H
      have c6b0 : (t329 == 0) = false := beq_eq_false_iff_ne.mpr c6
      have c6b1 : (t329 != 0) = true := bne_iff_ne.mpr c6
      by_cases c28 : t327 = 0
      · rw [if_pos c28] at H
        have c28b0 : (t327 == 0) = true := beq_iff_eq.mpr c28
        have c28b1 : (t327 != 0) = false := bne_eq_false_iff_eq.mpr c28
        clear c28
        by_cases c29 : t328 = 0
        · rw [if_pos c29] at H
          have c29b0 : (t328 == 0) = true := beq_iff_eq.mpr c29
          have c29b1 : (t328 != 0) = false := bne_eq_false_iff_eq.mpr c29
          clear c29
          by_cases c30 : t331 = 0
          · rw [if_pos c30] at H
            have c30b0 : (t331 == 0) = true := beq_iff_eq.mpr c30
            have c30b1 : (t331 != 0) = false := bne_eq_false_iff_eq.mpr c30
            clear c30
            replace H := Option.bind_eq_some_iff.mp H
            obtain ⟨t334, A310, H⟩ := H
            replace H : (some t334) = some r := H
            have A31 := Aside0.mk A310
            clear A310
            obtain rfl := Option.some.inj H
            go_enter Try.func7, Try.ntmps7
            go_wp2_with (first | ((with_reducible refine gate_callee (f := 12) rfl ?_); refine goesL_ (some 17) rfl rfl Try.func12 (by kernel_rfl) rfl #[.slice A0 l0.length c0, .string a1] rfl (by (try simp only [List.map_toArray, List.map_cons, List.map_nil]); first | done | rfl | (simp only [List.length_drop, List.length_take]; rfl)) ?_; (with_reducible refine (zip_Find.calls k _ _ l0 a1 t327 t328 t329 _ ?side1 ?side2 A4.out).mono ?_); (case side1 => repeat (first | exact HR0.out | (with_reducible refine Kd.C_alloc ?_ _) | (with_reducible refine Kd.C_drewN ?_ _) | (with_reducible refine Kd.C_drew ?_))); (case side2 => exact HC0.out); rintro e w32 ⟨rfl, hb⟩; refine ⟨_, rfl, ?_⟩; have n0_ := Aside0.mk (below_step (by repeat (first | (with_reducible first | exact HB.out | apply below_alloc | apply pw_below_drewN | apply below_drew1) | exact HB.out)) hb); clear HB; have HB := n0_; clear n0_; (try clear hb); (try clear hb2); (try clear hk); (try clear hi)) | ((with_reducible refine gate_callee (f := 9) rfl ?_); refine goesL_ (some 23) rfl rfl Try.func9 (by kernel_rfl) rfl #[.slice A0 l0.length c0] rfl (by (try simp only [List.map_toArray, List.map_cons, List.map_nil]); first | done | rfl | (simp only [List.length_drop, List.length_take]; rfl)) ?_; (with_reducible refine (zip_List.calls k _ _ l0 t330 t331 _ ?side1 ?side2 A5.out).mono ?_); (case side1 => repeat (first | exact (Kd.C_below HR0.out HB.out) | (with_reducible refine Kd.C_alloc ?_ _) | (with_reducible refine Kd.C_drewN ?_ _) | (with_reducible refine Kd.C_drew ?_))); (case side2 => exact HC0.out); rintro e w33 ⟨v332, rfl, ho0, hb⟩; refine ⟨_, rfl, ?_⟩; have n0_ := Aside0.mk (Kd.R_lower ho0 (below_size (by repeat (first | (with_reducible first | exact HB.out | apply below_alloc | apply pw_below_drewN | apply below_drew1) | exact HB.out)))); have n1_ := Aside0.mk (below_step (by repeat (first | (with_reducible first | exact HB.out | apply below_alloc | apply pw_below_drewN | apply below_drew1) | exact HB.out)) hb); clear HB; have HO333 := n0_; have HB := n1_; clear n0_ n1_; (try clear hb); (try clear hb2); (try clear hk); (try clear hi); (try clear ho0)) | (go_at_call 11; (with_reducible refine (messuagelaw07_alive.calls k  t334 _ A31.out).mono ?_); rintro e w34 ⟨rfl, hb⟩; have n0_ := Aside0.mk (Kd.R_below (by (with_reducible repeat (first | apply Kd.R_alloc | apply Kd.R_drewN | apply Kd.R_drew)); exact HO333.out) hb); have n1_ := Aside0.mk (below_step (by repeat (first | (with_reducible first | exact HB.out | apply below_alloc | apply pw_below_drewN | apply below_drew1) | exact HB.out)) hb); clear HO333; clear HB; have HO333 := n0_; have HB := n1_; clear n0_ n1_; (try clear hb); (try clear hb2); (try clear hk); (try clear hi)))
            go_ret
            exact ⟨by first | rfl | (simp [errW_none, errW_some] <;> rfl) | (simp [*, errW_none, errW_some] <;> rfl), by repeat (first | (with_reducible first | exact HB.out | apply below_alloc | apply pw_below_drewN | apply below_drew1) | exact HB.out)⟩
          · rw [if_neg c30] at H
            have c30b0 : (t331 == 0) = false := beq_eq_false_iff_ne.mpr c30
            have c30b1 : (t331 != 0) = true := bne_iff_ne.mpr c30
            by_cases c35 : t329 = t331
            · rw [if_pos c35] at H
              have c35b0 : (t329 == t331) = true := beq_iff_eq.mpr c35
              have c35b1 : (t329 != t331) = false := bne_eq_false_iff_eq.mpr c35
              clear c35
              replace H := Option.bind_eq_some_iff.mp H
              obtain ⟨t335, A360, H⟩ := H
              replace H : (some t335) = some r := H
              have A36 := Aside0.mk A360
              clear A360
              obtain rfl := Option.some.inj H
              go_enter Try.func7, Try.ntmps7
              go_wp2_with (first | ((with_reducible refine gate_callee (f := 12) rfl ?_); refine goesL_ (some 17) rfl rfl Try.func12 (by kernel_rfl) rfl #[.slice A0 l0.length c0, .string a1] rfl (by (try simp only [List.map_toArray, List.map_cons, List.map_nil]); first | done | rfl | (simp only [List.length_drop, List.length_take]; rfl)) ?_; (with_reducible refine (zip_Find.calls k _ _ l0 a1 t327 t328 t329 _ ?side1 ?side2 A4.out).mono ?_); (case side1 => repeat (first | exact HR0.out | (with_reducible refine Kd.C_alloc ?_ _) | (with_reducible refine Kd.C_drewN ?_ _) | (with_reducible refine Kd.C_drew ?_))); (case side2 => exact HC0.out); rintro e w37 ⟨rfl, hb⟩; refine ⟨_, rfl, ?_⟩; have n0_ := Aside0.mk (below_step (by repeat (first | (with_reducible first | exact HB.out | apply below_alloc | apply pw_below_drewN | apply below_drew1) | exact HB.out)) hb); clear HB; have HB := n0_; clear n0_; (try clear hb); (try clear hb2); (try clear hk); (try clear hi)) | ((with_reducible refine gate_callee (f := 9) rfl ?_); refine goesL_ (some 23) rfl rfl Try.func9 (by kernel_rfl) rfl #[.slice A0 l0.length c0] rfl (by (try simp only [List.map_toArray, List.map_cons, List.map_nil]); first | done | rfl | (simp only [List.length_drop, List.length_take]; rfl)) ?_; (with_reducible refine (zip_List.calls k _ _ l0 t330 t331 _ ?side1 ?side2 A5.out).mono ?_); (case side1 => repeat (first | exact (Kd.C_below HR0.out HB.out) | (with_reducible refine Kd.C_alloc ?_ _) | (with_reducible refine Kd.C_drewN ?_ _) | (with_reducible refine Kd.C_drew ?_))); (case side2 => exact HC0.out); rintro e w38 ⟨v332, rfl, ho0, hb⟩; refine ⟨_, rfl, ?_⟩; have n0_ := Aside0.mk (Kd.R_lower ho0 (below_size (by repeat (first | (with_reducible first | exact HB.out | apply below_alloc | apply pw_below_drewN | apply below_drew1) | exact HB.out)))); have n1_ := Aside0.mk (below_step (by repeat (first | (with_reducible first | exact HB.out | apply below_alloc | apply pw_below_drewN | apply below_drew1) | exact HB.out)) hb); clear HB; have HO333 := n0_; have HB := n1_; clear n0_ n1_; (try clear hb); (try clear hb2); (try clear hk); (try clear hi); (try clear ho0)) | (go_at_call 11; (with_reducible refine (messuagelaw07_alive.calls k  t335 _ A36.out).mono ?_); rintro e w39 ⟨rfl, hb⟩; have n0_ := Aside0.mk (Kd.R_below (by (with_reducible repeat (first | apply Kd.R_alloc | apply Kd.R_drewN | apply Kd.R_drew)); exact HO333.out) hb); have n1_ := Aside0.mk (below_step (by repeat (first | (with_reducible first | exact HB.out | apply below_alloc | apply pw_below_drewN | apply below_drew1) | exact HB.out)) hb); clear HO333; clear HB; have HO333 := n0_; have HB := n1_; clear n0_ n1_; (try clear hb); (try clear hb2); (try clear hk); (try clear hi)))
              go_ret
              exact ⟨by first | rfl | (simp [errW_none, errW_some] <;> rfl) | (simp [*, errW_none, errW_some] <;> rfl), by repeat (first | (with_reducible first | exact HB.out | apply below_alloc | apply pw_below_drewN | apply below_drew1) | exact HB.out)⟩
            · rw [if_neg c35] at H
              have c35b0 : (t329 == t331) = false := beq_eq_false_iff_ne.mpr c35
              have c35b1 : (t329 != t331) = true := bne_iff_ne.mpr c35
              obtain rfl := Option.some.inj H
              go_enter Try.func7, Try.ntmps7
              go_wp2_with (first | ((with_reducible refine gate_callee (f := 12) rfl ?_); refine goesL_ (some 17) rfl rfl Try.func12 (by kernel_rfl) rfl #[.slice A0 l0.length c0, .string a1] rfl (by (try simp only [List.map_toArray, List.map_cons, List.map_nil]); first | done | rfl | (simp only [List.length_drop, List.length_take]; rfl)) ?_; (with_reducible refine (zip_Find.calls k _ _ l0 a1 t327 t328 t329 _ ?side1 ?side2 A4.out).mono ?_); (case side1 => repeat (first | exact HR0.out | (with_reducible refine Kd.C_alloc ?_ _) | (with_reducible refine Kd.C_drewN ?_ _) | (with_reducible refine Kd.C_drew ?_))); (case side2 => exact HC0.out); rintro e w40 ⟨rfl, hb⟩; refine ⟨_, rfl, ?_⟩; have n0_ := Aside0.mk (below_step (by repeat (first | (with_reducible first | exact HB.out | apply below_alloc | apply pw_below_drewN | apply below_drew1) | exact HB.out)) hb); clear HB; have HB := n0_; clear n0_; (try clear hb); (try clear hb2); (try clear hk); (try clear hi)) | ((with_reducible refine gate_callee (f := 9) rfl ?_); refine goesL_ (some 23) rfl rfl Try.func9 (by kernel_rfl) rfl #[.slice A0 l0.length c0] rfl (by (try simp only [List.map_toArray, List.map_cons, List.map_nil]); first | done | rfl | (simp only [List.length_drop, List.length_take]; rfl)) ?_; (with_reducible refine (zip_List.calls k _ _ l0 t330 t331 _ ?side1 ?side2 A5.out).mono ?_); (case side1 => repeat (first | exact (Kd.C_below HR0.out HB.out) | (with_reducible refine Kd.C_alloc ?_ _) | (with_reducible refine Kd.C_drewN ?_ _) | (with_reducible refine Kd.C_drew ?_))); (case side2 => exact HC0.out); rintro e w41 ⟨v332, rfl, ho0, hb⟩; refine ⟨_, rfl, ?_⟩; have n0_ := Aside0.mk (Kd.R_lower ho0 (below_size (by repeat (first | (with_reducible first | exact HB.out | apply below_alloc | apply pw_below_drewN | apply below_drew1) | exact HB.out)))); have n1_ := Aside0.mk (below_step (by repeat (first | (with_reducible first | exact HB.out | apply below_alloc | apply pw_below_drewN | apply below_drew1) | exact HB.out)) hb); clear HB; have HO333 := n0_; have HB := n1_; clear n0_ n1_; (try clear hb); (try clear hb2); (try clear hk); (try clear hi); (try clear ho0)))
              go_ret
              exact ⟨by first | rfl | (simp [errW_none, errW_some] <;> rfl) | (simp [*, errW_none, errW_some] <;> rfl), by repeat (first | (with_reducible first | exact HB.out | apply below_alloc | apply pw_below_drewN | apply below_drew1) | exact HB.out)⟩
        · rw [if_neg c29] at H
          have c29b0 : (t328 == 0) = false := beq_eq_false_iff_ne.mpr c29
          have c29b1 : (t328 != 0) = true := bne_iff_ne.mpr c29
          obtain rfl := Option.some.inj H
          go_enter Try.func7, Try.ntmps7
          go_wp2_with (first | ((with_reducible refine gate_callee (f := 12) rfl ?_); refine goesL_ (some 17) rfl rfl Try.func12 (by kernel_rfl) rfl #[.slice A0 l0.length c0, .string a1] rfl (by (try simp only [List.map_toArray, List.map_cons, List.map_nil]); first | done | rfl | (simp only [List.length_drop, List.length_take]; rfl)) ?_; (with_reducible refine (zip_Find.calls k _ _ l0 a1 t327 t328 t329 _ ?side1 ?side2 A4.out).mono ?_); (case side1 => repeat (first | exact HR0.out | (with_reducible refine Kd.C_alloc ?_ _) | (with_reducible refine Kd.C_drewN ?_ _) | (with_reducible refine Kd.C_drew ?_))); (case side2 => exact HC0.out); rintro e w42 ⟨rfl, hb⟩; refine ⟨_, rfl, ?_⟩; have n0_ := Aside0.mk (below_step (by repeat (first | (with_reducible first | exact HB.out | apply below_alloc | apply pw_below_drewN | apply below_drew1) | exact HB.out)) hb); clear HB; have HB := n0_; clear n0_; (try clear hb); (try clear hb2); (try clear hk); (try clear hi)) | ((with_reducible refine gate_callee (f := 9) rfl ?_); refine goesL_ (some 23) rfl rfl Try.func9 (by kernel_rfl) rfl #[.slice A0 l0.length c0] rfl (by (try simp only [List.map_toArray, List.map_cons, List.map_nil]); first | done | rfl | (simp only [List.length_drop, List.length_take]; rfl)) ?_; (with_reducible refine (zip_List.calls k _ _ l0 t330 t331 _ ?side1 ?side2 A5.out).mono ?_); (case side1 => repeat (first | exact (Kd.C_below HR0.out HB.out) | (with_reducible refine Kd.C_alloc ?_ _) | (with_reducible refine Kd.C_drewN ?_ _) | (with_reducible refine Kd.C_drew ?_))); (case side2 => exact HC0.out); rintro e w43 ⟨v332, rfl, ho0, hb⟩; refine ⟨_, rfl, ?_⟩; have n0_ := Aside0.mk (Kd.R_lower ho0 (below_size (by repeat (first | (with_reducible first | exact HB.out | apply below_alloc | apply pw_below_drewN | apply below_drew1) | exact HB.out)))); have n1_ := Aside0.mk (below_step (by repeat (first | (with_reducible first | exact HB.out | apply below_alloc | apply pw_below_drewN | apply below_drew1) | exact HB.out)) hb); clear HB; have HO333 := n0_; have HB := n1_; clear n0_ n1_; (try clear hb); (try clear hb2); (try clear hk); (try clear hi); (try clear ho0)))
          go_ret
          exact ⟨by first | rfl | (simp [errW_none, errW_some] <;> rfl) | (simp [*, errW_none, errW_some] <;> rfl), by repeat (first | (with_reducible first | exact HB.out | apply below_alloc | apply pw_below_drewN | apply below_drew1) | exact HB.out)⟩
      · rw [if_neg c28] at H
        have c28b0 : (t327 == 0) = false := beq_eq_false_iff_ne.mpr c28
        have c28b1 : (t327 != 0) = true := bne_iff_ne.mpr c28
        obtain rfl := Option.some.inj H
        go_enter Try.func7, Try.ntmps7
        go_wp2_with (first | ((with_reducible refine gate_callee (f := 12) rfl ?_); refine goesL_ (some 17) rfl rfl Try.func12 (by kernel_rfl) rfl #[.slice A0 l0.length c0, .string a1] rfl (by (try simp only [List.map_toArray, List.map_cons, List.map_nil]); first | done | rfl | (simp only [List.length_drop, List.length_take]; rfl)) ?_; (with_reducible refine (zip_Find.calls k _ _ l0 a1 t327 t328 t329 _ ?side1 ?side2 A4.out).mono ?_); (case side1 => repeat (first | exact HR0.out | (with_reducible refine Kd.C_alloc ?_ _) | (with_reducible refine Kd.C_drewN ?_ _) | (with_reducible refine Kd.C_drew ?_))); (case side2 => exact HC0.out); rintro e w44 ⟨rfl, hb⟩; refine ⟨_, rfl, ?_⟩; have n0_ := Aside0.mk (below_step (by repeat (first | (with_reducible first | exact HB.out | apply below_alloc | apply pw_below_drewN | apply below_drew1) | exact HB.out)) hb); clear HB; have HB := n0_; clear n0_; (try clear hb); (try clear hb2); (try clear hk); (try clear hi)) | ((with_reducible refine gate_callee (f := 9) rfl ?_); refine goesL_ (some 23) rfl rfl Try.func9 (by kernel_rfl) rfl #[.slice A0 l0.length c0] rfl (by (try simp only [List.map_toArray, List.map_cons, List.map_nil]); first | done | rfl | (simp only [List.length_drop, List.length_take]; rfl)) ?_; (with_reducible refine (zip_List.calls k _ _ l0 t330 t331 _ ?side1 ?side2 A5.out).mono ?_); (case side1 => repeat (first | exact (Kd.C_below HR0.out HB.out) | (with_reducible refine Kd.C_alloc ?_ _) | (with_reducible refine Kd.C_drewN ?_ _) | (with_reducible refine Kd.C_drew ?_))); (case side2 => exact HC0.out); rintro e w45 ⟨v332, rfl, ho0, hb⟩; refine ⟨_, rfl, ?_⟩; have n0_ := Aside0.mk (Kd.R_lower ho0 (below_size (by repeat (first | (with_reducible first | exact HB.out | apply below_alloc | apply pw_below_drewN | apply below_drew1) | exact HB.out)))); have n1_ := Aside0.mk (below_step (by repeat (first | (with_reducible first | exact HB.out | apply below_alloc | apply pw_below_drewN | apply below_drew1) | exact HB.out)) hb); clear HB; have HO333 := n0_; have HB := n1_; clear n0_ n1_; (try clear hb); (try clear hb2); (try clear hk); (try clear hi); (try clear ho0)))
        go_ret
        exact ⟨by first | rfl | (simp [errW_none, errW_some] <;> rfl) | (simp [*, errW_none, errW_some] <;> rfl), by repeat (first | (with_reducible first | exact HB.out | apply below_alloc | apply pw_below_drewN | apply below_drew1) | exact HB.out)⟩

/-- THE ONE PURE STATEMENT of messuagelaw07_ZipWithin: yours. -/
def messuagelaw07_ZipWithin.Pure : Prop := ∀ (l0 : List Int) (a1 : ByteArray), l0.length ≤ maxLen → l0.length * 1 ≤ 140737488351232 → (∀ x ∈ l0, (Lit.int .u8 x).wf = true) → a1.size ≤ 140737488351232 → ∃ k, messuagelaw07_ZipWithin.f k l0 a1 = some true
theorem messuagelaw07_ZipWithin.walk (P : messuagelaw07_ZipWithin.Pure) (a0 : Option Addr) (len0 cap0 : Nat) (z0 : List Int) (a1 : ByteArray) (w : World) (w0 : (a0 = none ∧ len0 = 0 ∧ cap0 = 0 ∧ z0 = []) ∨ ∃ x, a0 = some x ∧ len0 ≤ cap0 ∧ cap0 ≤ maxLen ∧ z0.length = cap0 ∧ (∀ i, i < z0.length → w.cell? (x.add i) = some (.int .u8 (z0.getD i 0))) ∧ ∀ n ∈ z0, (Lit.int .u8 n).wf = true) (y0 : len0 * 1 ≤ 140737488351232) (w1 : a1.size ≤ 140737488351232) :
    Calls Try.prog 7 #[.slice a0 len0 cap0, .string a1] w fun e w' => e = .returned (.bool true) ∧ Below w.heap.size w w' := by
  obtain ⟨l0, rfl, hr0, hm0, hw0, hc0⟩ := ReadsInt.ofRowC w0
  obtain ⟨k, h⟩ := P l0 a1 hm0 y0 hw0 w1
  refine (messuagelaw07_ZipWithin.calls k _ _ l0 a1 true w (Kd.C_of_reads (d := (0 : Int)) (h1 := fun _ => rfl) hr0) hc0 h).mono ?_
  rintro e w' ⟨rfl, hd⟩
  exact ⟨rfl, hd⟩

-- NOT PRINTED: function 8 (messuagelaw07_ZipMore)

end Go.Proofs.Ytkikbbmgibgamaa.Z
