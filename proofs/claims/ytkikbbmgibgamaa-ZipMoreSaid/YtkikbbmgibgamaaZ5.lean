-- Written by this session's program gen.py (over the kit's printer) for this seat. Not trusted: Lean checks it.
import Derived.Test.YtkikbbmgibgamaaZ0
import Derived.Test.YtkikbbmgibgamaaZ4
namespace Go.Proofs.Ytkikbbmgibgamaa.Z
open Go.RowKit Go.Proofs.Ytkikbbmgibgamaa.H Go.Proofs.YtkikbbmgibgamaaW.PrintWords Go.Proofs.YtkikbbmgibgamaaW.PrintLast Go.Proofs.YtkikbbmgibgamaaW.PrintMore
attribute [local go_sem] max2_int min2_int max_two min_two max_three min_three max_four min_four   -- for this text's walks alone
set_option linter.unusedVariables false
set_option linter.unusedSimpArgs false

/-! ### messuageref07_List: function 10 -/
mutual
def messuageref07_List.j0 : Nat → List Int → Int → Bool → Option ((List (S33)) × Int × Int)
  | 0, _, _, _ => none
  | k + 1, x0, x5, x28 => if x28 = true then (some (([] : List (S33)), 0, 70)) else ((messuageref07_n.f k x0 (IntKind.u64.wrap ((IntKind.u64.wrap (x5)) + 10)) 2).bind fun t162 => ((messuageref07_n.f k x0 (IntKind.u64.wrap ((IntKind.u64.wrap (x5)) + 12)) 4).bind fun t163 => ((messuageref07_n.f k x0 (IntKind.u64.wrap ((IntKind.u64.wrap (x5)) + 16)) 4).bind fun t164 => ((messuageref07_n.f k x0 (IntKind.u64.wrap ((IntKind.u64.wrap (x5)) + 4)) 2).bind fun t165 => (if t165 = 0 then ((messuageref07_n.f k x0 (IntKind.u64.wrap ((IntKind.u64.wrap (x5)) + 6)) 2).bind fun t166 => (if t166 = 0 then ((messuageref07_n.f k x0 (IntKind.u64.wrap ((IntKind.u64.wrap (x5)) + 8)) 2).bind fun t167 => (if t167 = t162 then (messuageref07_List.j1 k x0 t162 t163 t164 (decide ((IntKind.u64.wrap (t164 + t163)) > (IntKind.u64.wrap (x5))))) else (messuageref07_List.j1 k x0 t162 t163 t164 true))) else (messuageref07_List.j1 k x0 t162 t163 t164 true))) else (messuageref07_List.j1 k x0 t162 t163 t164 true))))))
def messuageref07_List.j1 : Nat → List Int → Int → Int → Int → Bool → Option ((List (S33)) × Int × Int)
  | 0, _, _, _, _, _ => none
  | k + 1, x0, x8, x9, x10, x69 => if x69 = true then (some (([] : List (S33)), 0, 70)) else (messuageref07_List.l0 k x0 x8 x9 x10 ([] : List (S33)) x10 0)
def messuageref07_List.l0 : Nat → List Int → Int → Int → Int → List (S33) → Int → Int → Option ((List (S33)) × Int × Int)
  | 0, _, _, _, _, _, _, _ => none
  | k + 1, x0, x8, x9, x10, x11, x12, x13 => if x13 < x8 then ((messuageref07_n.f k x0 (IntKind.u64.wrap (x12 + 28)) 2).bind fun t168 => ((messuageref07_n.f k x0 (IntKind.u64.wrap (x12 + 30)) 2).bind fun t169 => ((messuageref07_n.f k x0 (IntKind.u64.wrap (x12 + 32)) 2).bind fun t170 => (if (IntKind.u64.wrap ((IntKind.u64.wrap (x10 + x9)) - x12)) < 46 then (messuageref07_List.j3 k x0 x8 x9 x10 x11 x12 x13 (IntKind.u64.wrap ((IntKind.u64.wrap ((IntKind.u64.wrap (46 + t168)) + t169)) + t170)) true) else ((messuageref07_n.f k x0 x12 4).bind fun t171 => (if t171 = 33639248 then (messuageref07_List.j3 k x0 x8 x9 x10 x11 x12 x13 (IntKind.u64.wrap ((IntKind.u64.wrap ((IntKind.u64.wrap (46 + t168)) + t169)) + t170)) (decide ((IntKind.u64.wrap ((IntKind.u64.wrap ((IntKind.u64.wrap (46 + t168)) + t169)) + t170)) > (IntKind.u64.wrap ((IntKind.u64.wrap (x10 + x9)) - x12))))) else (messuageref07_List.j3 k x0 x8 x9 x10 x11 x12 x13 (IntKind.u64.wrap ((IntKind.u64.wrap ((IntKind.u64.wrap (46 + t168)) + t169)) + t170)) true))))))) else (if x12 = (IntKind.u64.wrap (x10 + x9)) then (some (x11, x10, 0)) else (some (([] : List (S33)), 0, 70)))
def messuageref07_List.j3 : Nat → List Int → Int → Int → Int → List (S33) → Int → Int → Int → Bool → Option ((List (S33)) × Int × Int)
  | 0, _, _, _, _, _, _, _, _, _ => none
  | k + 1, x0, x8, x9, x10, x11, x12, x13, x15, x108 => if x108 = true then (some (([] : List (S33)), 0, 70)) else ((messuageref07_n.f k x0 (IntKind.u64.wrap (x12 + 28)) 2).bind fun t172 => (if 0 ≤ (IntKind.u64.wrap (x12 + 46)) then (if (IntKind.u64.wrap (x12 + 46)) ≤ (IntKind.u64.wrap ((IntKind.u64.wrap (x12 + 46)) + t172)) then (if (IntKind.u64.wrap ((IntKind.u64.wrap (x12 + 46)) + t172)) ≤ (x0.length : Int) then ((messuageref07_n.f k x0 (IntKind.u64.wrap (x12 + 10)) 2).bind fun t174 => ((messuageref07_n.f k x0 (IntKind.u64.wrap (x12 + 24)) 4).bind fun t175 => ((messuageref07_n.f k x0 (IntKind.u64.wrap (x12 + 20)) 4).bind fun t176 => ((messuageref07_n.f k x0 (IntKind.u64.wrap (x12 + 42)) 4).bind fun t177 => (if x11.length < 2932031007402 then (messuageref07_List.l0 k x0 x8 x9 x10 (x11 ++ [(⟨strOfNums ((x0.take ((IntKind.u64.wrap ((IntKind.u64.wrap (x12 + 46)) + t172)) : Int).toNat).drop ((IntKind.u64.wrap (x12 + 46)) : Int).toNat), wrap64 (t174), t175, t176, t177⟩ : S33)]) (IntKind.u64.wrap (x12 + x15)) (IntKind.u64.wrap (x13 + 1))) else (none)))))) else (none)) else (none)) else (none)))
end
def messuageref07_List.f (k : Nat) (l0 : List Int) : Option ((List (S33)) × Int × Int) := (messuageref07_Last.f k l0).bind fun bt160 => (if (l0.length : Int) > 262144 then (messuageref07_List.j0 k l0 bt160.1 true) else (messuageref07_List.j0 k l0 bt160.1 (!bt160.2)))
theorem messuageref07_List.mono_l : ∀ k, (∀ y0 y1 y2, LeO (messuageref07_List.j0 k y0 y1 y2) (messuageref07_List.j0 (k + 1) y0 y1 y2)) ∧ (∀ y0 y1 y2 y3 y4, LeO (messuageref07_List.j1 k y0 y1 y2 y3 y4) (messuageref07_List.j1 (k + 1) y0 y1 y2 y3 y4)) ∧ (∀ y0 y1 y2 y3 y4 y5 y6, LeO (messuageref07_List.l0 k y0 y1 y2 y3 y4 y5 y6) (messuageref07_List.l0 (k + 1) y0 y1 y2 y3 y4 y5 y6)) ∧ (∀ y0 y1 y2 y3 y4 y5 y6 y7 y8, LeO (messuageref07_List.j3 k y0 y1 y2 y3 y4 y5 y6 y7 y8) (messuageref07_List.j3 (k + 1) y0 y1 y2 y3 y4 y5 y6 y7 y8))
  | 0 => ⟨fun _ _ _ r h => by simp [messuageref07_List.j0] at h, fun _ _ _ _ _ r h => by simp [messuageref07_List.j1] at h, fun _ _ _ _ _ _ _ r h => by simp [messuageref07_List.l0] at h, fun _ _ _ _ _ _ _ _ _ r h => by simp [messuageref07_List.j3] at h⟩
  | k + 1 => by
    obtain ⟨ih0, ih1, ih2, ih3⟩ := messuageref07_List.mono_l k
    refine ⟨?_, ?_, ?_, ?_⟩
    · intro y0 y1 y2
      unfold messuageref07_List.j0
      repeat' first
      | (with_reducible exact ih0 _ _ _)
      | (with_reducible exact ih1 _ _ _ _ _)
      | (with_reducible exact ih2 _ _ _ _ _ _ _)
      | (with_reducible exact ih3 _ _ _ _ _ _ _ _ _)
      | (with_reducible exact messuageref07_Last.mono _ _)
      | (with_reducible exact messuageref07_n.mono _ _ _ _)
      | (with_reducible exact LeO.refl _)
      | (with_reducible exact LeO.none _)
      | (with_reducible refine LeO.ite ?_ ?_)
      | (with_reducible refine LeO.bind ?_ (fun _ => ?_))
      | exact ih0 _ _ _
      | exact ih1 _ _ _ _ _
      | exact ih2 _ _ _ _ _ _ _
      | exact ih3 _ _ _ _ _ _ _ _ _
      | exact messuageref07_Last.mono _ _
      | exact messuageref07_n.mono _ _ _ _
      | exact LeO.none _
      | refine LeO.ite ?_ ?_
      | refine LeO.bind ?_ (fun _ => ?_)
    · intro y0 y1 y2 y3 y4
      unfold messuageref07_List.j1
      repeat' first
      | (with_reducible exact ih0 _ _ _)
      | (with_reducible exact ih1 _ _ _ _ _)
      | (with_reducible exact ih2 _ _ _ _ _ _ _)
      | (with_reducible exact ih3 _ _ _ _ _ _ _ _ _)
      | (with_reducible exact messuageref07_Last.mono _ _)
      | (with_reducible exact messuageref07_n.mono _ _ _ _)
      | (with_reducible exact LeO.refl _)
      | (with_reducible exact LeO.none _)
      | (with_reducible refine LeO.ite ?_ ?_)
      | (with_reducible refine LeO.bind ?_ (fun _ => ?_))
      | exact ih0 _ _ _
      | exact ih1 _ _ _ _ _
      | exact ih2 _ _ _ _ _ _ _
      | exact ih3 _ _ _ _ _ _ _ _ _
      | exact messuageref07_Last.mono _ _
      | exact messuageref07_n.mono _ _ _ _
      | exact LeO.none _
      | refine LeO.ite ?_ ?_
      | refine LeO.bind ?_ (fun _ => ?_)
    · intro y0 y1 y2 y3 y4 y5 y6
      unfold messuageref07_List.l0
      repeat' first
      | (with_reducible exact ih0 _ _ _)
      | (with_reducible exact ih1 _ _ _ _ _)
      | (with_reducible exact ih2 _ _ _ _ _ _ _)
      | (with_reducible exact ih3 _ _ _ _ _ _ _ _ _)
      | (with_reducible exact messuageref07_Last.mono _ _)
      | (with_reducible exact messuageref07_n.mono _ _ _ _)
      | (with_reducible exact LeO.refl _)
      | (with_reducible exact LeO.none _)
      | (with_reducible refine LeO.ite ?_ ?_)
      | (with_reducible refine LeO.bind ?_ (fun _ => ?_))
      | exact ih0 _ _ _
      | exact ih1 _ _ _ _ _
      | exact ih2 _ _ _ _ _ _ _
      | exact ih3 _ _ _ _ _ _ _ _ _
      | exact messuageref07_Last.mono _ _
      | exact messuageref07_n.mono _ _ _ _
      | exact LeO.none _
      | refine LeO.ite ?_ ?_
      | refine LeO.bind ?_ (fun _ => ?_)
    · intro y0 y1 y2 y3 y4 y5 y6 y7 y8
      unfold messuageref07_List.j3
      repeat' first
      | (with_reducible exact ih0 _ _ _)
      | (with_reducible exact ih1 _ _ _ _ _)
      | (with_reducible exact ih2 _ _ _ _ _ _ _)
      | (with_reducible exact ih3 _ _ _ _ _ _ _ _ _)
      | (with_reducible exact messuageref07_Last.mono _ _)
      | (with_reducible exact messuageref07_n.mono _ _ _ _)
      | (with_reducible exact LeO.refl _)
      | (with_reducible exact LeO.none _)
      | (with_reducible refine LeO.ite ?_ ?_)
      | (with_reducible refine LeO.bind ?_ (fun _ => ?_))
      | exact ih0 _ _ _
      | exact ih1 _ _ _ _ _
      | exact ih2 _ _ _ _ _ _ _
      | exact ih3 _ _ _ _ _ _ _ _ _
      | exact messuageref07_Last.mono _ _
      | exact messuageref07_n.mono _ _ _ _
      | exact LeO.none _
      | refine LeO.ite ?_ ?_
      | refine LeO.bind ?_ (fun _ => ?_)
theorem messuageref07_List.mono : ∀ a0 k, LeO (messuageref07_List.f k a0) (messuageref07_List.f (k + 1) a0) := by
  intro a0 k
  obtain ⟨ih0, ih1, ih2, ih3⟩ := messuageref07_List.mono_l k
  unfold messuageref07_List.f
  repeat' first
      | (with_reducible exact ih0 _ _ _)
      | (with_reducible exact ih1 _ _ _ _ _)
      | (with_reducible exact ih2 _ _ _ _ _ _ _)
      | (with_reducible exact ih3 _ _ _ _ _ _ _ _ _)
      | (with_reducible exact messuageref07_Last.mono _ _)
      | (with_reducible exact messuageref07_n.mono _ _ _ _)
      | (with_reducible exact LeO.refl _)
      | (with_reducible exact LeO.none _)
      | (with_reducible refine LeO.ite ?_ ?_)
      | (with_reducible refine LeO.bind ?_ (fun _ => ?_))
      | exact ih0 _ _ _
      | exact ih1 _ _ _ _ _
      | exact ih2 _ _ _ _ _ _ _
      | exact ih3 _ _ _ _ _ _ _ _ _
      | exact messuageref07_Last.mono _ _
      | exact messuageref07_n.mono _ _ _ _
      | exact LeO.none _
      | refine LeO.ite ?_ ?_
      | refine LeO.bind ?_ (fun _ => ?_)
set_option maxHeartbeats 8000000 in
set_option maxRecDepth 100000 in
theorem messuageref07_List.calls (k : Nat) (A0 : Option Addr) (c0 : Nat) (l0 : List Int) (r1 : List (S33)) (r2 : Int) (r3 : Int) (w : World) (hr0 : Kd.C (Kd.int .u8) w A0 l0.length l0) (hc0 : l0.length ≤ c0) (h : messuageref07_List.f k l0 = some (r1, r2, r3)) :
    Calls Try.prog 10 #[.slice A0 l0.length c0] w fun e w' => ∃ v0_ : Value, e = .returned (.tuple #[v0_, .int .u64 r2, .int .i64 r3]) ∧ Kd.R k33 33 w' w.heap.size (fun _ => True) v0_ r1 ∧ Below w.heap.size w w' := by
  have hu33 := Try.underlying33
  have HR0 := Aside0.mk hr0
  have HC0 := Aside0.mk hc0
  clear hr0 hc0
  have HB := Aside0.mk (Below.refl w.heap.size w)
  have H : ((messuageref07_Last.f k l0).bind fun bt160 => (if (l0.length : Int) > 262144 then (messuageref07_List.j0 k l0 bt160.1 true) else (messuageref07_List.j0 k l0 bt160.1 (!bt160.2)))) = some (r1, r2, r3) := h
  clear h
  replace H := Option.bind_eq_some_iff.mp H
  obtain ⟨⟨t160, t161⟩, A20, H⟩ := H
  replace H : (if (l0.length : Int) > 262144 then (messuageref07_List.j0 k l0 t160 true) else (messuageref07_List.j0 k l0 t160 (!t161))) = some (r1, r2, r3) := H
  have A2 := Aside0.mk A20
  clear A20
  have HC3 := Aside0.mk H
  clear H
  go_enter Try.func10, Try.ntmps10
  go_upto_region 2 with (first | ((with_reducible refine gate_callee (f := 19) rfl ?_); refine goesL_ (some 19) rfl rfl Try.func19 (by kernel_rfl) rfl #[.slice A0 l0.length c0] rfl (by (try simp only [List.map_toArray, List.map_cons, List.map_nil]); first | done | rfl | (simp only [List.length_drop, List.length_take]; rfl)) ?_; (with_reducible refine (messuageref07_Last.calls k _ _ l0 t160 t161 _ ?side1 ?side2 A2.out).mono ?_); (case side1 => repeat (first | exact HR0.out | (with_reducible refine Kd.C_alloc ?_ _) | (with_reducible refine Kd.C_drewN ?_ _) | (with_reducible refine Kd.C_drew ?_))); (case side2 => exact HC0.out); rintro e w' ⟨rfl, ⟨nd, rfl⟩⟩; refine ⟨_, rfl, ?_⟩))
  (try simp only [Act.put, List.setIfInBounds_toArray, List.set_cons_zero, List.set_cons_succ])
  go_cut [28] (fun v28 wc => ∃ (kq : Nat) (x28_2 : Bool), v28 = .bool x28_2 ∧ Aside0 (messuageref07_List.j0 kq l0 t160 x28_2 = some (r1, r2, r3)) ∧ Aside0 (kq ≤ k) ∧ Aside0 (Below w.heap.size w wc))
  case first =>
    have H := HC3.out
    clear HC3
    by_cases c4 : (l0.length : Int) > 262144
    · rw [if_pos c4] at H
      have c4b0 : decide (262144 < (l0.length : Int)) = true := decide_eq_true c4
      have c4b1 : decide (262144 < l0.length) = true := decide_eq_true (by omega)
      clear c4
      (first | rw [c4b0] | (simp only [i64_w, i32_w]; rw [c4b0]) | skip)
      have H' := Aside0.mk H
      clear H
      go_wp2
      go_meet
      case rel => exact ⟨_, (true), (by first | rfl | (simp; done) | (simp [*]; done)), H', ⟨by first | omega | exact Nat.le_refl _⟩, ⟨by repeat (first | (with_reducible first | exact HB.out | apply below_alloc | apply pw_below_drewN | apply below_drew1) | exact HB.out)⟩⟩
    · rw [if_neg c4] at H
      have c4b0 : decide (262144 < (l0.length : Int)) = false := decide_eq_false c4
      have c4b1 : decide (262144 < l0.length) = false := decide_eq_false (by omega)
      clear c4
      (first | rw [c4b0] | (simp only [i64_w, i32_w]; rw [c4b0]) | skip)
      have H' := Aside0.mk H
      clear H
      go_wp2
      go_meet
      case rel => exact ⟨_, (!t161), (by first | rfl | (simp; done) | (simp [*]; done)), H', ⟨by first | omega | exact Nat.le_refl _⟩, ⟨by repeat (first | (with_reducible first | exact HB.out | apply below_alloc | apply pw_below_drewN | apply below_drew1) | exact HB.out)⟩⟩
  case rest =>
    clear HC3
    try clear c1
    try clear p2
    try clear c4
    try clear c4b0
    try clear c4b1
    obtain ⟨kq, x28_2, rfl, HA, HJ2, HB⟩ := hcut
    cases kq with
    | zero => exact absurd HA.out (by simp [messuageref07_List.j0])
    | succ kj2 =>
      have H := HA.out
      clear HA
      simp only [messuageref07_List.j0] at H
      by_cases c5 : x28_2 = true
      · subst c5
        have H1 : (some (([] : List (S33)), 0, 70)) = some (r1, r2, r3) := by rw [if_pos rfl] at H; exact H
        clear H
        have H := H1
        clear H1
        simp only [Option.some.injEq, Prod.mk.injEq] at H
        obtain ⟨rfl, rfl, rfl⟩ := H
        go_wp2
        go_ret3
        exact ⟨_, by first | rfl | (simp [errW_none, errW_some] <;> rfl) | (simp [*, errW_none, errW_some] <;> rfl), by first | exact Kd.R_nil _ _ _ _ _ | exact Kd.N_nil _ _ _ _ _ | exact Kd.V_nil _ _ _ _ _ | exact Kd.Q_nil _ _ _ _ _ | exact Kd.S_nil _ _ _ _ _, by repeat (first | (with_reducible first | exact HB.out | apply below_alloc | apply pw_below_drewN | apply below_drew1) | exact HB.out)⟩
      · replace c5 := Bool.eq_false_iff.mpr c5
        subst c5
        have H1 : ((messuageref07_n.f kj2 l0 (IntKind.u64.wrap ((IntKind.u64.wrap (t160)) + 10)) 2).bind fun t162 => ((messuageref07_n.f kj2 l0 (IntKind.u64.wrap ((IntKind.u64.wrap (t160)) + 12)) 4).bind fun t163 => ((messuageref07_n.f kj2 l0 (IntKind.u64.wrap ((IntKind.u64.wrap (t160)) + 16)) 4).bind fun t164 => ((messuageref07_n.f kj2 l0 (IntKind.u64.wrap ((IntKind.u64.wrap (t160)) + 4)) 2).bind fun t165 => (if t165 = 0 then ((messuageref07_n.f kj2 l0 (IntKind.u64.wrap ((IntKind.u64.wrap (t160)) + 6)) 2).bind fun t166 => (if t166 = 0 then ((messuageref07_n.f kj2 l0 (IntKind.u64.wrap ((IntKind.u64.wrap (t160)) + 8)) 2).bind fun t167 => (if t167 = t162 then (messuageref07_List.j1 kj2 l0 t162 t163 t164 (decide ((IntKind.u64.wrap (t164 + t163)) > (IntKind.u64.wrap (t160))))) else (messuageref07_List.j1 kj2 l0 t162 t163 t164 true))) else (messuageref07_List.j1 kj2 l0 t162 t163 t164 true))) else (messuageref07_List.j1 kj2 l0 t162 t163 t164 true)))))) = some (r1, r2, r3) := by rw [if_neg (show ¬ (false = true) by decide)] at H; exact H
        clear H
        have H := H1
        clear H1
        replace H := Option.bind_eq_some_iff.mp H
        obtain ⟨t162, A60, H⟩ := H
        replace H : ((messuageref07_n.f kj2 l0 (IntKind.u64.wrap ((IntKind.u64.wrap (t160)) + 12)) 4).bind fun t163 => ((messuageref07_n.f kj2 l0 (IntKind.u64.wrap ((IntKind.u64.wrap (t160)) + 16)) 4).bind fun t164 => ((messuageref07_n.f kj2 l0 (IntKind.u64.wrap ((IntKind.u64.wrap (t160)) + 4)) 2).bind fun t165 => (if t165 = 0 then ((messuageref07_n.f kj2 l0 (IntKind.u64.wrap ((IntKind.u64.wrap (t160)) + 6)) 2).bind fun t166 => (if t166 = 0 then ((messuageref07_n.f kj2 l0 (IntKind.u64.wrap ((IntKind.u64.wrap (t160)) + 8)) 2).bind fun t167 => (if t167 = t162 then (messuageref07_List.j1 kj2 l0 t162 t163 t164 (decide ((IntKind.u64.wrap (t164 + t163)) > (IntKind.u64.wrap (t160))))) else (messuageref07_List.j1 kj2 l0 t162 t163 t164 true))) else (messuageref07_List.j1 kj2 l0 t162 t163 t164 true))) else (messuageref07_List.j1 kj2 l0 t162 t163 t164 true))))) = some (r1, r2, r3) := H
        have A6 := Aside0.mk A60
        clear A60
        replace H := Option.bind_eq_some_iff.mp H
        obtain ⟨t163, A70, H⟩ := H
        replace H : ((messuageref07_n.f kj2 l0 (IntKind.u64.wrap ((IntKind.u64.wrap (t160)) + 16)) 4).bind fun t164 => ((messuageref07_n.f kj2 l0 (IntKind.u64.wrap ((IntKind.u64.wrap (t160)) + 4)) 2).bind fun t165 => (if t165 = 0 then ((messuageref07_n.f kj2 l0 (IntKind.u64.wrap ((IntKind.u64.wrap (t160)) + 6)) 2).bind fun t166 => (if t166 = 0 then ((messuageref07_n.f kj2 l0 (IntKind.u64.wrap ((IntKind.u64.wrap (t160)) + 8)) 2).bind fun t167 => (if t167 = t162 then (messuageref07_List.j1 kj2 l0 t162 t163 t164 (decide ((IntKind.u64.wrap (t164 + t163)) > (IntKind.u64.wrap (t160))))) else (messuageref07_List.j1 kj2 l0 t162 t163 t164 true))) else (messuageref07_List.j1 kj2 l0 t162 t163 t164 true))) else (messuageref07_List.j1 kj2 l0 t162 t163 t164 true)))) = some (r1, r2, r3) := H
        have A7 := Aside0.mk A70
        clear A70
        replace H := Option.bind_eq_some_iff.mp H
        obtain ⟨t164, A80, H⟩ := H
        replace H : ((messuageref07_n.f kj2 l0 (IntKind.u64.wrap ((IntKind.u64.wrap (t160)) + 4)) 2).bind fun t165 => (if t165 = 0 then ((messuageref07_n.f kj2 l0 (IntKind.u64.wrap ((IntKind.u64.wrap (t160)) + 6)) 2).bind fun t166 => (if t166 = 0 then ((messuageref07_n.f kj2 l0 (IntKind.u64.wrap ((IntKind.u64.wrap (t160)) + 8)) 2).bind fun t167 => (if t167 = t162 then (messuageref07_List.j1 kj2 l0 t162 t163 t164 (decide ((IntKind.u64.wrap (t164 + t163)) > (IntKind.u64.wrap (t160))))) else (messuageref07_List.j1 kj2 l0 t162 t163 t164 true))) else (messuageref07_List.j1 kj2 l0 t162 t163 t164 true))) else (messuageref07_List.j1 kj2 l0 t162 t163 t164 true))) = some (r1, r2, r3) := H
        have A8 := Aside0.mk A80
        clear A80
        have HC9 := Aside0.mk H
        clear H
        go_upto_region 6 with (first | ((with_reducible refine gate_callee (f := 20) rfl ?_); refine goesL_ (some 34) rfl rfl Try.func20 (by kernel_rfl) rfl #[.slice A0 l0.length c0, .int .u64 (IntKind.u64.wrap ((IntKind.u64.wrap (t160)) + 10)), .int .i64 2] rfl (by (try simp only [List.map_toArray, List.map_cons, List.map_nil]); first | done | rfl | (simp only [List.length_drop, List.length_take]; rfl)) ?_; (with_reducible refine (messuageref07_n.calls kj2 _ _ l0 (IntKind.u64.wrap ((IntKind.u64.wrap (t160)) + 10)) 2 t162 _ ?side1 ?side2 A6.out).mono ?_); (case side1 => repeat (first | exact (Kd.C_below HR0.out HB.out) | (with_reducible refine Kd.C_alloc ?_ _) | (with_reducible refine Kd.C_drewN ?_ _) | (with_reducible refine Kd.C_drew ?_))); (case side2 => exact HC0.out); rintro e w' ⟨rfl, ⟨nd, rfl⟩⟩; refine ⟨_, rfl, ?_⟩) | ((with_reducible refine gate_callee (f := 20) rfl ?_); refine goesL_ (some 38) rfl rfl Try.func20 (by kernel_rfl) rfl #[.slice A0 l0.length c0, .int .u64 (IntKind.u64.wrap ((IntKind.u64.wrap (t160)) + 12)), .int .i64 4] rfl (by (try simp only [List.map_toArray, List.map_cons, List.map_nil]); first | done | rfl | (simp only [List.length_drop, List.length_take]; rfl)) ?_; (with_reducible refine (messuageref07_n.calls kj2 _ _ l0 (IntKind.u64.wrap ((IntKind.u64.wrap (t160)) + 12)) 4 t163 _ ?side1 ?side2 A7.out).mono ?_); (case side1 => repeat (first | exact (Kd.C_below HR0.out (by repeat (first | (with_reducible first | exact HB.out | apply below_alloc | apply pw_below_drewN | apply below_drew1) | exact HB.out))) | (with_reducible refine Kd.C_alloc ?_ _) | (with_reducible refine Kd.C_drewN ?_ _) | (with_reducible refine Kd.C_drew ?_))); (case side2 => exact HC0.out); rintro e w' ⟨rfl, ⟨nd, rfl⟩⟩; refine ⟨_, rfl, ?_⟩) | ((with_reducible refine gate_callee (f := 20) rfl ?_); refine goesL_ (some 42) rfl rfl Try.func20 (by kernel_rfl) rfl #[.slice A0 l0.length c0, .int .u64 (IntKind.u64.wrap ((IntKind.u64.wrap (t160)) + 16)), .int .i64 4] rfl (by (try simp only [List.map_toArray, List.map_cons, List.map_nil]); first | done | rfl | (simp only [List.length_drop, List.length_take]; rfl)) ?_; (with_reducible refine (messuageref07_n.calls kj2 _ _ l0 (IntKind.u64.wrap ((IntKind.u64.wrap (t160)) + 16)) 4 t164 _ ?side1 ?side2 A8.out).mono ?_); (case side1 => repeat (first | exact (Kd.C_below HR0.out (by repeat (first | (with_reducible first | exact HB.out | apply below_alloc | apply pw_below_drewN | apply below_drew1) | exact HB.out))) | (with_reducible refine Kd.C_alloc ?_ _) | (with_reducible refine Kd.C_drewN ?_ _) | (with_reducible refine Kd.C_drew ?_))); (case side2 => exact HC0.out); rintro e w' ⟨rfl, ⟨nd, rfl⟩⟩; refine ⟨_, rfl, ?_⟩))
        (try simp only [Act.put, List.setIfInBounds_toArray, List.set_cons_zero, List.set_cons_succ])
        go_cut [69] (fun v69 wc => ∃ (kq : Nat) (x69_8 : Bool), v69 = .bool x69_8 ∧ Aside0 (messuageref07_List.j1 kq l0 t162 t163 t164 x69_8 = some (r1, r2, r3)) ∧ Aside0 (kq ≤ kj2) ∧ Aside0 (Below w.heap.size w wc))
        case first =>
          have H := HC9.out
          clear HC9
          replace H := Option.bind_eq_some_iff.mp H
          obtain ⟨t165, A100, H⟩ := H
          replace H : (if t165 = 0 then ((messuageref07_n.f kj2 l0 (IntKind.u64.wrap ((IntKind.u64.wrap (t160)) + 6)) 2).bind fun t166 => (if t166 = 0 then ((messuageref07_n.f kj2 l0 (IntKind.u64.wrap ((IntKind.u64.wrap (t160)) + 8)) 2).bind fun t167 => (if t167 = t162 then (messuageref07_List.j1 kj2 l0 t162 t163 t164 (decide ((IntKind.u64.wrap (t164 + t163)) > (IntKind.u64.wrap (t160))))) else (messuageref07_List.j1 kj2 l0 t162 t163 t164 true))) else (messuageref07_List.j1 kj2 l0 t162 t163 t164 true))) else (messuageref07_List.j1 kj2 l0 t162 t163 t164 true)) = some (r1, r2, r3) := H
          have A10 := Aside0.mk A100
          clear A100
          by_cases c11 : t165 = 0
          · rw [if_pos c11] at H
            have c11b0 : (t165 == 0) = true := beq_iff_eq.mpr c11
            have c11b1 : (t165 != 0) = false := bne_eq_false_iff_eq.mpr c11
            clear c11
            (first | rw [c11b0] | (simp only [i64_w, i32_w]; rw [c11b0]) | skip)
            replace H := Option.bind_eq_some_iff.mp H
            obtain ⟨t166, A120, H⟩ := H
            replace H : (if t166 = 0 then ((messuageref07_n.f kj2 l0 (IntKind.u64.wrap ((IntKind.u64.wrap (t160)) + 8)) 2).bind fun t167 => (if t167 = t162 then (messuageref07_List.j1 kj2 l0 t162 t163 t164 (decide ((IntKind.u64.wrap (t164 + t163)) > (IntKind.u64.wrap (t160))))) else (messuageref07_List.j1 kj2 l0 t162 t163 t164 true))) else (messuageref07_List.j1 kj2 l0 t162 t163 t164 true)) = some (r1, r2, r3) := H
            have A12 := Aside0.mk A120
            clear A120
            by_cases c13 : t166 = 0
            · rw [if_pos c13] at H
              have c13b0 : (t166 == 0) = true := beq_iff_eq.mpr c13
              have c13b1 : (t166 != 0) = false := bne_eq_false_iff_eq.mpr c13
              clear c13
              replace H := Option.bind_eq_some_iff.mp H
              obtain ⟨t167, A140, H⟩ := H
              replace H : (if t167 = t162 then (messuageref07_List.j1 kj2 l0 t162 t163 t164 (decide ((IntKind.u64.wrap (t164 + t163)) > (IntKind.u64.wrap (t160))))) else (messuageref07_List.j1 kj2 l0 t162 t163 t164 true)) = some (r1, r2, r3) := H
              have A14 := Aside0.mk A140
              clear A140
              by_cases c15 : t167 = t162
              · rw [if_pos c15] at H
                have c15b0 : (t167 == t162) = true := beq_iff_eq.mpr c15
                have c15b1 : (t167 != t162) = false := bne_eq_false_iff_eq.mpr c15
                clear c15
                have H' := Aside0.mk H
                clear H
                go_wp2_with (first | ((with_reducible refine gate_callee (f := 20) rfl ?_); refine goesL_ (some 46) rfl rfl Try.func20 (by kernel_rfl) rfl #[.slice A0 l0.length c0, .int .u64 (IntKind.u64.wrap ((IntKind.u64.wrap (t160)) + 4)), .int .i64 2] rfl (by (try simp only [List.map_toArray, List.map_cons, List.map_nil]); first | done | rfl | (simp only [List.length_drop, List.length_take]; rfl)) ?_; (with_reducible refine (messuageref07_n.calls kj2 _ _ l0 (IntKind.u64.wrap ((IntKind.u64.wrap (t160)) + 4)) 2 t165 _ ?side1 ?side2 A10.out).mono ?_); (case side1 => repeat (first | exact (Kd.C_below HR0.out HB.out) | (with_reducible refine Kd.C_alloc ?_ _) | (with_reducible refine Kd.C_drewN ?_ _) | (with_reducible refine Kd.C_drew ?_))); (case side2 => exact HC0.out); rintro e w' ⟨rfl, ⟨nd, rfl⟩⟩; refine ⟨_, rfl, ?_⟩) | (go_at_call 20; (with_reducible refine (messuageref07_n.calls kj2 _ _ l0 (IntKind.u64.wrap ((IntKind.u64.wrap (t160)) + 6)) 2 t166 _ ?side1 ?side2 A12.out).mono ?_); (case side1 => repeat (first | exact (Kd.C_below HR0.out (by repeat (first | (with_reducible first | exact HB.out | apply below_alloc | apply pw_below_drewN | apply below_drew1) | exact HB.out))) | (with_reducible refine Kd.C_alloc ?_ _) | (with_reducible refine Kd.C_drewN ?_ _) | (with_reducible refine Kd.C_drew ?_))); (case side2 => exact HC0.out); rintro e w' ⟨rfl, ⟨nd, rfl⟩⟩) | (go_at_call 20; (with_reducible refine (messuageref07_n.calls kj2 _ _ l0 (IntKind.u64.wrap ((IntKind.u64.wrap (t160)) + 8)) 2 t167 _ ?side1 ?side2 A14.out).mono ?_); (case side1 => repeat (first | exact (Kd.C_below HR0.out (by repeat (first | (with_reducible first | exact HB.out | apply below_alloc | apply pw_below_drewN | apply below_drew1) | exact HB.out))) | (with_reducible refine Kd.C_alloc ?_ _) | (with_reducible refine Kd.C_drewN ?_ _) | (with_reducible refine Kd.C_drew ?_))); (case side2 => exact HC0.out); rintro e w' ⟨rfl, ⟨nd, rfl⟩⟩))
                go_meet
                case rel => exact ⟨_, (decide ((IntKind.u64.wrap (t164 + t163)) > (IntKind.u64.wrap (t160)))), (by first | rfl | (simp; done) | (simp [*]; done)), H', ⟨by have := HJ2.out; first | omega | exact Nat.le_refl _⟩, ⟨by repeat (first | (with_reducible first | exact HB.out | apply below_alloc | apply pw_below_drewN | apply below_drew1) | exact HB.out)⟩⟩
              · rw [if_neg c15] at H
                have c15b0 : (t167 == t162) = false := beq_eq_false_iff_ne.mpr c15
                have c15b1 : (t167 != t162) = true := bne_iff_ne.mpr c15
                have H' := Aside0.mk H
                clear H
                go_wp2_with (first | ((with_reducible refine gate_callee (f := 20) rfl ?_); refine goesL_ (some 46) rfl rfl Try.func20 (by kernel_rfl) rfl #[.slice A0 l0.length c0, .int .u64 (IntKind.u64.wrap ((IntKind.u64.wrap (t160)) + 4)), .int .i64 2] rfl (by (try simp only [List.map_toArray, List.map_cons, List.map_nil]); first | done | rfl | (simp only [List.length_drop, List.length_take]; rfl)) ?_; (with_reducible refine (messuageref07_n.calls kj2 _ _ l0 (IntKind.u64.wrap ((IntKind.u64.wrap (t160)) + 4)) 2 t165 _ ?side1 ?side2 A10.out).mono ?_); (case side1 => repeat (first | exact (Kd.C_below HR0.out HB.out) | (with_reducible refine Kd.C_alloc ?_ _) | (with_reducible refine Kd.C_drewN ?_ _) | (with_reducible refine Kd.C_drew ?_))); (case side2 => exact HC0.out); rintro e w' ⟨rfl, ⟨nd, rfl⟩⟩; refine ⟨_, rfl, ?_⟩) | (go_at_call 20; (with_reducible refine (messuageref07_n.calls kj2 _ _ l0 (IntKind.u64.wrap ((IntKind.u64.wrap (t160)) + 6)) 2 t166 _ ?side1 ?side2 A12.out).mono ?_); (case side1 => repeat (first | exact (Kd.C_below HR0.out (by repeat (first | (with_reducible first | exact HB.out | apply below_alloc | apply pw_below_drewN | apply below_drew1) | exact HB.out))) | (with_reducible refine Kd.C_alloc ?_ _) | (with_reducible refine Kd.C_drewN ?_ _) | (with_reducible refine Kd.C_drew ?_))); (case side2 => exact HC0.out); rintro e w' ⟨rfl, ⟨nd, rfl⟩⟩) | (go_at_call 20; (with_reducible refine (messuageref07_n.calls kj2 _ _ l0 (IntKind.u64.wrap ((IntKind.u64.wrap (t160)) + 8)) 2 t167 _ ?side1 ?side2 A14.out).mono ?_); (case side1 => repeat (first | exact (Kd.C_below HR0.out (by repeat (first | (with_reducible first | exact HB.out | apply below_alloc | apply pw_below_drewN | apply below_drew1) | exact HB.out))) | (with_reducible refine Kd.C_alloc ?_ _) | (with_reducible refine Kd.C_drewN ?_ _) | (with_reducible refine Kd.C_drew ?_))); (case side2 => exact HC0.out); rintro e w' ⟨rfl, ⟨nd, rfl⟩⟩))
                go_meet
                case rel => exact ⟨_, (true), (by first | rfl | (simp; done) | (simp [*]; done)), H', ⟨by have := HJ2.out; first | omega | exact Nat.le_refl _⟩, ⟨by repeat (first | (with_reducible first | exact HB.out | apply below_alloc | apply pw_below_drewN | apply below_drew1) | exact HB.out)⟩⟩
            · rw [if_neg c13] at H
              have c13b0 : (t166 == 0) = false := beq_eq_false_iff_ne.mpr c13
              have c13b1 : (t166 != 0) = true := bne_iff_ne.mpr c13
              have H' := Aside0.mk H
              clear H
              go_wp2_with (first | ((with_reducible refine gate_callee (f := 20) rfl ?_); refine goesL_ (some 46) rfl rfl Try.func20 (by kernel_rfl) rfl #[.slice A0 l0.length c0, .int .u64 (IntKind.u64.wrap ((IntKind.u64.wrap (t160)) + 4)), .int .i64 2] rfl (by (try simp only [List.map_toArray, List.map_cons, List.map_nil]); first | done | rfl | (simp only [List.length_drop, List.length_take]; rfl)) ?_; (with_reducible refine (messuageref07_n.calls kj2 _ _ l0 (IntKind.u64.wrap ((IntKind.u64.wrap (t160)) + 4)) 2 t165 _ ?side1 ?side2 A10.out).mono ?_); (case side1 => repeat (first | exact (Kd.C_below HR0.out HB.out) | (with_reducible refine Kd.C_alloc ?_ _) | (with_reducible refine Kd.C_drewN ?_ _) | (with_reducible refine Kd.C_drew ?_))); (case side2 => exact HC0.out); rintro e w' ⟨rfl, ⟨nd, rfl⟩⟩; refine ⟨_, rfl, ?_⟩) | (go_at_call 20; (with_reducible refine (messuageref07_n.calls kj2 _ _ l0 (IntKind.u64.wrap ((IntKind.u64.wrap (t160)) + 6)) 2 t166 _ ?side1 ?side2 A12.out).mono ?_); (case side1 => repeat (first | exact (Kd.C_below HR0.out (by repeat (first | (with_reducible first | exact HB.out | apply below_alloc | apply pw_below_drewN | apply below_drew1) | exact HB.out))) | (with_reducible refine Kd.C_alloc ?_ _) | (with_reducible refine Kd.C_drewN ?_ _) | (with_reducible refine Kd.C_drew ?_))); (case side2 => exact HC0.out); rintro e w' ⟨rfl, ⟨nd, rfl⟩⟩))
              go_meet
              case rel => exact ⟨_, (true), (by first | rfl | (simp; done) | (simp [*]; done)), H', ⟨by have := HJ2.out; first | omega | exact Nat.le_refl _⟩, ⟨by repeat (first | (with_reducible first | exact HB.out | apply below_alloc | apply pw_below_drewN | apply below_drew1) | exact HB.out)⟩⟩
          · rw [if_neg c11] at H
            have c11b0 : (t165 == 0) = false := beq_eq_false_iff_ne.mpr c11
            have c11b1 : (t165 != 0) = true := bne_iff_ne.mpr c11
            (first | rw [c11b0] | (simp only [i64_w, i32_w]; rw [c11b0]) | skip)
            have H' := Aside0.mk H
            clear H
            go_wp2_with (first | ((with_reducible refine gate_callee (f := 20) rfl ?_); refine goesL_ (some 46) rfl rfl Try.func20 (by kernel_rfl) rfl #[.slice A0 l0.length c0, .int .u64 (IntKind.u64.wrap ((IntKind.u64.wrap (t160)) + 4)), .int .i64 2] rfl (by (try simp only [List.map_toArray, List.map_cons, List.map_nil]); first | done | rfl | (simp only [List.length_drop, List.length_take]; rfl)) ?_; (with_reducible refine (messuageref07_n.calls kj2 _ _ l0 (IntKind.u64.wrap ((IntKind.u64.wrap (t160)) + 4)) 2 t165 _ ?side1 ?side2 A10.out).mono ?_); (case side1 => repeat (first | exact (Kd.C_below HR0.out HB.out) | (with_reducible refine Kd.C_alloc ?_ _) | (with_reducible refine Kd.C_drewN ?_ _) | (with_reducible refine Kd.C_drew ?_))); (case side2 => exact HC0.out); rintro e w' ⟨rfl, ⟨nd, rfl⟩⟩; refine ⟨_, rfl, ?_⟩))
            go_meet
            case rel => exact ⟨_, (true), (by first | rfl | (simp; done) | (simp [*]; done)), H', ⟨by have := HJ2.out; first | omega | exact Nat.le_refl _⟩, ⟨by repeat (first | (with_reducible first | exact HB.out | apply below_alloc | apply pw_below_drewN | apply below_drew1) | exact HB.out)⟩⟩
        case rest =>
          clear HC9
          try clear c1
          try clear c2
          try clear p2
          try clear c4
          try clear c4b0
          try clear c4b1
          try clear c5
          try clear c10
          try clear c11
          try clear c11b0
          try clear c11b1
          try clear c13
          try clear c13b0
          try clear c13b1
          try clear c15
          try clear c15b0
          try clear c15b1
          try clear p2
          obtain ⟨kq, x69_8, rfl, HA, HJ8, HB⟩ := hcut
          cases kq with
          | zero => exact absurd HA.out (by simp [messuageref07_List.j1])
          | succ kj8 =>
            have H := HA.out
            clear HA
            simp only [messuageref07_List.j1] at H
            by_cases c16 : x69_8 = true
            · subst c16
              have H1 : (some (([] : List (S33)), 0, 70)) = some (r1, r2, r3) := by rw [if_pos rfl] at H; exact H
              clear H
              have H := H1
              clear H1
              simp only [Option.some.injEq, Prod.mk.injEq] at H
              obtain ⟨rfl, rfl, rfl⟩ := H
              go_wp2
              go_ret3
              exact ⟨_, by first | rfl | (simp [errW_none, errW_some] <;> rfl) | (simp [*, errW_none, errW_some] <;> rfl), by first | exact Kd.R_nil _ _ _ _ _ | exact Kd.N_nil _ _ _ _ _ | exact Kd.V_nil _ _ _ _ _ | exact Kd.Q_nil _ _ _ _ _ | exact Kd.S_nil _ _ _ _ _, by repeat (first | (with_reducible first | exact HB.out | apply below_alloc | apply pw_below_drewN | apply below_drew1) | exact HB.out)⟩
            · replace c16 := Bool.eq_false_iff.mpr c16
              subst c16
              have H1 : (messuageref07_List.l0 kj8 l0 t162 t163 t164 ([] : List (S33)) t164 0) = some (r1, r2, r3) := by rw [if_neg (show ¬ (false = true) by decide)] at H; exact H
              clear H
              have H := H1
              clear H1
              have H' := Aside0.mk H
              clear H
              go_wp2
              go_loopg [11, 12, 13] kj8 (fun kq v11 v12 v13 w' => ∃ (x11_3 : List (S33)) (x12_3 : Int) (x13_3 : Int), v12 = .int .u64 x12_3 ∧ v13 = .int .u64 x13_3 ∧ Aside0 (messuageref07_List.l0 kq l0 t162 t163 t164 x11_3 x12_3 x13_3 = some (r1, r2, r3)) ∧ Aside0 (kq ≤ kj8) ∧ Aside0 (Kd.R k33 33 w' w.heap.size (fun _ => True) v11 x11_3) ∧ Aside0 (Below w.heap.size w w'))
              case atStart => exact ⟨(([] : List (S33))), (t164), (0), (by first | rfl | (simp; done) | (simp [*]; done)), (by first | rfl | (simp; done) | (simp [*]; done)), H', ⟨Nat.le_refl _⟩, ⟨by first | exact Kd.R_nil _ _ _ _ _ | exact Kd.N_nil _ _ _ _ _ | exact Kd.V_nil _ _ _ _ _ | exact Kd.Q_nil _ _ _ _ _ | exact Kd.S_nil _ _ _ _ _⟩, ⟨by repeat (first | (with_reducible first | exact HB.out | apply below_alloc | apply pw_below_drewN | apply below_drew1) | exact HB.out)⟩⟩
              case round =>
                clear H'
                try clear c1
                try clear c2
                try clear p2
                try clear c4
                try clear c4b0
                try clear c4b1
                try clear c5
                try clear c10
                try clear c11
                try clear c11b0
                try clear c11b1
                try clear c13
                try clear c13b0
                try clear c13b1
                try clear c15
                try clear c15b0
                try clear c15b1
                try clear c16
                try clear p2
                obtain ⟨x11_3, x12_3, x13_3, rfl, rfl, HA, HK3, HO_11, HB⟩ := hrel
                cases gk with
                | zero => exact absurd HA.out (by simp [messuageref07_List.l0])
                | succ k3 =>
                  have H := HA.out
                  clear HA
                  simp only [messuageref07_List.l0] at H
                  by_cases c17 : x13_3 < t162
                  · rw [if_pos c17] at H
                    have c17b0 : decide (x13_3 < t162) = true := decide_eq_true c17
                    clear c17
                    replace H := Option.bind_eq_some_iff.mp H
                    obtain ⟨t168, A180, H⟩ := H
                    replace H : ((messuageref07_n.f k3 l0 (IntKind.u64.wrap (x12_3 + 30)) 2).bind fun t169 => ((messuageref07_n.f k3 l0 (IntKind.u64.wrap (x12_3 + 32)) 2).bind fun t170 => (if (IntKind.u64.wrap ((IntKind.u64.wrap (t164 + t163)) - x12_3)) < 46 then (messuageref07_List.j3 k3 l0 t162 t163 t164 x11_3 x12_3 x13_3 (IntKind.u64.wrap ((IntKind.u64.wrap ((IntKind.u64.wrap (46 + t168)) + t169)) + t170)) true) else ((messuageref07_n.f k3 l0 x12_3 4).bind fun t171 => (if t171 = 33639248 then (messuageref07_List.j3 k3 l0 t162 t163 t164 x11_3 x12_3 x13_3 (IntKind.u64.wrap ((IntKind.u64.wrap ((IntKind.u64.wrap (46 + t168)) + t169)) + t170)) (decide ((IntKind.u64.wrap ((IntKind.u64.wrap ((IntKind.u64.wrap (46 + t168)) + t169)) + t170)) > (IntKind.u64.wrap ((IntKind.u64.wrap (t164 + t163)) - x12_3))))) else (messuageref07_List.j3 k3 l0 t162 t163 t164 x11_3 x12_3 x13_3 (IntKind.u64.wrap ((IntKind.u64.wrap ((IntKind.u64.wrap (46 + t168)) + t169)) + t170)) true)))))) = some (r1, r2, r3) := H
                    have A18 := Aside0.mk A180
                    clear A180
                    replace H := Option.bind_eq_some_iff.mp H
                    obtain ⟨t169, A190, H⟩ := H
                    replace H : ((messuageref07_n.f k3 l0 (IntKind.u64.wrap (x12_3 + 32)) 2).bind fun t170 => (if (IntKind.u64.wrap ((IntKind.u64.wrap (t164 + t163)) - x12_3)) < 46 then (messuageref07_List.j3 k3 l0 t162 t163 t164 x11_3 x12_3 x13_3 (IntKind.u64.wrap ((IntKind.u64.wrap ((IntKind.u64.wrap (46 + t168)) + t169)) + t170)) true) else ((messuageref07_n.f k3 l0 x12_3 4).bind fun t171 => (if t171 = 33639248 then (messuageref07_List.j3 k3 l0 t162 t163 t164 x11_3 x12_3 x13_3 (IntKind.u64.wrap ((IntKind.u64.wrap ((IntKind.u64.wrap (46 + t168)) + t169)) + t170)) (decide ((IntKind.u64.wrap ((IntKind.u64.wrap ((IntKind.u64.wrap (46 + t168)) + t169)) + t170)) > (IntKind.u64.wrap ((IntKind.u64.wrap (t164 + t163)) - x12_3))))) else (messuageref07_List.j3 k3 l0 t162 t163 t164 x11_3 x12_3 x13_3 (IntKind.u64.wrap ((IntKind.u64.wrap ((IntKind.u64.wrap (46 + t168)) + t169)) + t170)) true))))) = some (r1, r2, r3) := H
                    have A19 := Aside0.mk A190
                    clear A190
                    replace H := Option.bind_eq_some_iff.mp H
                    obtain ⟨t170, A200, H⟩ := H
                    replace H : (if (IntKind.u64.wrap ((IntKind.u64.wrap (t164 + t163)) - x12_3)) < 46 then (messuageref07_List.j3 k3 l0 t162 t163 t164 x11_3 x12_3 x13_3 (IntKind.u64.wrap ((IntKind.u64.wrap ((IntKind.u64.wrap (46 + t168)) + t169)) + t170)) true) else ((messuageref07_n.f k3 l0 x12_3 4).bind fun t171 => (if t171 = 33639248 then (messuageref07_List.j3 k3 l0 t162 t163 t164 x11_3 x12_3 x13_3 (IntKind.u64.wrap ((IntKind.u64.wrap ((IntKind.u64.wrap (46 + t168)) + t169)) + t170)) (decide ((IntKind.u64.wrap ((IntKind.u64.wrap ((IntKind.u64.wrap (46 + t168)) + t169)) + t170)) > (IntKind.u64.wrap ((IntKind.u64.wrap (t164 + t163)) - x12_3))))) else (messuageref07_List.j3 k3 l0 t162 t163 t164 x11_3 x12_3 x13_3 (IntKind.u64.wrap ((IntKind.u64.wrap ((IntKind.u64.wrap (46 + t168)) + t169)) + t170)) true)))) = some (r1, r2, r3) := H
                    have A20 := Aside0.mk A200
                    clear A200
                    have HC21 := Aside0.mk H
                    clear H
                    go_upto_region 15 with (first | ((with_reducible refine gate_callee (f := 20) rfl ?_); refine goesL_ (some 84) rfl rfl Try.func20 (by kernel_rfl) rfl #[.slice A0 l0.length c0, .int .u64 (IntKind.u64.wrap (x12_3 + 28)), .int .i64 2] rfl (by (try simp only [List.map_toArray, List.map_cons, List.map_nil]); first | done | rfl | (simp only [List.length_drop, List.length_take]; rfl)) ?_; (with_reducible refine (messuageref07_n.calls k3 _ _ l0 (IntKind.u64.wrap (x12_3 + 28)) 2 t168 _ ?side1 ?side2 A18.out).mono ?_); (case side1 => repeat (first | exact (Kd.C_below HR0.out HB.out) | (with_reducible refine Kd.C_alloc ?_ _) | (with_reducible refine Kd.C_drewN ?_ _) | (with_reducible refine Kd.C_drew ?_))); (case side2 => exact HC0.out); rintro e w' ⟨rfl, ⟨nd, rfl⟩⟩; refine ⟨_, rfl, ?_⟩) | ((with_reducible refine gate_callee (f := 20) rfl ?_); refine goesL_ (some 89) rfl rfl Try.func20 (by kernel_rfl) rfl #[.slice A0 l0.length c0, .int .u64 (IntKind.u64.wrap (x12_3 + 30)), .int .i64 2] rfl (by (try simp only [List.map_toArray, List.map_cons, List.map_nil]); first | done | rfl | (simp only [List.length_drop, List.length_take]; rfl)) ?_; (with_reducible refine (messuageref07_n.calls k3 _ _ l0 (IntKind.u64.wrap (x12_3 + 30)) 2 t169 _ ?side1 ?side2 A19.out).mono ?_); (case side1 => repeat (first | exact (Kd.C_below HR0.out (by repeat (first | (with_reducible first | exact HB.out | apply below_alloc | apply pw_below_drewN | apply below_drew1) | exact HB.out))) | (with_reducible refine Kd.C_alloc ?_ _) | (with_reducible refine Kd.C_drewN ?_ _) | (with_reducible refine Kd.C_drew ?_))); (case side2 => exact HC0.out); rintro e w' ⟨rfl, ⟨nd, rfl⟩⟩; refine ⟨_, rfl, ?_⟩) | ((with_reducible refine gate_callee (f := 20) rfl ?_); refine goesL_ (some 94) rfl rfl Try.func20 (by kernel_rfl) rfl #[.slice A0 l0.length c0, .int .u64 (IntKind.u64.wrap (x12_3 + 32)), .int .i64 2] rfl (by (try simp only [List.map_toArray, List.map_cons, List.map_nil]); first | done | rfl | (simp only [List.length_drop, List.length_take]; rfl)) ?_; (with_reducible refine (messuageref07_n.calls k3 _ _ l0 (IntKind.u64.wrap (x12_3 + 32)) 2 t170 _ ?side1 ?side2 A20.out).mono ?_); (case side1 => repeat (first | exact (Kd.C_below HR0.out (by repeat (first | (with_reducible first | exact HB.out | apply below_alloc | apply pw_below_drewN | apply below_drew1) | exact HB.out))) | (with_reducible refine Kd.C_alloc ?_ _) | (with_reducible refine Kd.C_drewN ?_ _) | (with_reducible refine Kd.C_drew ?_))); (case side2 => exact HC0.out); rintro e w' ⟨rfl, ⟨nd, rfl⟩⟩; refine ⟨_, rfl, ?_⟩))
                    (try simp only [Act.put, List.setIfInBounds_toArray, List.set_cons_zero, List.set_cons_succ])
                    go_cut [108] (fun v108 wc => ∃ (kq : Nat) (x108_20 : Bool), v108 = .bool x108_20 ∧ Aside0 (messuageref07_List.j3 kq l0 t162 t163 t164 x11_3 x12_3 x13_3 (IntKind.u64.wrap ((IntKind.u64.wrap ((IntKind.u64.wrap (46 + t168)) + t169)) + t170)) x108_20 = some (r1, r2, r3)) ∧ Aside0 (kq ≤ k3) ∧ Aside0 (Kd.R k33 33 wc w.heap.size (fun _ => True) u11 x11_3) ∧ Aside0 (Below w.heap.size w wc))
                    case first =>
                      have H := HC21.out
                      clear HC21
                      by_cases c22 : (IntKind.u64.wrap ((IntKind.u64.wrap (t164 + t163)) - x12_3)) < 46
                      · rw [if_pos c22] at H
                        have c22b0 : decide ((IntKind.u64.wrap ((IntKind.u64.wrap (t164 + t163)) - x12_3)) < 46) = true := decide_eq_true c22
                        clear c22
                        (first | rw [c22b0] | (simp only [i64_w, i32_w]; rw [c22b0]) | skip)
                        have H' := Aside0.mk H
                        clear H
                        go_wp2
                        go_meet
                        case rel => exact ⟨_, (true), (by first | rfl | (simp; done) | (simp [*]; done)), H', ⟨by have := HJ2.out; have := HJ8.out; have := HK3.out; first | omega | exact Nat.le_refl _⟩, ⟨by (with_reducible repeat (first | apply Kd.R_alloc | apply Kd.R_drewN | apply Kd.R_drew)); exact HO_11.out⟩, ⟨by repeat (first | (with_reducible first | exact HB.out | apply below_alloc | apply pw_below_drewN | apply below_drew1) | exact HB.out)⟩⟩
                      · rw [if_neg c22] at H
                        have c22b0 : decide ((IntKind.u64.wrap ((IntKind.u64.wrap (t164 + t163)) - x12_3)) < 46) = false := decide_eq_false c22
                        clear c22
                        (first | rw [c22b0] | (simp only [i64_w, i32_w]; rw [c22b0]) | skip)
                        replace H := Option.bind_eq_some_iff.mp H
                        obtain ⟨t171, A230, H⟩ := H
                        replace H : (if t171 = 33639248 then (messuageref07_List.j3 k3 l0 t162 t163 t164 x11_3 x12_3 x13_3 (IntKind.u64.wrap ((IntKind.u64.wrap ((IntKind.u64.wrap (46 + t168)) + t169)) + t170)) (decide ((IntKind.u64.wrap ((IntKind.u64.wrap ((IntKind.u64.wrap (46 + t168)) + t169)) + t170)) > (IntKind.u64.wrap ((IntKind.u64.wrap (t164 + t163)) - x12_3))))) else (messuageref07_List.j3 k3 l0 t162 t163 t164 x11_3 x12_3 x13_3 (IntKind.u64.wrap ((IntKind.u64.wrap ((IntKind.u64.wrap (46 + t168)) + t169)) + t170)) true)) = some (r1, r2, r3) := H
                        have A23 := Aside0.mk A230
                        clear A230
                        by_cases c24 : t171 = 33639248
                        · rw [if_pos c24] at H
                          have c24b0 : (t171 == 33639248) = true := beq_iff_eq.mpr c24
                          have c24b1 : (t171 != 33639248) = false := bne_eq_false_iff_eq.mpr c24
                          clear c24
                          have H' := Aside0.mk H
                          clear H
                          go_wp2_with (first | (go_at_call 20; (with_reducible refine (messuageref07_n.calls k3 _ _ l0 x12_3 4 t171 _ ?side1 ?side2 A23.out).mono ?_); (case side1 => repeat (first | exact (Kd.C_below HR0.out HB.out) | (with_reducible refine Kd.C_alloc ?_ _) | (with_reducible refine Kd.C_drewN ?_ _) | (with_reducible refine Kd.C_drew ?_))); (case side2 => exact HC0.out); rintro e w' ⟨rfl, ⟨nd, rfl⟩⟩))
                          go_meet
                          case rel => exact ⟨_, (decide ((IntKind.u64.wrap ((IntKind.u64.wrap ((IntKind.u64.wrap (46 + t168)) + t169)) + t170)) > (IntKind.u64.wrap ((IntKind.u64.wrap (t164 + t163)) - x12_3)))), (by first | rfl | (simp; done) | (simp [*]; done)), H', ⟨by have := HJ2.out; have := HJ8.out; have := HK3.out; first | omega | exact Nat.le_refl _⟩, ⟨by (with_reducible repeat (first | apply Kd.R_alloc | apply Kd.R_drewN | apply Kd.R_drew)); exact HO_11.out⟩, ⟨by repeat (first | (with_reducible first | exact HB.out | apply below_alloc | apply pw_below_drewN | apply below_drew1) | exact HB.out)⟩⟩
                        · rw [if_neg c24] at H
                          have c24b0 : (t171 == 33639248) = false := beq_eq_false_iff_ne.mpr c24
                          have c24b1 : (t171 != 33639248) = true := bne_iff_ne.mpr c24
                          have H' := Aside0.mk H
                          clear H
                          go_wp2_with (first | (go_at_call 20; (with_reducible refine (messuageref07_n.calls k3 _ _ l0 x12_3 4 t171 _ ?side1 ?side2 A23.out).mono ?_); (case side1 => repeat (first | exact (Kd.C_below HR0.out HB.out) | (with_reducible refine Kd.C_alloc ?_ _) | (with_reducible refine Kd.C_drewN ?_ _) | (with_reducible refine Kd.C_drew ?_))); (case side2 => exact HC0.out); rintro e w' ⟨rfl, ⟨nd, rfl⟩⟩))
                          go_meet
                          case rel => exact ⟨_, (true), (by first | rfl | (simp; done) | (simp [*]; done)), H', ⟨by have := HJ2.out; have := HJ8.out; have := HK3.out; first | omega | exact Nat.le_refl _⟩, ⟨by (with_reducible repeat (first | apply Kd.R_alloc | apply Kd.R_drewN | apply Kd.R_drew)); exact HO_11.out⟩, ⟨by repeat (first | (with_reducible first | exact HB.out | apply below_alloc | apply pw_below_drewN | apply below_drew1) | exact HB.out)⟩⟩
                    case rest =>
                      clear HC21
                      try clear c1
                      try clear c2
                      try clear p2
                      try clear c4
                      try clear c4b0
                      try clear c4b1
                      try clear c5
                      try clear c10
                      try clear c11
                      try clear c11b0
                      try clear c11b1
                      try clear c13
                      try clear c13b0
                      try clear c13b1
                      try clear c15
                      try clear c15b0
                      try clear c15b1
                      try clear c16
                      try clear c17
                      try clear c17b0
                      try clear c19
                      try clear c20
                      try clear c22
                      try clear c22b0
                      try clear c24
                      try clear c24b0
                      try clear c24b1
                      try clear p2
                      obtain ⟨kq, x108_20, rfl, HA, HJ20, HO_11, HB⟩ := hcut
                      cases kq with
                      | zero => exact absurd HA.out (by simp [messuageref07_List.j3])
                      | succ kj20 =>
                        have H := HA.out
                        clear HA
                        simp only [messuageref07_List.j3] at H
                        by_cases c25 : x108_20 = true
                        · subst c25
                          have H1 : (some (([] : List (S33)), 0, 70)) = some (r1, r2, r3) := by rw [if_pos rfl] at H; exact H
                          clear H
                          have H := H1
                          clear H1
                          simp only [Option.some.injEq, Prod.mk.injEq] at H
                          obtain ⟨rfl, rfl, rfl⟩ := H
                          go_wp2
                          go_ret3
                          exact ⟨_, by first | rfl | (simp [errW_none, errW_some] <;> rfl) | (simp [*, errW_none, errW_some] <;> rfl), by first | exact Kd.R_nil _ _ _ _ _ | exact Kd.N_nil _ _ _ _ _ | exact Kd.V_nil _ _ _ _ _ | exact Kd.Q_nil _ _ _ _ _ | exact Kd.S_nil _ _ _ _ _, by repeat (first | (with_reducible first | exact HB.out | apply below_alloc | apply pw_below_drewN | apply below_drew1) | exact HB.out)⟩
                        · replace c25 := Bool.eq_false_iff.mpr c25
                          subst c25
                          have H1 : ((messuageref07_n.f kj20 l0 (IntKind.u64.wrap (x12_3 + 28)) 2).bind fun t172 => (if 0 ≤ (IntKind.u64.wrap (x12_3 + 46)) then (if (IntKind.u64.wrap (x12_3 + 46)) ≤ (IntKind.u64.wrap ((IntKind.u64.wrap (x12_3 + 46)) + t172)) then (if (IntKind.u64.wrap ((IntKind.u64.wrap (x12_3 + 46)) + t172)) ≤ (l0.length : Int) then ((messuageref07_n.f kj20 l0 (IntKind.u64.wrap (x12_3 + 10)) 2).bind fun t174 => ((messuageref07_n.f kj20 l0 (IntKind.u64.wrap (x12_3 + 24)) 4).bind fun t175 => ((messuageref07_n.f kj20 l0 (IntKind.u64.wrap (x12_3 + 20)) 4).bind fun t176 => ((messuageref07_n.f kj20 l0 (IntKind.u64.wrap (x12_3 + 42)) 4).bind fun t177 => (if x11_3.length < 2932031007402 then (messuageref07_List.l0 kj20 l0 t162 t163 t164 (x11_3 ++ [(⟨strOfNums ((l0.take ((IntKind.u64.wrap ((IntKind.u64.wrap (x12_3 + 46)) + t172)) : Int).toNat).drop ((IntKind.u64.wrap (x12_3 + 46)) : Int).toNat), wrap64 (t174), t175, t176, t177⟩ : S33)]) (IntKind.u64.wrap (x12_3 + (IntKind.u64.wrap ((IntKind.u64.wrap ((IntKind.u64.wrap (46 + t168)) + t169)) + t170)))) (IntKind.u64.wrap (x13_3 + 1))) else (none)))))) else (none)) else (none)) else (none))) = some (r1, r2, r3) := by rw [if_neg (show ¬ (false = true) by decide)] at H; exact H
                          clear H
                          have H := H1
                          clear H1
                          replace H := Option.bind_eq_some_iff.mp H
                          obtain ⟨t172, A260, H⟩ := H
                          replace H : (if 0 ≤ (IntKind.u64.wrap (x12_3 + 46)) then (if (IntKind.u64.wrap (x12_3 + 46)) ≤ (IntKind.u64.wrap ((IntKind.u64.wrap (x12_3 + 46)) + t172)) then (if (IntKind.u64.wrap ((IntKind.u64.wrap (x12_3 + 46)) + t172)) ≤ (l0.length : Int) then ((messuageref07_n.f kj20 l0 (IntKind.u64.wrap (x12_3 + 10)) 2).bind fun t174 => ((messuageref07_n.f kj20 l0 (IntKind.u64.wrap (x12_3 + 24)) 4).bind fun t175 => ((messuageref07_n.f kj20 l0 (IntKind.u64.wrap (x12_3 + 20)) 4).bind fun t176 => ((messuageref07_n.f kj20 l0 (IntKind.u64.wrap (x12_3 + 42)) 4).bind fun t177 => (if x11_3.length < 2932031007402 then (messuageref07_List.l0 kj20 l0 t162 t163 t164 (x11_3 ++ [(⟨strOfNums ((l0.take ((IntKind.u64.wrap ((IntKind.u64.wrap (x12_3 + 46)) + t172)) : Int).toNat).drop ((IntKind.u64.wrap (x12_3 + 46)) : Int).toNat), wrap64 (t174), t175, t176, t177⟩ : S33)]) (IntKind.u64.wrap (x12_3 + (IntKind.u64.wrap ((IntKind.u64.wrap ((IntKind.u64.wrap (46 + t168)) + t169)) + t170)))) (IntKind.u64.wrap (x13_3 + 1))) else (none)))))) else (none)) else (none)) else (none)) = some (r1, r2, r3) := H
                          have A26 := Aside0.mk A260
                          clear A260
                          obtain ⟨ji27, hji27⟩ : ∃ j_ : Int, (IntKind.u64.wrap (x12_3 + 46)) = j_ := ⟨_, rfl⟩
                          replace H : (if 0 ≤ (ji27) then (if (ji27) ≤ (IntKind.u64.wrap ((ji27) + t172)) then (if (IntKind.u64.wrap ((ji27) + t172)) ≤ (l0.length : Int) then ((messuageref07_n.f kj20 l0 (IntKind.u64.wrap (x12_3 + 10)) 2).bind fun t174 => ((messuageref07_n.f kj20 l0 (IntKind.u64.wrap (x12_3 + 24)) 4).bind fun t175 => ((messuageref07_n.f kj20 l0 (IntKind.u64.wrap (x12_3 + 20)) 4).bind fun t176 => ((messuageref07_n.f kj20 l0 (IntKind.u64.wrap (x12_3 + 42)) 4).bind fun t177 => (if x11_3.length < 2932031007402 then (messuageref07_List.l0 kj20 l0 t162 t163 t164 (x11_3 ++ [(⟨strOfNums ((l0.take ((IntKind.u64.wrap ((ji27) + t172)) : Int).toNat).drop ((ji27) : Int).toNat), wrap64 (t174), t175, t176, t177⟩ : S33)]) (IntKind.u64.wrap (x12_3 + (IntKind.u64.wrap ((IntKind.u64.wrap ((IntKind.u64.wrap (46 + t168)) + t169)) + t170)))) (IntKind.u64.wrap (x13_3 + 1))) else (none)))))) else (none)) else (none)) else (none)) = some (r1, r2, r3) := by first | (rw [hji27] at H; exact H) | (simp only [hji27] at H ⊢; exact H)
                          (try rw [hji27] at A26)
                          by_cases c28 : 0 ≤ (ji27)
                          · rw [if_pos c28] at H
                            have c28b0 := eq_true c28
                            have c28b1 : decide (0 ≤ (ji27)) = true := decide_eq_true c28
                            clear c28
                            by_cases c29 : (ji27) ≤ (IntKind.u64.wrap ((ji27) + t172))
                            · rw [if_pos c29] at H
                              have c29b0 := eq_true c29
                              have c29b1 : decide ((ji27) ≤ (IntKind.u64.wrap ((ji27) + t172))) = true := decide_eq_true c29
                              by_cases c30 : (IntKind.u64.wrap ((ji27) + t172)) ≤ (l0.length : Int)
                              · rw [if_pos c30] at H
                                have c30b0 := eq_true c30
                                have c30b1 : decide ((IntKind.u64.wrap ((ji27) + t172)) ≤ (l0.length : Int)) = true := decide_eq_true c30
                                replace H := Option.bind_eq_some_iff.mp H
                                obtain ⟨t174, A310, H⟩ := H
                                replace H : ((messuageref07_n.f kj20 l0 (IntKind.u64.wrap (x12_3 + 24)) 4).bind fun t175 => ((messuageref07_n.f kj20 l0 (IntKind.u64.wrap (x12_3 + 20)) 4).bind fun t176 => ((messuageref07_n.f kj20 l0 (IntKind.u64.wrap (x12_3 + 42)) 4).bind fun t177 => (if x11_3.length < 2932031007402 then (messuageref07_List.l0 kj20 l0 t162 t163 t164 (x11_3 ++ [(⟨strOfNums ((l0.take ((IntKind.u64.wrap ((ji27) + t172)) : Int).toNat).drop ((ji27) : Int).toNat), wrap64 (t174), t175, t176, t177⟩ : S33)]) (IntKind.u64.wrap (x12_3 + (IntKind.u64.wrap ((IntKind.u64.wrap ((IntKind.u64.wrap (46 + t168)) + t169)) + t170)))) (IntKind.u64.wrap (x13_3 + 1))) else (none))))) = some (r1, r2, r3) := H
                                have A31 := Aside0.mk A310
                                clear A310
                                replace H := Option.bind_eq_some_iff.mp H
                                obtain ⟨t175, A320, H⟩ := H
                                replace H : ((messuageref07_n.f kj20 l0 (IntKind.u64.wrap (x12_3 + 20)) 4).bind fun t176 => ((messuageref07_n.f kj20 l0 (IntKind.u64.wrap (x12_3 + 42)) 4).bind fun t177 => (if x11_3.length < 2932031007402 then (messuageref07_List.l0 kj20 l0 t162 t163 t164 (x11_3 ++ [(⟨strOfNums ((l0.take ((IntKind.u64.wrap ((ji27) + t172)) : Int).toNat).drop ((ji27) : Int).toNat), wrap64 (t174), t175, t176, t177⟩ : S33)]) (IntKind.u64.wrap (x12_3 + (IntKind.u64.wrap ((IntKind.u64.wrap ((IntKind.u64.wrap (46 + t168)) + t169)) + t170)))) (IntKind.u64.wrap (x13_3 + 1))) else (none)))) = some (r1, r2, r3) := H
                                have A32 := Aside0.mk A320
                                clear A320
                                replace H := Option.bind_eq_some_iff.mp H
                                obtain ⟨t176, A330, H⟩ := H
                                replace H : ((messuageref07_n.f kj20 l0 (IntKind.u64.wrap (x12_3 + 42)) 4).bind fun t177 => (if x11_3.length < 2932031007402 then (messuageref07_List.l0 kj20 l0 t162 t163 t164 (x11_3 ++ [(⟨strOfNums ((l0.take ((IntKind.u64.wrap ((ji27) + t172)) : Int).toNat).drop ((ji27) : Int).toNat), wrap64 (t174), t175, t176, t177⟩ : S33)]) (IntKind.u64.wrap (x12_3 + (IntKind.u64.wrap ((IntKind.u64.wrap ((IntKind.u64.wrap (46 + t168)) + t169)) + t170)))) (IntKind.u64.wrap (x13_3 + 1))) else (none))) = some (r1, r2, r3) := H
                                have A33 := Aside0.mk A330
                                clear A330
                                replace H := Option.bind_eq_some_iff.mp H
                                obtain ⟨t177, A340, H⟩ := H
                                replace H : (if x11_3.length < 2932031007402 then (messuageref07_List.l0 kj20 l0 t162 t163 t164 (x11_3 ++ [(⟨strOfNums ((l0.take ((IntKind.u64.wrap ((ji27) + t172)) : Int).toNat).drop ((ji27) : Int).toNat), wrap64 (t174), t175, t176, t177⟩ : S33)]) (IntKind.u64.wrap (x12_3 + (IntKind.u64.wrap ((IntKind.u64.wrap ((IntKind.u64.wrap (46 + t168)) + t169)) + t170)))) (IntKind.u64.wrap (x13_3 + 1))) else (none)) = some (r1, r2, r3) := H
                                have A34 := Aside0.mk A340
                                clear A340
                                by_cases c35 : x11_3.length < 2932031007402
                                · rw [if_pos c35] at H
                                  have LMc35 := Aside0.mk c35
                                  clear c35
                                  obtain ⟨y178, hy178⟩ : ∃ y_ : List (S33), y_ = (x11_3 ++ [(⟨strOfNums ((l0.take ((IntKind.u64.wrap ((ji27) + t172)) : Int).toNat).drop ((ji27) : Int).toNat), wrap64 (t174), t175, t176, t177⟩ : S33)]) := ⟨_, rfl⟩
                                  replace H : (messuageref07_List.l0 kj20 l0 t162 t163 t164 y178 (IntKind.u64.wrap (x12_3 + (IntKind.u64.wrap ((IntKind.u64.wrap ((IntKind.u64.wrap (46 + t168)) + t169)) + t170)))) (IntKind.u64.wrap (x13_3 + 1))) = some (r1, r2, r3) := by first | (rw [hy178]; with_reducible exact H) | (have H2_ := (Option.bind_some _ _).symm.trans H; rw [hy178]; with_reducible exact H2_) | (have H2_ := (Option.bind_some _ _).symm.trans H; with_reducible exact H2_) | with_reducible exact H | (rw [hy178]; exact H) | exact H
                                  have Ny178 := Aside0.mk hy178
                                  clear hy178
                                  have H' := Aside0.mk H
                                  clear H
                                  go_wp2_with (first | ((with_reducible refine gate_callee (f := 20) rfl ?_); refine goesL_ (some 117) rfl rfl Try.func20 (by kernel_rfl) rfl #[.slice A0 l0.length c0, .int .u64 (IntKind.u64.wrap (x12_3 + 28)), .int .i64 2] rfl (by (try simp only [List.map_toArray, List.map_cons, List.map_nil]); first | done | rfl | (simp only [List.length_drop, List.length_take]; rfl)) ?_; (with_reducible refine (messuageref07_n.calls kj20 _ _ l0 (IntKind.u64.wrap (x12_3 + 28)) 2 t172 _ ?side1 ?side2 A26.out).mono ?_); (case side1 => repeat (first | exact (Kd.C_below HR0.out HB.out) | (with_reducible refine Kd.C_alloc ?_ _) | (with_reducible refine Kd.C_drewN ?_ _) | (with_reducible refine Kd.C_drew ?_))); (case side2 => exact HC0.out); rintro e w' ⟨rfl, ⟨nd, rfl⟩⟩; refine ⟨_, rfl, ?_⟩; obtain ⟨i036, hi036, _, hsz36, _⟩ := info_parts info5; obtain ⟨A36, hcut36, hA36, hC36⟩ := print_mid_of (P := Try.prog) (Value.int .u8) 0 22 5 .u64 .u64 Try.underlying22 hi036 hsz36 A0 c0 l0 (ji27) (IntKind.u64.wrap ((ji27) + t172)) (of_decide_eq_true (by first | (with_reducible assumption) | assumption)) (by first | omega | exact of_decide_eq_true (by first | (with_reducible assumption) | assumption)) (of_decide_eq_true (by first | (with_reducible assumption) | assumption)) HC0.out; have HR173 := Aside0.mk (Kd.C_of_reads (h1 := fun _ => rfl) (hA36 _ (Kd.reads_of_C HR0.out))); have HC173 := Aside0.mk hC36; clear hA36 hC36 hi036 hsz36; have hcv37 := Kd.C_string (P := Try.prog) (A := A36) (c := (c0 - (ji27).toNat)) Try.underlying22 Try.underlying5 Try.underlying9 (Kd.C_below HR173.out HB.out); rw [show ((l0.take ((IntKind.u64.wrap ((ji27) + t172)) : Int).toNat).drop ((ji27) : Int).toNat).length = ((IntKind.u64.wrap ((ji27) + t172)).toNat - (ji27).toNat) from (by rw [List.length_drop, List.length_take]; have h_ : ((IntKind.u64.wrap ((ji27) + t172)) : Int) ≤ (l0.length : Int) := of_decide_eq_true (by first | (with_reducible assumption) | assumption); omega)] at hcv37; have hcw37 := fun n_ : Nat => conv_len (Kd.C_string (P := Try.prog) (A := A36) (c := (c0 - (ji27).toNat)) Try.underlying22 Try.underlying5 Try.underlying9 (Kd.C_drewN (Kd.C_below HR173.out HB.out) n_)) (show ((l0.take ((IntKind.u64.wrap ((ji27) + t172)) : Int).toNat).drop ((ji27) : Int).toNat).length = ((IntKind.u64.wrap ((ji27) + t172)).toNat - (ji27).toNat) from (by rw [List.length_drop, List.length_take]; have h_ : ((IntKind.u64.wrap ((ji27) + t172)) : Int) ≤ (l0.length : Int) := of_decide_eq_true (by first | (with_reducible assumption) | assumption); omega))) | ((with_reducible refine gate_callee (f := 20) rfl ?_); refine goesL_ (some 126) rfl rfl Try.func20 (by kernel_rfl) rfl #[.slice A0 l0.length c0, .int .u64 (IntKind.u64.wrap (x12_3 + 10)), .int .i64 2] rfl (by (try simp only [List.map_toArray, List.map_cons, List.map_nil]); first | done | rfl | (simp only [List.length_drop, List.length_take]; rfl)) ?_; (with_reducible refine (messuageref07_n.calls kj20 _ _ l0 (IntKind.u64.wrap (x12_3 + 10)) 2 t174 _ ?side1 ?side2 A31.out).mono ?_); (case side1 => repeat (first | exact (Kd.C_below HR0.out (by repeat (first | (with_reducible first | exact HB.out | apply below_alloc | apply pw_below_drewN | apply below_drew1) | exact HB.out))) | (with_reducible refine Kd.C_alloc ?_ _) | (with_reducible refine Kd.C_drewN ?_ _) | (with_reducible refine Kd.C_drew ?_))); (case side2 => exact HC0.out); rintro e w' ⟨rfl, ⟨nd, rfl⟩⟩; refine ⟨_, rfl, ?_⟩) | ((with_reducible refine gate_callee (f := 20) rfl ?_); refine goesL_ (some 131) rfl rfl Try.func20 (by kernel_rfl) rfl #[.slice A0 l0.length c0, .int .u64 (IntKind.u64.wrap (x12_3 + 24)), .int .i64 4] rfl (by (try simp only [List.map_toArray, List.map_cons, List.map_nil]); first | done | rfl | (simp only [List.length_drop, List.length_take]; rfl)) ?_; (with_reducible refine (messuageref07_n.calls kj20 _ _ l0 (IntKind.u64.wrap (x12_3 + 24)) 4 t175 _ ?side1 ?side2 A32.out).mono ?_); (case side1 => repeat (first | exact (Kd.C_below HR0.out (by repeat (first | (with_reducible first | exact HB.out | apply below_alloc | apply pw_below_drewN | apply below_drew1) | exact HB.out))) | (with_reducible refine Kd.C_alloc ?_ _) | (with_reducible refine Kd.C_drewN ?_ _) | (with_reducible refine Kd.C_drew ?_))); (case side2 => exact HC0.out); rintro e w' ⟨rfl, ⟨nd, rfl⟩⟩; refine ⟨_, rfl, ?_⟩) | ((with_reducible refine gate_callee (f := 20) rfl ?_); refine goesL_ (some 135) rfl rfl Try.func20 (by kernel_rfl) rfl #[.slice A0 l0.length c0, .int .u64 (IntKind.u64.wrap (x12_3 + 20)), .int .i64 4] rfl (by (try simp only [List.map_toArray, List.map_cons, List.map_nil]); first | done | rfl | (simp only [List.length_drop, List.length_take]; rfl)) ?_; (with_reducible refine (messuageref07_n.calls kj20 _ _ l0 (IntKind.u64.wrap (x12_3 + 20)) 4 t176 _ ?side1 ?side2 A33.out).mono ?_); (case side1 => repeat (first | exact (Kd.C_below HR0.out (by repeat (first | (with_reducible first | exact HB.out | apply below_alloc | apply pw_below_drewN | apply below_drew1) | exact HB.out))) | (with_reducible refine Kd.C_alloc ?_ _) | (with_reducible refine Kd.C_drewN ?_ _) | (with_reducible refine Kd.C_drew ?_))); (case side2 => exact HC0.out); rintro e w' ⟨rfl, ⟨nd, rfl⟩⟩; refine ⟨_, rfl, ?_⟩) | ((with_reducible refine gate_callee (f := 20) rfl ?_); refine goesL_ (some 139) rfl rfl Try.func20 (by kernel_rfl) rfl #[.slice A0 l0.length c0, .int .u64 (IntKind.u64.wrap (x12_3 + 42)), .int .i64 4] rfl (by (try simp only [List.map_toArray, List.map_cons, List.map_nil]); first | done | rfl | (simp only [List.length_drop, List.length_take]; rfl)) ?_; (with_reducible refine (messuageref07_n.calls kj20 _ _ l0 (IntKind.u64.wrap (x12_3 + 42)) 4 t177 _ ?side1 ?side2 A34.out).mono ?_); (case side1 => repeat (first | exact (Kd.C_below HR0.out (by repeat (first | (with_reducible first | exact HB.out | apply below_alloc | apply pw_below_drewN | apply below_drew1) | exact HB.out))) | (with_reducible refine Kd.C_alloc ?_ _) | (with_reducible refine Kd.C_drewN ?_ _) | (with_reducible refine Kd.C_drew ?_))); (case side2 => exact HC0.out); rintro e w' ⟨rfl, ⟨nd, rfl⟩⟩; refine ⟨_, rfl, ?_⟩) | ((with_reducible refine gate_builtin (b := .append) (xs := #[.tmp 121, .tmp 141]) rfl ?_); at_builtin; refine Kd.R_append k33 (w0 := w) w.heap.size rfl (.tmp 121) (.tmp 141) 27 33 (.agg #[(.string ⟨#[]⟩), (.int .i64 0), (.int .u64 0), (.int .u64 0), (.int .u64 0)]) 48 rfl Try.underlying27 info33 rfl (by decide) (by omega) u11 x11_3 (⟨strOfNums ((l0.take ((IntKind.u64.wrap ((ji27) + t172)) : Int).toNat).drop ((ji27) : Int).toNat), wrap64 (t174), t175, t176, t177⟩ : S33) [.string (strOfNums ((l0.take ((IntKind.u64.wrap ((ji27) + t172)) : Int).toNat).drop ((ji27) : Int).toNat)), .int .i64 (wrap64 (t174)), .int .u64 t175, .int .u64 t176, .int .u64 t177] (fun _ => True) (fun _ => False) rfl rfl ?aP (fun _ hk => hk.elim) ?aF ?aO ?aB ?aS ?aL ?_; (case aP => exact k33_mkM _ _ _ (⟨strOfNums ((l0.take ((IntKind.u64.wrap ((ji27) + t172)) : Int).toNat).drop ((ji27) : Int).toNat), wrap64 (t174), t175, t176, t177⟩ : S33)); (case aB => exact (by repeat (first | (with_reducible first | exact HB.out | apply below_alloc | apply pw_below_drewN | apply below_drew1) | exact HB.out))); (case aF => exact (fun _ _ => trivial)); (case aO => exact (by (with_reducible repeat (first | apply Kd.R_alloc | apply Kd.R_drewN | apply Kd.R_drew)); exact HO_11.out)); (case aS => exact (below_size (by repeat (first | (with_reducible first | exact HB.out | apply below_alloc | apply pw_below_drewN | apply below_drew1) | exact HB.out)))); (case aL => have := LMc35.out; omega); intro v179 w38 ho hb hg hat; rw [← Ny178.out] at ho; have n0_ := Aside0.mk (hb); have n1_ := Aside0.mk (ho); clear HB; clear HO_11; have HB := n0_; have HO180 := n1_; clear n0_ n1_; clear ho hb hg hat))
                                  go_roundg kj20
                                  case measure => have := HJ2.out; have := HJ8.out; have := HK3.out; have := HJ20.out; omega
                                  case rel => exact ⟨(y178), (IntKind.u64.wrap (x12_3 + (IntKind.u64.wrap ((IntKind.u64.wrap ((IntKind.u64.wrap (46 + t168)) + t169)) + t170)))), (IntKind.u64.wrap (x13_3 + 1)), (by first | rfl | (simp; done) | (simp [*]; done)), (by first | rfl | (simp; done) | (simp [*]; done)), H', ⟨by have := HJ2.out; have := HJ8.out; have := HK3.out; have := HJ20.out; omega⟩, ⟨by (with_reducible repeat (first | apply Kd.R_alloc | apply Kd.R_drewN | apply Kd.R_drew)); exact HO180.out⟩, ⟨by repeat (first | (with_reducible first | exact HB.out | apply below_alloc | apply pw_below_drewN | apply below_drew1) | exact HB.out)⟩⟩
                                · rw [if_neg c35] at H
                                  exact absurd H (by simp)
                              · rw [if_neg c30] at H
                                exact absurd H (by simp)
                            · rw [if_neg c29] at H
                              exact absurd H (by simp)
                          · rw [if_neg c28] at H
                            exact absurd H (by simp)
                  · rw [if_neg c17] at H
                    have c17b0 : decide (x13_3 < t162) = false := decide_eq_false c17
                    clear c17
                    by_cases c39 : x12_3 = (IntKind.u64.wrap (t164 + t163))
                    · rw [if_pos c39] at H
                      have c39b0 : (x12_3 == (IntKind.u64.wrap (t164 + t163))) = true := beq_iff_eq.mpr c39
                      have c39b1 : (x12_3 != (IntKind.u64.wrap (t164 + t163))) = false := bne_eq_false_iff_eq.mpr c39
                      clear c39
                      simp only [Option.some.injEq, Prod.mk.injEq] at H
                      obtain ⟨rfl, rfl, rfl⟩ := H
                      go_wp2
                      go_ret3
                      exact ⟨_, by first | rfl | (simp [errW_none, errW_some] <;> rfl) | (simp [*, errW_none, errW_some] <;> rfl), by (with_reducible repeat (first | apply Kd.R_alloc | apply Kd.R_drewN | apply Kd.R_drew)); exact HO_11.out, by repeat (first | (with_reducible first | exact HB.out | apply below_alloc | apply pw_below_drewN | apply below_drew1) | exact HB.out)⟩
                    · rw [if_neg c39] at H
                      have c39b0 : (x12_3 == (IntKind.u64.wrap (t164 + t163))) = false := beq_eq_false_iff_ne.mpr c39
                      have c39b1 : (x12_3 != (IntKind.u64.wrap (t164 + t163))) = true := bne_iff_ne.mpr c39
                      simp only [Option.some.injEq, Prod.mk.injEq] at H
                      obtain ⟨rfl, rfl, rfl⟩ := H
                      go_wp2
                      go_ret3
                      exact ⟨_, by first | rfl | (simp [errW_none, errW_some] <;> rfl) | (simp [*, errW_none, errW_some] <;> rfl), by first | exact Kd.R_nil _ _ _ _ _ | exact Kd.N_nil _ _ _ _ _ | exact Kd.V_nil _ _ _ _ _ | exact Kd.Q_nil _ _ _ _ _ | exact Kd.S_nil _ _ _ _ _, by repeat (first | (with_reducible first | exact HB.out | apply below_alloc | apply pw_below_drewN | apply below_drew1) | exact HB.out)⟩

end Go.Proofs.Ytkikbbmgibgamaa.Z
