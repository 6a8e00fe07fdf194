/- Plain Lean: what is too much to be asked. -/
import Derived.Test.YtkikbbmgibgamaaHFiles
import Derived.Test.YtkikbbmgibgamaaZ9
namespace Go.Proofs.Ytkikbbmgibgamaa.Z
open Go.RowKit Go.Proofs.Ytkikbbmgibgamaa.H Go.Proofs.YtkikbbmgibgamaaW.PrintWords Go.Proofs.YtkikbbmgibgamaaW.PrintLast Go.Proofs.YtkikbbmgibgamaaW.PrintMore
set_option linter.unusedVariables false

theorem great_l0 (l0 : List S50) : ∀ (d i : Nat) (x : Int) (k : Nat), 300 - i = d → i ≤ 300 → 3 * d + 10 ≤ k → ∃ r, messuagelaw07_great.l0 k l0 x i = some r ∧ (r = false → l0.length ≤ 300) := by
  intro d
  induction d with
  | zero =>
    intro i x k hd hi hk
    obtain ⟨k, rfl⟩ : ∃ m, k = m + 3 := ⟨k - 3, by omega⟩
    refine ⟨decide ((l0.length : Int) > 300), ?_, fun h => ?_⟩
    · rw [messuagelaw07_great.l0]
      split
      · rw [messuagelaw07_great.j1, if_neg (by rw [decide_eq_true_eq]; omega)]
      · rw [messuagelaw07_great.j1, if_neg (by decide)]
    · rw [decide_eq_false_iff_not] at h
      omega
  | succ d ih =>
    intro i x k hd hi hk
    obtain ⟨k, rfl⟩ : ∃ m, k = m + 3 := ⟨k - 3, by omega⟩
    rw [messuagelaw07_great.l0]
    by_cases hl : (i : Int) < (l0.length : Int)
    · rw [if_pos hl, messuagelaw07_great.j1, if_pos (by rw [decide_eq_true_eq]; omega), if_pos (by omega), if_pos hl]
      have j2t : ∃ r, messuagelaw07_great.j2 (k + 1) l0 x i true = some r ∧ (r = false → l0.length ≤ 300) := ⟨true, by rw [messuagelaw07_great.j2, if_pos rfl], fun h => by simp at h⟩
      split
      · exact j2t
      · by_cases hb : ((rd_T50 l0 i).f0.size : Int) > 1000
        · rw [show decide (((rd_T50 l0 i).f0.size : Int) > 1000) = true by rw [decide_eq_true_eq]; exact hb]
          exact j2t
        · rw [show decide (((rd_T50 l0 i).f0.size : Int) > 1000) = false by rw [decide_eq_false_iff_not]; exact hb, messuagelaw07_great.j2, if_neg (by decide), if_pos (by omega), if_pos hl]
          split
          · exact ⟨true, rfl, fun h => by simp at h⟩
          · rw [w64 (n := (i : Int) + 1) (by omega) (by omega), show ((i : Int) + 1) = ((i + 1 : Nat) : Int) by omega]
            exact ih (i + 1) _ k (by omega) (by omega) (by omega)
    · rw [if_neg hl, messuagelaw07_great.j1, if_neg (by decide)]
      exact ⟨_, rfl, fun h => by rw [decide_eq_false_iff_not] at h; omega⟩
theorem great_f (l0 : List S50) {k : Nat} (hk : 1000 ≤ k) : ∃ r, messuagelaw07_great.f k l0 = some r ∧ (r = false → l0.length ≤ 300) := great_l0 l0 300 0 0 k rfl (by omega) (by omega)
end Go.Proofs.Ytkikbbmgibgamaa.Z
