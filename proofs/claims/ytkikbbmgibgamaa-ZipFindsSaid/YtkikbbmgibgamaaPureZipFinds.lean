/- The plain law of ZipFinds: both readers find the same. -/
import Derived.Test.YtkikbbmgibgamaaZ8
import Derived.Test.YtkikbbmgibgamaaHFind
namespace Go.Proofs.Ytkikbbmgibgamaa.Pure
open Go.RowKit Go.Proofs.Ytkikbbmgibgamaa.Z Go.Proofs.YtkikbbmgibgamaaW.PrintWords Go.Proofs.YtkikbbmgibgamaaW.PrintLast

theorem byt_of {l : List Int} (h : ∀ x ∈ l, (Lit.int .u8 x).wf = true) : Byt l := by
  intro x hx
  have := h x hx
  simp [Lit.wf, IntKind.min, IntKind.max, IntKind.signed, IntKind.bits] at this
  omega
theorem ZipFinds : messuagelaw07_ZipFinds.Pure := by
  intro l0 a1 h1 h2 h3 h4
  have hB := byt_of h3
  refine ⟨2 * l0.length + 1000000, ?_⟩
  rw [messuagelaw07_ZipFinds.f]
  by_cases hbig : (l0.length : Int) > 263144
  · rw [if_pos hbig]
  · rw [if_neg hbig, find_f hB (by omega) a1 (by omega), rfind_f hB (by omega) a1 (by omega)]
    simp only [Option.bind_some, if_true]
    rfl
end Go.Proofs.Ytkikbbmgibgamaa.Pure
