import Derived.Test.YtkikbbmgibgamaaZ6
import Derived.Test.YtkikbbmgibgamaaHMake
namespace Go.Proofs.Ytkikbbmgibgamaa.Z
open Go.RowKit Go.Proofs.Ytkikbbmgibgamaa.H Go.Proofs.YtkikbbmgibgamaaW.PrintWords Go.Proofs.YtkikbbmgibgamaaW.PrintLast Go.Proofs.YtkikbbmgibgamaaW.PrintMore
set_option linter.unusedVariables false

def aliveL : List S50 := [⟨⟨#[97]⟩, [120, 121]⟩]
def aliveB : List Int := ((zip_Make.f aliveL).getD ([], 0)).1
theorem ev_make : zip_Make.f aliveL = some (aliveB, 0) := by decide +kernel
theorem ev_a : zip_Find.f 600 aliveB ⟨#[97]⟩ = some (256, 2, 0) := by decide +kernel
theorem ev_b : zip_Find.f 600 aliveB ⟨#[98]⟩ = some (0, 0, 71) := by decide +kernel
theorem ev_list : zip_List.f 600 [] = some ([], 70) := by kernel_rfl
end Go.Proofs.Ytkikbbmgibgamaa.Z
