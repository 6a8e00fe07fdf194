/-
  No cell of these rows narrows 'for every input' (looked for: loops, veiled, ifaces, maps, wideKeys, modest, calm, conditions, laid).
  DERIVED. THE GIVEN ROWS OF THIS SEAT. 6 by the template 'for every input the law returns true; each argument reads behind the call as it read before'; 0 by the template 'total and deterministic' (their statements: YtkikbbmgibgamaaTotals.lean).
  GIVEN WITH THE SEED: the statements are not yours to turn. If you find one false, say at which input.
  Laid BY PROGRAM, IN A SANDBOX (cutbox-rows.mjs): the forced cells as the released guide's own fill.sh prints them over the translation 3fdfc0542e6ccc1b… (all of the seat's roots in one cut). By AI agents, Wed Nov 11 2026. No macro, syntax, notation, axiom, sorry.
-/
import Derived.Test.YtkikbbmgibgamaaChecked
import GoSem.Claim
import GoSem.ClaimJoined
import GoSem.ClaimMapViews
import Derived.JoinedTies
import Derived.KernelRfl
namespace Go.Proofs.Ytkikbbmgibgamaa
/- THE CELL 'sum', in the pinned program and in every row, IS THE sha256 OF THE DUMP (.gsa) THAT YtkikbbmgibgamaaProg.lean LOADS. Nothing in Lean hashes anything: it is a label: what it is worth is what the hold of that sum in a sandbox is worth. -/
noncomputable def Try.pinned : Pinned := { name := "ytkikbbmgibgamaa", sum := "3fdfc0542e6ccc1b332c913a270960a56753d7b97ea4204c325bf9dec736e669", checked := Try.checked }
namespace Rows
def none {H : Type} : Left H := { results := [], args := [] }

/-- 'messuagelaw07.ZipLists': WHATEVER THE INPUT: true; the input reads as it did. -/
def zipListsSpec : ChangeSpec := { name := "zipLists", fn := fun _ => fun
  | [d] => { results := [.lit (.bool true)], args := [d] }
  | _ => none }
def zipListsRow : OpenClaim := { program := "ytkikbbmgibgamaa", sum := "3fdfc0542e6ccc1b332c913a270960a56753d7b97ea4204c325bf9dec736e669", func := "messuage/messuagelaw07.ZipLists", spec := "zipLists", apart := false }
def ZipListsSaid : Prop := zipListsRow.holds Try.pinned (OpenSpec.ofChange zipListsSpec)

/-- ITS FALSE NEIGHBOUR: 'it returns false'. Refute it at one input. -/
def zipListsWrong : ChangeSpec := { name := "zipLists", fn := fun _ => fun
  | [d] => { results := [.lit (.bool false)], args := [d] }
  | _ => none }
def ZipListsWrongFalsely : Prop := zipListsRow.holds Try.pinned (OpenSpec.ofChange zipListsWrong)

/-- 'messuagelaw07.ZipFinds': WHATEVER THE INPUT: true; the input reads as it did. -/
def zipFindsSpec : ChangeSpec := { name := "zipFinds", fn := fun _ => fun
  | [d1, d2] => { results := [.lit (.bool true)], args := [d1, d2] }
  | _ => none }
def zipFindsRow : OpenClaim := { program := "ytkikbbmgibgamaa", sum := "3fdfc0542e6ccc1b332c913a270960a56753d7b97ea4204c325bf9dec736e669", func := "messuage/messuagelaw07.ZipFinds", spec := "zipFinds", apart := false }
def ZipFindsSaid : Prop := zipFindsRow.holds Try.pinned (OpenSpec.ofChange zipFindsSpec)

/-- ITS FALSE NEIGHBOUR: 'it returns false'. Refute it at one input. -/
def zipFindsWrong : ChangeSpec := { name := "zipFinds", fn := fun _ => fun
  | [d1, d2] => { results := [.lit (.bool false)], args := [d1, d2] }
  | _ => none }
def ZipFindsWrongFalsely : Prop := zipFindsRow.holds Try.pinned (OpenSpec.ofChange zipFindsWrong)

/-- 'messuagelaw07.ZipMakes': WHATEVER THE INPUT: true; the input reads as it did. -/
def zipMakesSpec : ChangeSpec := { name := "zipMakes", fn := fun _ => fun
  | [d] => { results := [.lit (.bool true)], args := [d] }
  | _ => none }
def zipMakesRow : OpenClaim := { program := "ytkikbbmgibgamaa", sum := "3fdfc0542e6ccc1b332c913a270960a56753d7b97ea4204c325bf9dec736e669", func := "messuage/messuagelaw07.ZipMakes", spec := "zipMakes", apart := false }
def ZipMakesSaid : Prop := zipMakesRow.holds Try.pinned (OpenSpec.ofChange zipMakesSpec)

/-- ITS FALSE NEIGHBOUR: 'it returns false'. Refute it at one input. -/
def zipMakesWrong : ChangeSpec := { name := "zipMakes", fn := fun _ => fun
  | [d] => { results := [.lit (.bool false)], args := [d] }
  | _ => none }
def ZipMakesWrongFalsely : Prop := zipMakesRow.holds Try.pinned (OpenSpec.ofChange zipMakesWrong)

/-- 'messuagelaw07.ZipBack': WHATEVER THE INPUT: true; the input reads as it did. -/
def zipBackSpec : ChangeSpec := { name := "zipBack", fn := fun _ => fun
  | [d] => { results := [.lit (.bool true)], args := [d] }
  | _ => none }
def zipBackRow : OpenClaim := { program := "ytkikbbmgibgamaa", sum := "3fdfc0542e6ccc1b332c913a270960a56753d7b97ea4204c325bf9dec736e669", func := "messuage/messuagelaw07.ZipBack", spec := "zipBack", apart := false }
def ZipBackSaid : Prop := zipBackRow.holds Try.pinned (OpenSpec.ofChange zipBackSpec)

/-- ITS FALSE NEIGHBOUR: 'it returns false'. Refute it at one input. -/
def zipBackWrong : ChangeSpec := { name := "zipBack", fn := fun _ => fun
  | [d] => { results := [.lit (.bool false)], args := [d] }
  | _ => none }
def ZipBackWrongFalsely : Prop := zipBackRow.holds Try.pinned (OpenSpec.ofChange zipBackWrong)

/-- 'messuagelaw07.ZipWithin': WHATEVER THE INPUT: true; the input reads as it did. -/
def zipWithinSpec : ChangeSpec := { name := "zipWithin", fn := fun _ => fun
  | [d1, d2] => { results := [.lit (.bool true)], args := [d1, d2] }
  | _ => none }
def zipWithinRow : OpenClaim := { program := "ytkikbbmgibgamaa", sum := "3fdfc0542e6ccc1b332c913a270960a56753d7b97ea4204c325bf9dec736e669", func := "messuage/messuagelaw07.ZipWithin", spec := "zipWithin", apart := false }
def ZipWithinSaid : Prop := zipWithinRow.holds Try.pinned (OpenSpec.ofChange zipWithinSpec)

/-- ITS FALSE NEIGHBOUR: 'it returns false'. Refute it at one input. -/
def zipWithinWrong : ChangeSpec := { name := "zipWithin", fn := fun _ => fun
  | [d1, d2] => { results := [.lit (.bool false)], args := [d1, d2] }
  | _ => none }
def ZipWithinWrongFalsely : Prop := zipWithinRow.holds Try.pinned (OpenSpec.ofChange zipWithinWrong)

/-- 'messuagelaw07.ZipMore': WHATEVER THE INPUT: true; the input reads as it did. -/
def zipMoreSpec : ChangeSpec := { name := "zipMore", fn := fun _ => fun
  | [d1, d2, d3] => { results := [.lit (.bool true)], args := [d1, d2, d3] }
  | _ => none }
def zipMoreRow : OpenClaim := { program := "ytkikbbmgibgamaa", sum := "3fdfc0542e6ccc1b332c913a270960a56753d7b97ea4204c325bf9dec736e669", func := "messuage/messuagelaw07.ZipMore", spec := "zipMore", apart := false }
def ZipMoreSaid : Prop := zipMoreRow.holds Try.pinned (OpenSpec.ofChange zipMoreSpec)

/-- ITS FALSE NEIGHBOUR: 'it returns false'. Refute it at one input. -/
def zipMoreWrong : ChangeSpec := { name := "zipMore", fn := fun _ => fun
  | [d1, d2, d3] => { results := [.lit (.bool false)], args := [d1, d2, d3] }
  | _ => none }
def ZipMoreWrongFalsely : Prop := zipMoreRow.holds Try.pinned (OpenSpec.ofChange zipMoreWrong)

/- THE SECOND FORM. 'bulk': how many values and letters a reading holds, each counted each time it is reached (what is shared counts as often as it is met; a slice's spare places count too). A statement '..UptoSaid' is the law's where the arguments, and the package variables that the reading takes, are together of bulk at most 1048576: NARROWER than '..Said'. Prove '..Said' where nothing that the law and all that it calls make is longer than what came in: it says more and counts as full. Else prove '..UptoSaid'. A law counts once. -/
mutual
def uptoBulk {H : Type} : DataW H → Nat
  | .lit (.string bytes) => bytes.length + 1
  | .lit _ => 1
  | .nil => 1
  | .ptr d => uptoBulk d + 1
  | .slice elems spare => uptoBulkAll elems + uptoBulkAll spare + 1
  | .agg parts => uptoBulkAll parts + 1
  | .iface _ d => uptoBulk d + 1
  | .map entries => uptoBulkEntries entries + 1
  | .held _ => 1
def uptoBulkAll {H : Type} : List (DataW H) → Nat
  | [] => 0
  | d :: r => uptoBulk d + uptoBulkAll r
def uptoBulkEntries {H : Type} : List (Lit × DataW H) → Nat
  | [] => 0
  | x :: r => uptoBulkEntry x + uptoBulkEntries r
def uptoBulkEntry {H : Type} : Lit × DataW H → Nat
  | (.string bytes, d) => bytes.length + uptoBulk d + 1
  | (_, d) => uptoBulk d + 1
 end
def uptoSmall : (H : Type) → List (DataW H) → Bool := fun _ ds => decide (uptoBulkAll ds ≤ 1048576)
def OpenSpec.upto (s : _root_.Go.ChangeSpec) : _root_.Go.OpenSpec := { _root_.Go.OpenSpec.ofChange s with cond := some uptoSmall }

/-- 'messuagelaw07.ZipLists', WHERE WHAT IT READS IS OF BULK AT MOST 1048576: true; the input reads as it did. -/
def zipListsUptoRow : OpenClaim := { program := "ytkikbbmgibgamaa", sum := "3fdfc0542e6ccc1b332c913a270960a56753d7b97ea4204c325bf9dec736e669", func := "messuage/messuagelaw07.ZipLists", spec := "zipLists", apart := false, narrowed := true }
def ZipListsUptoSaid : Prop := zipListsUptoRow.holds Try.pinned (OpenSpec.upto zipListsSpec)

/-- 'messuagelaw07.ZipFinds', WHERE WHAT IT READS IS OF BULK AT MOST 1048576: true; the input reads as it did. -/
def zipFindsUptoRow : OpenClaim := { program := "ytkikbbmgibgamaa", sum := "3fdfc0542e6ccc1b332c913a270960a56753d7b97ea4204c325bf9dec736e669", func := "messuage/messuagelaw07.ZipFinds", spec := "zipFinds", apart := false, narrowed := true }
def ZipFindsUptoSaid : Prop := zipFindsUptoRow.holds Try.pinned (OpenSpec.upto zipFindsSpec)

/-- 'messuagelaw07.ZipMakes', WHERE WHAT IT READS IS OF BULK AT MOST 1048576: true; the input reads as it did. -/
def zipMakesUptoRow : OpenClaim := { program := "ytkikbbmgibgamaa", sum := "3fdfc0542e6ccc1b332c913a270960a56753d7b97ea4204c325bf9dec736e669", func := "messuage/messuagelaw07.ZipMakes", spec := "zipMakes", apart := false, narrowed := true }
def ZipMakesUptoSaid : Prop := zipMakesUptoRow.holds Try.pinned (OpenSpec.upto zipMakesSpec)

/-- 'messuagelaw07.ZipBack', WHERE WHAT IT READS IS OF BULK AT MOST 1048576: true; the input reads as it did. -/
def zipBackUptoRow : OpenClaim := { program := "ytkikbbmgibgamaa", sum := "3fdfc0542e6ccc1b332c913a270960a56753d7b97ea4204c325bf9dec736e669", func := "messuage/messuagelaw07.ZipBack", spec := "zipBack", apart := false, narrowed := true }
def ZipBackUptoSaid : Prop := zipBackUptoRow.holds Try.pinned (OpenSpec.upto zipBackSpec)

/-- 'messuagelaw07.ZipWithin', WHERE WHAT IT READS IS OF BULK AT MOST 1048576: true; the input reads as it did. -/
def zipWithinUptoRow : OpenClaim := { program := "ytkikbbmgibgamaa", sum := "3fdfc0542e6ccc1b332c913a270960a56753d7b97ea4204c325bf9dec736e669", func := "messuage/messuagelaw07.ZipWithin", spec := "zipWithin", apart := false, narrowed := true }
def ZipWithinUptoSaid : Prop := zipWithinUptoRow.holds Try.pinned (OpenSpec.upto zipWithinSpec)

/-- 'messuagelaw07.ZipMore', WHERE WHAT IT READS IS OF BULK AT MOST 1048576: true; the input reads as it did. -/
def zipMoreUptoRow : OpenClaim := { program := "ytkikbbmgibgamaa", sum := "3fdfc0542e6ccc1b332c913a270960a56753d7b97ea4204c325bf9dec736e669", func := "messuage/messuagelaw07.ZipMore", spec := "zipMore", apart := false, narrowed := true }
def ZipMoreUptoSaid : Prop := zipMoreUptoRow.holds Try.pinned (OpenSpec.upto zipMoreSpec)

end Rows
end Go.Proofs.Ytkikbbmgibgamaa
