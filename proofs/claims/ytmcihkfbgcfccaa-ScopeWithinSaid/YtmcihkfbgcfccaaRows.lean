/-
  No cell of these rows narrows 'for every input' (looked for: loops, veiled, ifaces, maps, wideKeys, modest, calm, conditions, laid).
  DERIVED. THE GIVEN ROWS OF THIS SEAT. 5 by the template 'for every input the law returns true; each argument reads behind the call as it read before'; 0 by the template 'total and deterministic' (their statements: YtmcihkfbgcfccaaTotals.lean).
  GIVEN WITH THE SEED: the statements are not yours to turn. If you find one false, say at which input.
  Laid BY PROGRAM, IN A SANDBOX (cutbox-rows.mjs): the forced cells as the released guide's own fill.sh prints them over the translation e4c0e45861e18033… (all of the seat's roots in one cut). By AI agents, Wed Nov 11 2026. No macro, syntax, notation, axiom, sorry.
-/
import Derived.Test.YtmcihkfbgcfccaaChecked
import GoSem.Claim
import GoSem.ClaimJoined
import GoSem.ClaimMapViews
import Derived.JoinedTies
import Derived.KernelRfl
namespace Go.Proofs.Ytmcihkfbgcfccaa
/- THE CELL 'sum', in the pinned program and in every row, IS THE sha256 OF THE DUMP (.gsa) THAT YtmcihkfbgcfccaaProg.lean LOADS. Nothing in Lean hashes anything: it is a label: what it is worth is what the hold of that sum in a sandbox is worth. -/
noncomputable def Try.pinned : Pinned := { name := "ytmcihkfbgcfccaa", sum := "e4c0e45861e18033d17c1b1592861c5c089184f2da41ad41ce056ee65b11bbc7", checked := Try.checked }
namespace Rows
def none {H : Type} : Left H := { results := [], args := [] }

/-- 'messuagelaw23.ScopeOrders': WHATEVER THE INPUT: true; the input reads as it did. -/
def scopeOrdersSpec : ChangeSpec := { name := "scopeOrders", fn := fun _ => fun
  | [d1, d2, d3] => { results := [.lit (.bool true)], args := [d1, d2, d3] }
  | _ => none }
def scopeOrdersRow : OpenClaim := { program := "ytmcihkfbgcfccaa", sum := "e4c0e45861e18033d17c1b1592861c5c089184f2da41ad41ce056ee65b11bbc7", func := "messuage/messuagelaw23.ScopeOrders", spec := "scopeOrders", unfollowed := true, recurses := true, apart := false }
def ScopeOrdersSaid : Prop := scopeOrdersRow.holds Try.pinned (OpenSpec.ofChange scopeOrdersSpec)

/-- ITS FALSE NEIGHBOUR: 'it returns false'. Refute it at one input. -/
def scopeOrdersWrong : ChangeSpec := { name := "scopeOrders", fn := fun _ => fun
  | [d1, d2, d3] => { results := [.lit (.bool false)], args := [d1, d2, d3] }
  | _ => none }
def ScopeOrdersWrongFalsely : Prop := scopeOrdersRow.holds Try.pinned (OpenSpec.ofChange scopeOrdersWrong)

/-- 'messuagelaw23.ScopeFinds': WHATEVER THE INPUT: true; the input reads as it did. -/
def scopeFindsSpec : ChangeSpec := { name := "scopeFinds", fn := fun _ => fun
  | [d] => { results := [.lit (.bool true)], args := [d] }
  | _ => none }
def scopeFindsRow : OpenClaim := { program := "ytmcihkfbgcfccaa", sum := "e4c0e45861e18033d17c1b1592861c5c089184f2da41ad41ce056ee65b11bbc7", func := "messuage/messuagelaw23.ScopeFinds", spec := "scopeFinds", unfollowed := true, recurses := true, apart := false }
def ScopeFindsSaid : Prop := scopeFindsRow.holds Try.pinned (OpenSpec.ofChange scopeFindsSpec)

/-- ITS FALSE NEIGHBOUR: 'it returns false'. Refute it at one input. -/
def scopeFindsWrong : ChangeSpec := { name := "scopeFinds", fn := fun _ => fun
  | [d] => { results := [.lit (.bool false)], args := [d] }
  | _ => none }
def ScopeFindsWrongFalsely : Prop := scopeFindsRow.holds Try.pinned (OpenSpec.ofChange scopeFindsWrong)

/-- 'messuagelaw23.ScopeWithin': WHATEVER THE INPUT: true; the input reads as it did. -/
def scopeWithinSpec : ChangeSpec := { name := "scopeWithin", fn := fun _ => fun
  | [d] => { results := [.lit (.bool true)], args := [d] }
  | _ => none }
def scopeWithinRow : OpenClaim := { program := "ytmcihkfbgcfccaa", sum := "e4c0e45861e18033d17c1b1592861c5c089184f2da41ad41ce056ee65b11bbc7", func := "messuage/messuagelaw23.ScopeWithin", spec := "scopeWithin", unfollowed := true, recurses := true, apart := false }
def ScopeWithinSaid : Prop := scopeWithinRow.holds Try.pinned (OpenSpec.ofChange scopeWithinSpec)

/-- ITS FALSE NEIGHBOUR: 'it returns false'. Refute it at one input. -/
def scopeWithinWrong : ChangeSpec := { name := "scopeWithin", fn := fun _ => fun
  | [d] => { results := [.lit (.bool false)], args := [d] }
  | _ => none }
def ScopeWithinWrongFalsely : Prop := scopeWithinRow.holds Try.pinned (OpenSpec.ofChange scopeWithinWrong)

/-- 'messuagelaw23.ScopeFirst': WHATEVER THE INPUT: true; the input reads as it did. -/
def scopeFirstSpec : ChangeSpec := { name := "scopeFirst", fn := fun _ => fun
  | [d1, d2] => { results := [.lit (.bool true)], args := [d1, d2] }
  | _ => none }
def scopeFirstRow : OpenClaim := { program := "ytmcihkfbgcfccaa", sum := "e4c0e45861e18033d17c1b1592861c5c089184f2da41ad41ce056ee65b11bbc7", func := "messuage/messuagelaw23.ScopeFirst", spec := "scopeFirst", unfollowed := true, recurses := true, apart := false }
def ScopeFirstSaid : Prop := scopeFirstRow.holds Try.pinned (OpenSpec.ofChange scopeFirstSpec)

/-- ITS FALSE NEIGHBOUR: 'it returns false'. Refute it at one input. -/
def scopeFirstWrong : ChangeSpec := { name := "scopeFirst", fn := fun _ => fun
  | [d1, d2] => { results := [.lit (.bool false)], args := [d1, d2] }
  | _ => none }
def ScopeFirstWrongFalsely : Prop := scopeFirstRow.holds Try.pinned (OpenSpec.ofChange scopeFirstWrong)

/-- 'messuagelaw23.ScopeSelf': WHATEVER THE INPUT: true; the input reads as it did. -/
def scopeSelfSpec : ChangeSpec := { name := "scopeSelf", fn := fun _ => fun
  | [d] => { results := [.lit (.bool true)], args := [d] }
  | _ => none }
def scopeSelfRow : OpenClaim := { program := "ytmcihkfbgcfccaa", sum := "e4c0e45861e18033d17c1b1592861c5c089184f2da41ad41ce056ee65b11bbc7", func := "messuage/messuagelaw23.ScopeSelf", spec := "scopeSelf", unfollowed := true, recurses := true, apart := false }
def ScopeSelfSaid : Prop := scopeSelfRow.holds Try.pinned (OpenSpec.ofChange scopeSelfSpec)

/-- ITS FALSE NEIGHBOUR: 'it returns false'. Refute it at one input. -/
def scopeSelfWrong : ChangeSpec := { name := "scopeSelf", fn := fun _ => fun
  | [d] => { results := [.lit (.bool false)], args := [d] }
  | _ => none }
def ScopeSelfWrongFalsely : Prop := scopeSelfRow.holds Try.pinned (OpenSpec.ofChange scopeSelfWrong)

/- THE SECOND FORM. 'bulk': how many values and letters a reading holds, each counted each time it is reached (what is shared counts as often as it is met; a slice's spare places count too). A statement '..UptoSaid' is the law's where the arguments, and the package variables that the reading takes, are together of bulk at most 1048576: NARROWER than '..Said'. Prove '..Said' where nothing that the law and all that it calls make is longer than what came in: it says more and counts as full. Else prove '..UptoSaid'. A law counts once. -/
mutual
def uptoBulk {H : Type} : DataW H → Nat
  | .lit (.string bytes) => bytes.length + 1
  | .lit _ => 1
  | .nil => 1
  | .ptr d => uptoBulk d + 1
  | .slice elems spare => uptoBulkAll elems + uptoBulkAll spare + 1
  | .agg parts => uptoBulkAll parts + 1
  | .iface _ d => uptoBulk d + 1
  | .map entries => uptoBulkEntries entries + 1
  | .held _ => 1
def uptoBulkAll {H : Type} : List (DataW H) → Nat
  | [] => 0
  | d :: r => uptoBulk d + uptoBulkAll r
def uptoBulkEntries {H : Type} : List (Lit × DataW H) → Nat
  | [] => 0
  | x :: r => uptoBulkEntry x + uptoBulkEntries r
def uptoBulkEntry {H : Type} : Lit × DataW H → Nat
  | (.string bytes, d) => bytes.length + uptoBulk d + 1
  | (_, d) => uptoBulk d + 1
 end
def uptoSmall : (H : Type) → List (DataW H) → Bool := fun _ ds => decide (uptoBulkAll ds ≤ 1048576)
def OpenSpec.upto (s : _root_.Go.ChangeSpec) : _root_.Go.OpenSpec := { _root_.Go.OpenSpec.ofChange s with cond := some uptoSmall }

/-- 'messuagelaw23.ScopeOrders', WHERE WHAT IT READS IS OF BULK AT MOST 1048576: true; the input reads as it did. -/
def scopeOrdersUptoRow : OpenClaim := { program := "ytmcihkfbgcfccaa", sum := "e4c0e45861e18033d17c1b1592861c5c089184f2da41ad41ce056ee65b11bbc7", func := "messuage/messuagelaw23.ScopeOrders", spec := "scopeOrders", unfollowed := true, recurses := true, apart := false, narrowed := true }
def ScopeOrdersUptoSaid : Prop := scopeOrdersUptoRow.holds Try.pinned (OpenSpec.upto scopeOrdersSpec)

/-- 'messuagelaw23.ScopeFinds', WHERE WHAT IT READS IS OF BULK AT MOST 1048576: true; the input reads as it did. -/
def scopeFindsUptoRow : OpenClaim := { program := "ytmcihkfbgcfccaa", sum := "e4c0e45861e18033d17c1b1592861c5c089184f2da41ad41ce056ee65b11bbc7", func := "messuage/messuagelaw23.ScopeFinds", spec := "scopeFinds", unfollowed := true, recurses := true, apart := false, narrowed := true }
def ScopeFindsUptoSaid : Prop := scopeFindsUptoRow.holds Try.pinned (OpenSpec.upto scopeFindsSpec)

/-- 'messuagelaw23.ScopeWithin', WHERE WHAT IT READS IS OF BULK AT MOST 1048576: true; the input reads as it did. -/
def scopeWithinUptoRow : OpenClaim := { program := "ytmcihkfbgcfccaa", sum := "e4c0e45861e18033d17c1b1592861c5c089184f2da41ad41ce056ee65b11bbc7", func := "messuage/messuagelaw23.ScopeWithin", spec := "scopeWithin", unfollowed := true, recurses := true, apart := false, narrowed := true }
def ScopeWithinUptoSaid : Prop := scopeWithinUptoRow.holds Try.pinned (OpenSpec.upto scopeWithinSpec)

/-- 'messuagelaw23.ScopeFirst', WHERE WHAT IT READS IS OF BULK AT MOST 1048576: true; the input reads as it did. -/
def scopeFirstUptoRow : OpenClaim := { program := "ytmcihkfbgcfccaa", sum := "e4c0e45861e18033d17c1b1592861c5c089184f2da41ad41ce056ee65b11bbc7", func := "messuage/messuagelaw23.ScopeFirst", spec := "scopeFirst", unfollowed := true, recurses := true, apart := false, narrowed := true }
def ScopeFirstUptoSaid : Prop := scopeFirstUptoRow.holds Try.pinned (OpenSpec.upto scopeFirstSpec)

/-- 'messuagelaw23.ScopeSelf', WHERE WHAT IT READS IS OF BULK AT MOST 1048576: true; the input reads as it did. -/
def scopeSelfUptoRow : OpenClaim := { program := "ytmcihkfbgcfccaa", sum := "e4c0e45861e18033d17c1b1592861c5c089184f2da41ad41ce056ee65b11bbc7", func := "messuage/messuagelaw23.ScopeSelf", spec := "scopeSelf", unfollowed := true, recurses := true, apart := false, narrowed := true }
def ScopeSelfUptoSaid : Prop := scopeSelfUptoRow.holds Try.pinned (OpenSpec.upto scopeSelfSpec)

end Rows
end Go.Proofs.Ytmcihkfbgcfccaa
