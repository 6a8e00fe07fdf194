/- scope.breadth's iterator, at one concrete loop. -/
import Derived.Test.YtmcihkfbgcfccaaHBfs
import Derived.RangeFuncKeeps
import Derived.RangeFuncLeaves
import Derived.RangeFuncCalls
import Derived.Shelf.Abstract
import Derived.WalkKit
import Derived.OwnWalkIn
import Derived.TacticsInMore
import Derived.LoopNIn
import Derived.LoopIn
namespace Go.Proofs.Ytmcihkfbgcfccaa.H
open Go.RowKit Go.Shelf Go.Proofs.Ytmcihkfbgcfccaa.Z Go.Proofs.YtmcihkfbgcfccaaW.PrintWords Go.Proofs.YtmcihkfbgcfccaaW.PrintLast Go.Proofs.YtmcihkfbgcfccaaW.PrintMore
attribute [local go_sem] Oper.semAt_some
set_option linter.unusedVariables false
set_option maxRecDepth 100000 in
set_option maxHeartbeats 1000000 in
theorem breadth_calls (w : World) (bt : Nat) (root : Int) : Calls Try.prog 31 #[.pointer (some ⟨bt, 0, none⟩), .int .i64 root] w fun e w' => e = .returned (.func (.func 40) #[] #[.pointer (some ⟨w.heap.size + 1, 0, none⟩), .pointer (some ⟨w.heap.size, 0, none⟩)]) ∧
    w' = (w.alloc (.cells #[.pointer (some ⟨bt, 0, none⟩)] 24)).alloc (.cells #[.int .i64 root] 3) := by
  go_enter Try.func31, Try.ntmps31
  go_wp2
  go_ret
  exact ⟨by simp, rfl⟩
end Go.Proofs.Ytmcihkfbgcfccaa.H
