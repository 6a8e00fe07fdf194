/- Plain Lean: the instances from one on, each once, breadth first. -/
import Derived.Test.YtmcihkfbgcfccaaHOnce
namespace Go.Proofs.Ytmcihkfbgcfccaa.H
open Go.RowKit
set_option linter.unusedVariables false
/-- Behind many things more. -/
def addAll (xs : List Int) (ys : List Int) : List Int := ys.foldl addTo xs
/-- What comes from a place of the list on (so many rounds at most). -/
def bfsGo (l : List Ins) : Nat → List Int → Nat → List Int
  | 0, _, _ => []
  | n + 1, s, at_ => match s[at_]? with
    | none => []
    | some id => match insAt l id with
      | none => bfsGo l n s (at_ + 1)
      | some x => id :: bfsGo l n (addAll s x.needs) (at_ + 1)
def groupOf (l : List Ins) (root : Int) : List Int := bfsGo l (l.length + 2) [root] 0
theorem addTo_nodup {xs : List Int} (x : Int) (h : xs.Nodup) : (addTo xs x).Nodup := by
  unfold addTo
  split
  · exact h
  · rename_i hx
    rw [List.nodup_append]
    exact ⟨h, by simp, fun a ha b hb => by simp at hb; subst hb; exact fun e => hx (e ▸ ha)⟩
theorem addAll_nodup : ∀ (ys xs : List Int), xs.Nodup → (addAll xs ys).Nodup
  | [], _, h => h
  | y :: ys, xs, h => addAll_nodup ys (addTo xs y) (addTo_nodup y h)
end Go.Proofs.Ytmcihkfbgcfccaa.H
