/- A drawn region of a round's body, walked as anywhere. -/
import Derived.Test.YtmcihkfbgcfccaaHIter
namespace Go.Proofs.Ytmcihkfbgcfccaa.H
open Go.RowKit Go.Shelf
set_option linter.unusedVariables false
variable {P : Program} {n l : Nat} {ops : Array Oper} {Q : Exit → Act → World → Prop}
theorem upon_inRound {o : Oper} {a : Act} {next : Act → World → Prop} (hq : ¬ LetsOut Q) : ∀ r : Result Next, o.upon P a next Q r → o.uponIn (Fence.wide.inRound l) n P a next Q r
  | .ok (.value v) w', h => h
  | .ok .skip w', h => h
  | .ok (.defer d) w', h => h
  | .ok (.enter f args) w', h => ⟨fun e => by simp [Fence.wide, Fence.inRound] at e, CallsIn.inRound l (callsIn_wide.2 h)⟩
  | .ok (.row row args) w', h => ⟨fun e => by simp [Fence.wide, Fence.inRound] at e, fun c cs _ => by
      obtain ⟨v, w'', r, s⟩ := h c cs
      exact ⟨v, w'', r, stepsIn_wide.2 s⟩⟩
  | .halt (.panic v) w', h => h
  | .ok (.round ..) _, h => h.elim
  | .halt .blocked _, h => h.elim
  | .halt .waiting _, h => h.elim
  | .halt (.unsupported _) _, h => h.elim
theorem op_inRound {i : Nat} {K K' : Act → World → Prop} {a : Act} {w : World} (hq : ¬ LetsOut Q) (hd : ∀ (o : Oper), ops[i]? = some o → ∀ c, o.op ≠ .defer c) (hK : ∀ a w, K a w → K' a w) (h : wpOp P ops Q i K a w) : wpOpIn (Fence.wide.inRound l) n P ops Q i K' a w := by
  unfold wpOp at h
  unfold wpOpIn
  cases ho : ops[i]? with
  | none =>
    rw [ho] at h
    exact hK _ _ h
  | some o =>
    rw [ho] at h
    simp only at h ⊢
    by_cases hw : Region.wanted o (yielded ops a.tmps) = true
    · rw [if_pos hw] at h ⊢
      rcases h with h | ⟨_, h⟩
      · refine ⟨fun f _ => trivial, ?_⟩
        rw [Oper.semAt_eq _ _ _ (hd o ho)]
        refine upon_inRound hq _ ?_
        exact Oper.wp_mono hK h
      · exact (hq h).elim
    · rw [if_neg hw] at h ⊢
      exact ⟨fun f _ => trivial, hK _ _ h⟩
theorem any_inRound {md : Region.Mode} (hq : ¬ LetsOut Q) (hd : ∀ (i : Nat) (o : Oper), ops[i]? = some o → ∀ c, o.op ≠ .defer c) : ∀ (fuel : Nat) (listed : Array Bool) (a : Act) (w : World), wpAny P md ops Q fuel listed a w → wpAnyIn (Fence.wide.inRound l) n P md ops Q fuel listed a w
  | 0, _, _, _, h => h
  | fuel + 1, listed, a, w, h => ⟨h.1, fun i hi => op_inRound hq (hd i) (fun a w => any_inRound hq hd fuel _ a w) (h.2 i hi)⟩
end Go.Proofs.Ytmcihkfbgcfccaa.H
