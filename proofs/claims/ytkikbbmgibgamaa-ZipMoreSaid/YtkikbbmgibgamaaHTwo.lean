import Derived.Test.YtkikbbmgibgamaaHBuf4
namespace Go.Proofs.Ytkikbbmgibgamaa.Z
open Go.RowKit Go.Proofs.Ytkikbbmgibgamaa.H Go.Proofs.YtkikbbmgibgamaaW.PrintWords Go.Proofs.YtkikbbmgibgamaaW.PrintLast Go.Proofs.YtkikbbmgibgamaaW.PrintMore
set_option linter.unusedVariables false
set_option linter.unusedSimpArgs false

/-- Two Bufs that share nothing. -/
structure Two (W0 W : World) (g1 g2 : Nat) (xs ys : List Int) : Prop where
  out : ∃ v1 v2, IsBuf W W0.heap.size g1 v1 xs ∧ IsBuf W W0.heap.size g2 v2 ys ∧ g1 ≠ g2 ∧ (∀ k, v1.ownBlock = some k → v2.ownBlock = some k → False) ∧ Below W0.heap.size W0 W
theorem Two.symm {W0 W : World} {g1 g2 : Nat} {xs ys : List Int} (h : Two W0 W g1 g2 xs ys) : Two W0 W g2 g1 ys xs := by
  obtain ⟨v1, v2, h1, h2, h3, h4, h5⟩ := h.out
  exact ⟨v2, v1, h2, h1, fun e => h3 e.symm, fun k a b => h4 k b a, h5⟩
theorem Two.below {W0 W W1 : World} {g1 g2 : Nat} {xs ys : List Int} (h : Two W0 W g1 g2 xs ys) (hb : Below W.heap.size W W1) : Two W0 W1 g1 g2 xs ys := by
  obtain ⟨v1, v2, h1, h2, h3, h4, h5⟩ := h.out
  exact ⟨v1, v2, h1.below hb, h2.below hb, h3, h4, h5.trans ⟨hb.os, hb.tape, hb.output, hb.size, fun k hk => hb.block k (Nat.lt_of_lt_of_le hk h5.size)⟩⟩
theorem Two.alloc {W0 W : World} {g1 g2 : Nat} {xs ys : List Int} (h : Two W0 W g1 g2 xs ys) (o : Obj) : Two W0 (W.alloc o) g1 g2 xs ys := h.below (below_alloc (Below.refl _ _) o)
theorem Two.down {W0 W : World} {g1 g2 : Nat} {xs ys : List Int} (h : Two W0 W g1 g2 xs ys) : Below W0.heap.size W0 W := by
  obtain ⟨v1, v2, h1, h2, h3, h4, h5⟩ := h.out
  exact h5
/-- Blocks of other types stay. -/
def KeepT (w w' : World) : Prop := ∀ (b t : Nat) (cs : Array Value) (fr : Nat × Nat), w.heap[b]? = some (.cells cs t fr) → t ≠ 81 → t ≠ 5 → w'.heap[b]? = some (.cells cs t fr)
theorem IsBuf.other {W : World} {B g : Nat} {v : Value} {xs : List Int} (h : IsBuf W B g v xs) {b t : Nat} {cs : Array Value} {fr : Nat × Nat} (hb : W.heap[b]? = some (.cells cs t fr)) (h1 : t ≠ 81) (h2 : t ≠ 5) : ¬ Foots g v b := by
  rintro (rfl | hF)
  · rw [h.blk] at hb
    injection hb with hb
    injection hb with _ hb _
    exact h1 hb.symm
  · obtain ⟨cells, hc⟩ := Kd.R_typed h.row b hF
    rw [hc] at hb
    injection hb with hb
    injection hb with _ hb _
    exact h2 hb.symm
/-- A Buf's block is no row of another. -/
theorem IsBuf.apart {W : World} {B g g2 : Nat} {v v2 : Value} {xs ys : List Int} (h : IsBuf W B g v xs) (h2 : IsBuf W B g2 v2 ys) : v2.ownBlock ≠ some g := by
  intro hF
  obtain ⟨cells, hc⟩ := Kd.R_typed h2.row g hF
  rw [h.blk] at hc
  injection hc with hc
  injection hc with _ hc _
  exact absurd hc (by decide)
theorem Two.first {W0 W : World} {g1 g2 : Nat} {xs ys : List Int} (h : Two W0 W g1 g2 xs ys) :
    ∃ F, Step W0 g1 F W W xs ∧ ∀ W' xs', Step W0 g1 F W W' xs' → Two W0 W' g1 g2 xs' ys ∧ KeepT W W' := by
  obtain ⟨v1, v2, h1, h2, h3, h4, h5⟩ := h.out
  refine ⟨Foots g1 v1, h1.step h5, fun W' xs' hS => ?_⟩
  obtain ⟨v, k1, k2, k3, k4⟩ := hS.out
  have hn1 : ¬ Foots g1 v1 g2 := by
    rintro (e | e)
    · exact h3 e.symm
    · exact h2.apart h1 e
  have hn2 : ∀ k, v2.ownBlock = some k → ¬ Foots g1 v1 k := by
    rintro k hk (rfl | e)
    · exact h1.apart h2 hk
    · exact h4 k e hk
  have h2' : IsBuf W' W0.heap.size g2 v2 ys := ⟨blk_kept h2.blk k3 hn1, h2.ge, by
    have := Kd.R_mono (ok' := fun k => v2.ownBlock = some k) (Kd.R_tight rfl h2.row) (fun k hk => hk.symm)
    exact Kd.R_mono (Kd.R_kept this k3 (fun k hk => hn2 k hk)) (fun _ _ => trivial)⟩
  refine ⟨⟨v, v2, k1, h2', h3, fun k a b => ?_, k4⟩, fun b t cs fr hb t1 t2 => blk_kept hb k3 (h1.other hb t1 t2)⟩
  rcases k2 k (.inr a) with hk | hk
  · exact hn2 k b hk
  · have := Kd.R_lt h2.row k b
    omega
end Go.Proofs.Ytkikbbmgibgamaa.Z
