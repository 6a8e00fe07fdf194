import Derived.Test.YtkikbbmgibgamaaZ0
namespace Go.Proofs.Ytkikbbmgibgamaa.Z
open Go.RowKit Go.Proofs.Ytkikbbmgibgamaa.H Go.Proofs.YtkikbbmgibgamaaW.PrintWords Go.Proofs.YtkikbbmgibgamaaW.PrintLast Go.Proofs.YtkikbbmgibgamaaW.PrintMore
attribute [local go_sem] max2_int min2_int max_two min_two max_three min_three max_four min_four
set_option linter.unusedVariables false
set_option linter.unusedSimpArgs false

/-- The k lowest bytes of a number, the lowest first. -/
def leB : Nat → Int → List Int
  | 0, _ => []
  | k + 1, n => n % 256 :: leB k (n / 256)
theorem leB_length : ∀ (k : Nat) (n : Int), (leB k n).length = k
  | 0, _ => rfl
  | k + 1, n => by simp [leB, leB_length k]
theorem leB_snoc : ∀ (k : Nat) (n : Int), leB (k + 1) n = leB k n ++ [n / 256 ^ k % 256]
  | 0, n => by simp [leB]
  | k + 1, n => by
    rw [leB, leB_snoc k (n / 256), leB]
    simp only [List.cons_append]
    rw [Int.ediv_ediv_of_nonneg (by omega), Int.pow_succ, Int.mul_comm]

/-- What a Buf holds: its block, and the row in it. -/
structure IsBuf (W : World) (B g : Nat) (v : Value) (xs : List Int) : Prop where
  blk : W.heap[g]? = some (.cells #[v] 81 (0, 0))
  ge : B ≤ g
  row : (Kd.int .u8).R 5 W B (fun _ => True) v xs
def Foots (g : Nat) (v : Value) (k : Nat) : Prop := k = g ∨ v.ownBlock = some k
/-- From w on the Buf at g (its blocks: F) has come to xs in w'; all else is as it was. -/
structure Step (W0 : World) (g : Nat) (F : Nat → Prop) (w w' : World) (xs : List Int) : Prop where
  out : ∃ v, IsBuf w' W0.heap.size g v xs ∧ (∀ k, Foots g v k → F k ∨ w.heap.size ≤ k) ∧ Kept w w' F ∧ Below W0.heap.size W0 w'

theorem IsBuf.step {W0 w : World} {g : Nat} {v : Value} {xs : List Int} (h : IsBuf w W0.heap.size g v xs) (hB : Below W0.heap.size W0 w) : Step W0 g (Foots g v) w w xs :=
  ⟨v, h, fun _ hk => .inl hk, Kept.refl _ _, hB⟩
theorem IsBuf.below {W W1 : World} {B g : Nat} {v : Value} {xs : List Int} (h : IsBuf W B g v xs) (hb : Below W.heap.size W W1) : IsBuf W1 B g v xs :=
  ⟨(hb.block g (blk_lt h.blk)).trans h.blk, h.ge, Kd.R_below h.row hb⟩
theorem Step.below {W0 w w' w2 : World} {g : Nat} {F : Nat → Prop} {xs : List Int} (h : Step W0 g F w w' xs) (hb : Below w'.heap.size w' w2) : Step W0 g F w w2 xs := by
  obtain ⟨v, h1, h2, h3, h4⟩ := h.out
  exact ⟨v, h1.below hb, h2, h3.below hb, h4.trans ⟨hb.os, hb.tape, hb.output, hb.size, fun k hk => hb.block k (Nat.lt_of_lt_of_le hk h4.size)⟩⟩
theorem Step.alloc {W0 w w' : World} {g : Nat} {F : Nat → Prop} {xs : List Int} (h : Step W0 g F w w' xs) (o : Obj) : Step W0 g F w (w'.alloc o) xs := h.below (below_alloc (Below.refl _ _) o)
theorem Step.drewN {W0 w w' : World} {g : Nat} {F : Nat → Prop} {xs : List Int} (h : Step W0 g F w w' xs) (n : Nat) : Step W0 g F w (w'.drewN n) xs := h.below (pw_below_drewN (Below.refl _ _) n)
theorem Step.size {W0 w w' : World} {g : Nat} {F : Nat → Prop} {xs : List Int} (h : Step W0 g F w w' xs) : w.heap.size ≤ w'.heap.size := by
  obtain ⟨v, h1, h2, h3, h4⟩ := h.out
  exact h3.1
theorem IsBuf.cell {W : World} {B g : Nat} {v : Value} {xs : List Int} (h : IsBuf W B g v xs) : W.cell? ⟨g, 0, none⟩ = some v := (blk_cell h.blk 0).trans rfl
theorem IsBuf.frozen {W : World} {B g : Nat} {v : Value} {xs : List Int} (h : IsBuf W B g v xs) : W.frozen? ⟨g, 0, none⟩ = false := blk_frozen h.blk 0
theorem IsBuf.ne {W : World} {B g : Nat} {v : Value} {xs : List Int} (h : IsBuf W B g v xs) : some g ≠ v.ownBlock := Kd.R_ne h.row h.blk (by decide)

/-- Behind an append to the row, the new row stored back. -/
theorem IsBuf.grown {W w1 : World} {B g : Nat} {v v1 : Value} {xs ys : List Int} (h : IsBuf W B g v xs) (ho : (Kd.int .u8).R 5 w1 B (fun _ => True) v1 ys) (hg : W.grownBy w1 v.ownBlock) :
    w1.heap[g]? = some (.cells #[v] 81 (0, 0)) := blk_grown h.blk hg h.ne
theorem IsBuf.stored {W w1 : World} {B g : Nat} {v v1 : Value} {xs ys : List Int} (h : IsBuf W B g v xs) (ho : (Kd.int .u8).R 5 w1 B (fun _ => True) v1 ys) (hg : W.grownBy w1 v.ownBlock) :
    IsBuf (w1.setCell ⟨g, 0, none⟩ v1) B g v1 ys := by
  have hb := h.grown ho hg
  refine ⟨by simpa using blk_set hb 0 v1, h.ge, ?_⟩
  refine Kd.R_step (Kd.R_mono (ok' := fun k => k ≠ g) (Kd.R_bound ho) (fun k hk he => ?_)) (fun k hk _ => Below.heap_setCell w1 ⟨g, 0, none⟩ v1 k hk) |> fun z => Kd.R_mono z (fun _ _ => trivial)
  obtain ⟨_, _, _, q, hq, cells, hc⟩ := hk
  subst he
  rw [hb] at hc
  injection hc with hc
  injection hc with _ hc _
  subst hc
  exact absurd hq (by decide)
theorem Step.stored {W0 w W w1 : World} {g : Nat} {F : Nat → Prop} {v v1 : Value} {xs ys : List Int} (h : IsBuf W W0.heap.size g v xs) (h2 : ∀ k, Foots g v k → F k ∨ w.heap.size ≤ k) (h3 : Kept w W F)
    (ho : (Kd.int .u8).R 5 w1 W0.heap.size (fun _ => True) v1 ys) (hb : Below W0.heap.size W0 w1) (hg : W.grownBy w1 v.ownBlock) (hat : v1.ownBlock = v.ownBlock ∨ ∃ b, v1.ownBlock = some b ∧ W.heap.size ≤ b) :
    Step W0 g F w (w1.setCell ⟨g, 0, none⟩ v1) ys := by
  refine ⟨v1, h.stored ho hg, fun k hk => ?_, ?_, hb.setCell (p := ⟨g, 0, none⟩) h.ge v1⟩
  · rcases hk with hk | hk
    · exact h2 k (.inl hk)
    · rcases hat with hat | ⟨b, hb1, hle⟩
      · exact h2 k (.inr (hat ▸ hk))
      · rw [hb1] at hk
        injection hk with hk
        have := h3.1
        exact .inr (by omega)
  · refine Kept.setCell (Kept.of_grown hg h3 (fun k hk => h2 k (.inr hk))) (p := ⟨g, 0, none⟩) (h2 g (.inl rfl)) v1
end Go.Proofs.Ytkikbbmgibgamaa.Z
