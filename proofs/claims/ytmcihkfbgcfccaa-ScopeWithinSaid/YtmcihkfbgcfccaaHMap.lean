/- The table's map and the map of what came, as what a look-up yields. -/
import Derived.Test.YtmcihkfbgcfccaaChecked
import Derived.Maps.OwnSet
import Derived.WalkKit
import Derived.Below
namespace Go.Proofs.Ytmcihkfbgcfccaa.H
open Go.RowKit Go.ChangeMaps Go.MapKept
open Go.Maps (Keyed IsMap)
set_option linter.unusedVariables false

/-- A pointer to a block's first cell, as a number. -/
def ptrElem (v : Value) : Option (DataW Unit × List MemPlace) :=
  match v with
  | .pointer none => some (.lit (.int .i64 (-1)), [])
  | .pointer (some ⟨b, 0, none⟩) => some (.lit (.int .i64 b), [])
  | _ => none
def ptrV : Option Nat → Value
  | none => .pointer none
  | some b => .pointer (some ⟨b, 0, none⟩)
def numO : Option Nat → Int
  | none => -1
  | some b => b
theorem ptrElem_mk (o : Option Nat) : ptrElem (ptrV o) = some (.lit (.int .i64 (numO o)), []) := by cases o <;> rfl
theorem ptrElem_inv {v : Value} {o : Option Nat} {ps : List MemPlace} (h : ptrElem v = some (.lit (.int .i64 (numO o)), ps)) : v = ptrV o := by
  unfold ptrElem at h
  split at h
  · cases o with
    | none => rfl
    | some b => simp [numO] at h
  · rename_i b0
    cases o with
    | none => simp [numO] at h
    | some b =>
      simp [numO] at h
      have e : b0 = b := by omega
      rw [e]
      rfl
  · simp at h
/-- The instance of a number: they are numbered from 1. -/
def look (g : List Nat) (id : Int) : Option Nat := if 1 ≤ id then g[(id - 1).toNat]? else none
def TabMap (w : World) (b : Nat) (g : List Nat) : Prop :=
  ∃ D : DataW Unit, IsMap D ∧ w.ownsMap Try.prog 3 ptrElem b g.length D ∧ ∀ id : Int, (Lit.int .i64 id).wf = true → D.atKey (.int .i64 id) (.lit (.int .i64 (-1))) = .lit (.int .i64 (numO (look g id)))
theorem TabMap.made (w : World) : TabMap (w.alloc (.map #[] 0)) w.heap.size [] :=
  ⟨.map [], ⟨[], rfl⟩, World.ownsMap_made w _ _ _, fun id _ => by unfold look; split <;> rfl⟩
theorem TabMap.below {w w' : World} {b : Nat} {g : List Nat} (h : TabMap w b g) (hb : Below w.heap.size w w') : TabMap w' b g := by
  obtain ⟨D, h1, h2, h3⟩ := h
  obtain ⟨es, clock, g1, g2, g3, g4⟩ := h2
  have hlt : b < w.heap.size := by rw [Array.getElem?_eq_some_iff] at g1; exact g1.1
  exact ⟨D, h1, ⟨es, clock, (hb.block b hlt).trans g1, g2, g3, g4⟩, h3⟩
theorem TabMap.kept {w w' : World} {b : Nat} {g : List Nat} (h : TabMap w b g) (hb : w'.heap[b]? = w.heap[b]?) : TabMap w' b g := by
  obtain ⟨D, h1, h2, h3⟩ := h
  obtain ⟨es, clock, g1, g2, g3, g4⟩ := h2
  exact ⟨D, h1, ⟨es, clock, hb.trans g1, g2, g3, g4⟩, h3⟩
theorem TabMap.lookup {w : World} {b : Nat} {g : List Nat} (h : TabMap w b g) {id : Int} (hw : (Lit.int .i64 id).wf = true) : (Instr.lookup 112 (.map (some b)) (.int .i64 id) false).run Try.prog w = .ok (ptrV (look g id)) w := by
  obtain ⟨D, h1, h2, h3⟩ := h
  obtain ⟨v, ps, hrun, hv⟩ := h2.lookup (Maps.int_keyed Try.underlying3) Try.underlying112 (Try.zeroValue52 w) (ptrElem_mk none) (Maps.keyOf_int_mk Try.underlying3 hw)
  rw [show numO none = -1 from rfl, h3 id hw] at hv
  rw [hrun, ptrElem_inv hv]
theorem look_snoc (g : List Nat) (b : Nat) (id : Int) : look (g ++ [b]) id = if id = g.length + 1 then some b else look g id := by
  unfold look
  by_cases h : id = g.length + 1
  · rw [if_pos h, if_pos (by omega), show (id - 1).toNat = g.length by omega]
    simp
  · rw [if_neg h]
    by_cases h1 : 1 ≤ id
    · rw [if_pos h1, if_pos h1]
      by_cases h2 : (id - 1).toNat < g.length
      · rw [List.getElem?_append_left h2]
      · rw [List.getElem?_eq_none (by simp; omega), List.getElem?_eq_none (by omega)]
    · rw [if_neg h1, if_neg h1]
theorem TabMap.update {w : World} {b : Nat} {g : List Nat} (h : TabMap w b g) (p : Nat) (hl : g.length < 1000000) :
    ∃ w', (Instr.mapUpdate 112 (.map (some b)) (.int .i64 (g.length + 1)) (.pointer (some ⟨p, 0, none⟩))).run Try.prog w = .ok () w' ∧ TabMap w' b (g ++ [p]) ∧ w.grownBy w' (some b) := by
  obtain ⟨D, h1, h2, h3⟩ := h
  have hw : (Lit.int .i64 (g.length + 1)).wf = true := by simp [Lit.wf, IntKind.min, IntKind.max, IntKind.signed, IntKind.bits]; omega
  obtain ⟨w', hrun, ho, hg⟩ := h2.update (Maps.int_keyed Try.underlying3) Try.underlying112 (by have : maxLen = 9223372036854775807 := rfl; omega) (Maps.keyOf_int_mk Try.underlying3 hw) (ptrElem_mk (some p))
  refine ⟨w', hrun, ⟨_, ?_, by simpa using ho, fun id hid => ?_⟩, hg⟩
  · obtain ⟨es, rfl⟩ := h1
    exact ⟨_, rfl⟩
  · rw [look_snoc]
    by_cases he : id = g.length + 1
    · subst he
      rw [if_pos rfl]
      exact Maps.atKey_put_same h1 (by trivial) _ _
    · rw [if_neg he, Maps.atKey_put_other (fun e => he (by injection e)), h3 id hid]
/-- What has come. -/
def SeenMap (w : World) (b : Nat) (xs : List Int) : Prop :=
  ∃ D : DataW Unit, IsMap D ∧ w.ownsMap Try.prog 3 unitElem b xs.length D ∧ ∀ id : Int, (Lit.int .i64 id).wf = true → Maps.has D (.int .i64 id) = decide (id ∈ xs)
theorem SeenMap.made (w : World) : SeenMap (w.alloc (.map #[] 0)) w.heap.size [] :=
  ⟨.map [], ⟨[], rfl⟩, World.ownsMap_made w _ _ _, fun id _ => by simp [Maps.has_eq]⟩
theorem SeenMap.kept {w w' : World} {b : Nat} {xs : List Int} (h : SeenMap w b xs) (hb : w'.heap[b]? = w.heap[b]?) : SeenMap w' b xs := by
  obtain ⟨D, h1, h2, h3⟩ := h
  obtain ⟨es, clock, g1, g2, g3, g4⟩ := h2
  exact ⟨D, h1, ⟨es, clock, hb.trans g1, g2, g3, g4⟩, h3⟩
theorem SeenMap.lookup {w : World} {b : Nat} {xs : List Int} (h : SeenMap w b xs) {id : Int} (hw : (Lit.int .i64 id).wf = true) : (Instr.lookup 103 (.map (some b)) (.int .i64 id) true).run Try.prog w = .ok (.tuple #[.agg #[], .bool (decide (id ∈ xs))]) w := by
  obtain ⟨D, h1, h2, h3⟩ := h
  obtain ⟨v, ps, hrun, hv⟩ := h2.look_ok (Maps.int_keyed Try.underlying3) Try.underlying103 (Try.zeroValue118 w) unitElem_mk (Maps.keyOf_int_mk Try.underlying3 hw)
  rw [hrun, h3 id hw, (unitElem_inv hv).1]
theorem seen_nil (w : World) {id : Int} (hw : (Lit.int .i64 id).wf = true) : (Instr.lookup 103 (.map none) (.int .i64 id) true).run Try.prog w = .ok (.tuple #[.agg #[], .bool (decide (id ∈ ([] : List Int)))]) w := by
  simpa using Maps.look_nil true (Maps.int_keyed Try.underlying3) Try.underlying103 (Try.zeroValue118 w) (Maps.keyOf_int_mk Try.underlying3 hw)
theorem SeenMap.update {w : World} {b : Nat} {xs : List Int} (h : SeenMap w b xs) {id : Int} (hw : (Lit.int .i64 id).wf = true) (hl : xs.length < 1000000) :
    ∃ w', (Instr.mapUpdate 103 (.map (some b)) (.int .i64 id) (.agg #[])).run Try.prog w = .ok () w' ∧ SeenMap w' b (xs ++ [id]) ∧ w.grownBy w' (some b) := by
  obtain ⟨D, h1, h2, h3⟩ := h
  obtain ⟨w', hrun, ho, hg⟩ := h2.update (Maps.int_keyed Try.underlying3) Try.underlying103 (by have : maxLen = 9223372036854775807 := rfl; omega) (Maps.keyOf_int_mk Try.underlying3 hw) unitElem_mk
  refine ⟨w', hrun, ⟨_, ?_, by simpa using ho, fun i hi => ?_⟩, hg⟩
  · obtain ⟨es, rfl⟩ := h1
    exact ⟨_, rfl⟩
  · by_cases he : i = id
    · subst he
      rw [Maps.has_put_same h1 (by trivial)]
      simp
    · rw [Maps.has_put_other (fun e => he (by injection e)), h3 i hi]
      simp [he]
end Go.Proofs.Ytmcihkfbgcfccaa.H
