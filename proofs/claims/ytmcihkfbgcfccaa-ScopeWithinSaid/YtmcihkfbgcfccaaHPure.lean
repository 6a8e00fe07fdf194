/- Plain: what is found. -/
import Derived.Test.YtmcihkfbgcfccaaHMade
import Derived.Test.YtmcihkfbgcfccaaZ1
namespace Go.Proofs.Ytmcihkfbgcfccaa.H
open Go.RowKit Go.Proofs.Ytmcihkfbgcfccaa.Z Go.Proofs.YtmcihkfbgcfccaaW.PrintWords Go.Proofs.YtmcihkfbgcfccaaW.PrintLast Go.Proofs.YtmcihkfbgcfccaaW.PrintMore
set_option linter.unusedVariables false
set_option linter.unusedSimpArgs false
/-- May a symbol be had, by this name and version? -/
def hit (vd : Bool) (nm ver : ByteArray) (x : S76) : Bool :=
  x.f4 && (x.f3 != 0) && (x.f0.toList == nm.toList) && (if ver.toList = [] then !x.f2 else (x.f1.toList == ver.toList) || !vd)
def symFrom (vd : Bool) (nm ver : ByteArray) : List S76 → Int → Int
  | [], _ => -1
  | x :: xs, i => if hit vd nm ver x = true then i else symFrom vd nm ver xs (i + 1)
theorem symFrom_spec (vd : Bool) (nm ver : ByteArray) : ∀ (xs : List S76) (i : Int), symFrom vd nm ver xs i = -1 ∨ ∃ (j : Nat) (x : S76), xs[j]? = some x ∧ hit vd nm ver x = true ∧ symFrom vd nm ver xs i = i + j
  | [], i => .inl rfl
  | x :: xs, i => by
    rw [symFrom]
    by_cases h : hit vd nm ver x = true
    · rw [if_pos h]
      exact .inr ⟨0, x, rfl, h, by omega⟩
    · rw [if_neg h]
      rcases symFrom_spec vd nm ver xs (i + 1) with e | ⟨j, y, h1, h2, h3⟩
      · exact .inl e
      · exact .inr ⟨j + 1, y, h1, h2, by rw [h3]; omega⟩
theorem find_l0 (vd : Bool) (nm ver : ByteArray) (xs : List S76) (hx : xs.length ≤ 1000) : ∀ (m i k : Nat), i + m = xs.length → 2 * m + 1 ≤ k → syms_Find.l0 k vd nm ver xs (xs.length : Int) (i : Int) = some (symFrom vd nm ver (xs.drop i) i)
  | 0, i, k, h, hk => by
    obtain ⟨k, rfl⟩ : ∃ k', k = k' + 1 := ⟨k - 1, by omega⟩
    rw [syms_Find.l0, if_neg (by omega), List.drop_of_length_le (by omega)]
    rfl
  | m + 1, i, k, h, hk => by
    obtain ⟨k, rfl⟩ : ∃ k', k = k' + 1 := ⟨k - 1, by omega⟩
    have hi : i < xs.length := by omega
    have hr : rd_T76 xs (i : Int) = xs[i] := by simp [rd_T76, hi]
    have hw : wrap64 ((i : Int) + 1) = ((i + 1 : Nat) : Int) := by
      rw [show ((i + 1 : Nat) : Int) = (i : Int) + 1 by omega]
      unfold wrap64
      omega
    obtain ⟨k, rfl⟩ : ∃ k', k = k' + 1 := ⟨k - 1, by omega⟩
    have ih := find_l0 vd nm ver xs hx m (i + 1) k (by omega) (by omega)
    rw [syms_Find.l0, if_pos (by omega), if_pos (by omega), if_pos (by omega), hr, List.drop_eq_getElem_cons hi, symFrom]
    generalize xs[i] = x
    have hc : ((i : Int) + 1) = ((i + 1 : Nat) : Int) := by omega
    unfold syms_Exported.f
    cases h4 : x.f4 with
    | false =>
      simp only [Bool.false_eq_true, if_false, Option.bind_some]
      rw [syms_Find.j1, if_pos rfl, hw, ih, if_neg (by simp [hit, h4]), hc]
    | true =>
      simp only [if_true, Option.bind_some]
      by_cases h3 : x.f3 = 0
      · rw [if_neg (by simp [h3]), syms_Find.j1, if_pos rfl, hw, ih, if_neg (by simp [hit, h3]), hc]
      · rw [if_pos (by simpa using h3), syms_Find.j1]
        by_cases h0 : x.f0.toList = nm.toList
        · rw [if_neg (by simp [h0])]
          by_cases hv : ver.toList = []
          · rw [if_pos hv]
            cases h2 : x.f2 with
            | true => rw [if_pos rfl, hw, ih, if_neg (by simp [hit, hv, h2]), hc]
            | false => rw [if_neg (by simp), if_pos (by simp [hit, h4, h3, h0, hv, h2])]
          · rw [if_neg hv]
            by_cases h1 : x.f1.toList = ver.toList
            · rw [if_pos h1, if_pos (by simp [hit, h4, h3, h0, hv, h1])]
            · rw [if_neg h1]
              cases vd with
              | true => rw [if_pos rfl, hw, ih, if_neg (by simp [hit, hv, h1]), hc]
              | false => rw [if_neg (by simp), if_pos (by simp [hit, h4, h3, h0, hv, h1])]
        · rw [if_pos (by simpa using h0), hw, ih, if_neg (by simp [hit, h0]), hc]
/-- The fuel of this seat. -/
def fuel : Nat := 2001
theorem find_f (vd : Bool) (nm ver : ByteArray) (xs : List S76) (hx : xs.length ≤ 1000) : syms_Find.f fuel xs vd nm ver = some (symFrom vd nm ver xs 0) := by
  have h := find_l0 vd nm ver xs hx xs.length 0 fuel (by omega) (by unfold fuel; omega)
  simpa [syms_Find.f] using h
/-- In, in full. -/
def inOf (l : List Ins) (nm ver : ByteArray) : List Int → Int × Int × Bool
  | [] => (0, 0, false)
  | id :: ids => match insAt l id with
    | none => inOf l nm ver ids
    | some x => if symFrom (x.vd != 0) nm ver x.syms 0 ≥ 0 then (id, symFrom (x.vd != 0) nm ver x.syms 0, true) else inOf l nm ver ids
/-- Nets of the size that is asked. -/
structure Small (l : List Ins) : Prop where
  len : l.length ≤ 12
  syms : ∀ x ∈ l, x.syms.length ≤ 40
  needs : ∀ x ∈ l, x.needs.length ≤ 1000 ∧ ∀ y ∈ x.needs, 1 ≤ y ∧ y ≤ l.length
theorem insAt_mem {l : List Ins} {id : Int} {x : Ins} (h : insAt l id = some x) : x ∈ l := by
  unfold insAt at h
  split at h
  · exact List.mem_of_getElem? h
  · cases h
theorem inGo_of {l : List Ins} (hl : Small l) (nm ver : ByteArray) : ∀ ids : List Int, inGo fuel l nm ver ids = some (inOf l nm ver ids)
  | [] => rfl
  | id :: ids => by
    rw [inGo, inOf]
    cases h : insAt l id with
    | none => exact inGo_of hl nm ver ids
    | some x =>
      simp only
      rw [find_f _ _ _ _ (by have := hl.syms x (insAt_mem h); omega), Option.bind_some]
      split
      · rfl
      · exact inGo_of hl nm ver ids
theorem inOf_spec {l : List Ins} (nm ver : ByteArray) : ∀ ids : List Int, (inOf l nm ver ids = (0, 0, false)) ∨ ∃ id x n y, inOf l nm ver ids = (id, n, true) ∧ id ∈ ids ∧ insAt l id = some x ∧ n = symFrom (x.vd != 0) nm ver x.syms 0 ∧ 0 ≤ n ∧ x.syms[n.toNat]? = some y ∧ hit (x.vd != 0) nm ver y = true
  | [] => .inl rfl
  | id :: ids => by
    rw [inOf]
    cases h : insAt l id with
    | none =>
      rcases inOf_spec nm ver ids with e | ⟨i, x, n, y, e, h1, h2⟩
      · exact .inl e
      · exact .inr ⟨i, x, n, y, e, List.mem_cons_of_mem _ h1, h2⟩
    | some x =>
      simp only
      split
      · rename_i hn
        rcases symFrom_spec (x.vd != 0) nm ver x.syms 0 with e | ⟨j, y, h1, h2, h3⟩
        · omega
        · refine .inr ⟨id, x, _, y, rfl, List.mem_cons_self, h, rfl, hn, ?_, h2⟩
          rw [h3, show (0 + (j : Int)).toNat = j by omega]
          exact h1
      · rcases inOf_spec nm ver ids with e | ⟨i, x, n, y, e, h1, h2⟩
        · exact .inl e
        · exact .inr ⟨i, x, n, y, e, List.mem_cons_of_mem _ h1, h2⟩
/-- Resolve, in full. -/
def resTot (L : List Ins) (id root sym : Int) : Int × Int × Bool × Int :=
  match insAt L id with
  | none => (0, 0, false, 230)
  | some x => if sym < 0 ∨ sym ≥ x.syms.length then (0, 0, false, 230) else
    if sym = 0 then (0, 0, false, 0) else
    if (rd_T76 x.syms sym).f4 = true ∧ (rd_T76 x.syms sym).f3 = 0 then (id, sym, true, 0) else
    let p := inOf L (rd_T76 x.syms sym).f0 (rd_T76 x.syms sym).f1 (orderOf L id root)
    if p.2.2 = true then (p.1, p.2.1, true, 0) else if (rd_T76 x.syms sym).f3 = 2 then (0, 0, false, 0) else (0, 0, false, 230)
theorem resOf_tot {L : List Ins} (hL : Small L) (id root sym : Int) : resOf fuel L id root sym = some (resTot L id root sym) := by
  unfold resOf resTot
  cases h : insAt L id with
  | none => rfl
  | some x =>
    simp only [inGo_of hL, Option.bind_some]
    repeat' (first | rfl | split)
theorem netOf_small {l : List S81} (hl : l.length ≤ 12) (hn : ∀ x ∈ l, x.f4.length ≤ 40 ∧ x.f5.length ≤ 12) : Small (netOf l) := by
  have hlen : (netOf l).length = l.length := by simp [netOf]
  refine ⟨by omega, fun x hx => ?_, fun x hx => ?_⟩
  · unfold netOf at hx
    obtain ⟨y, hy, rfl⟩ := List.mem_map.1 hx
    exact (hn y hy).1
  · unfold netOf at hx
    obtain ⟨y, hy, rfl⟩ := List.mem_map.1 hx
    have h5 := (hn y hy).2
    rw [hlen]
    constructor
    · show (needsOf l.length y.f5).length ≤ 1000
      unfold needsOf
      rw [List.length_map]
      have := List.length_filter_le (fun z : Int => decide (0 ≤ z) && decide (z < (l.length : Int))) y.f5
      omega
    · intro z hz
      have hz : z ∈ needsOf l.length y.f5 := hz
      unfold needsOf at hz
      obtain ⟨u, hu, rfl⟩ := List.mem_map.1 hz
      have := (List.mem_filter.1 hu).2
      simp at this
      omega
end Go.Proofs.Ytmcihkfbgcfccaa.H
