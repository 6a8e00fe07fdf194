/- Plain: what the three laws say. -/
import Derived.Test.YtmcihkfbgcfccaaHAsk
namespace Go.Proofs.Ytmcihkfbgcfccaa.H
open Go.RowKit Go.Proofs.Ytmcihkfbgcfccaa.Z Go.Proofs.YtmcihkfbgcfccaaW.PrintWords Go.Proofs.YtmcihkfbgcfccaaW.PrintLast Go.Proofs.YtmcihkfbgcfccaaW.PrintMore
set_option linter.unusedVariables false
set_option linter.unusedSimpArgs false
theorem wrap_small {i : Int} (h0 : -1000000 ≤ i) (h1 : i ≤ 1000000) : wrap64 i = i := by unfold wrap64; omega
theorem great_l0 (l : List S81) (hl : l.length ≤ 12) : ∀ (m i k : Nat), i + m = l.length → m + 1 ≤ k → ∃ r, messuagelaw23_great.l0 k l (i : Int) = some r ∧ (r = false → ∀ x ∈ l.drop i, x.f4.length ≤ 40 ∧ x.f5.length ≤ 12)
  | 0, i, k, h, hk => by
    obtain ⟨k, rfl⟩ : ∃ k', k = k' + 1 := ⟨k - 1, by omega⟩
    rw [messuagelaw23_great.l0, if_neg (by omega), List.drop_of_length_le (by omega)]
    exact ⟨false, rfl, fun _ x hx => by simp at hx⟩
  | m + 1, i, k, h, hk => by
    obtain ⟨k, rfl⟩ : ∃ k', k = k' + 1 := ⟨k - 1, by omega⟩
    have hi : i < l.length := by omega
    obtain ⟨r, ih, hr⟩ := great_l0 l hl m (i + 1) k (by omega) (by omega)
    have hx : rd_T81 l (i : Int) = l[i] := by simp [rd_T81, hi]
    rw [messuagelaw23_great.l0, if_pos (by omega), if_pos (by omega), hx]
    by_cases h4 : (l[i].f4.length : Int) > 40
    · rw [if_pos h4]; exact ⟨true, rfl, fun h => by simp at h⟩
    · rw [if_neg h4]
      by_cases h5 : (l[i].f5.length : Int) > 12
      · rw [if_pos h5]; exact ⟨true, rfl, fun h => by simp at h⟩
      · rw [if_neg h5, wrap_small (by omega) (by omega), show (i : Int) + 1 = ((i + 1 : Nat) : Int) by omega]
        refine ⟨r, ih, fun h x hx => ?_⟩
        rw [List.drop_eq_getElem_cons hi] at hx
        rcases List.mem_cons.1 hx with rfl | hx
        · omega
        · exact hr h x hx
theorem great_f (l : List S81) : ∃ r, messuagelaw23_great.f fuel l = some r ∧ (r = false → l.length ≤ 12 ∧ ∀ x ∈ l, x.f4.length ≤ 40 ∧ x.f5.length ≤ 12) := by
  unfold messuagelaw23_great.f
  by_cases h : (l.length : Int) > 12
  · rw [if_pos h]; exact ⟨true, rfl, fun h => by simp at h⟩
  · rw [if_neg h]
    obtain ⟨r, e, hr⟩ := great_l0 l (by omega) l.length 0 fuel (by omega) (by unfold fuel; omega)
    exact ⟨r, e, fun h => ⟨by omega, by simpa using hr h⟩⟩
theorem has_l0 (l : List Int) (y : Int) (hl : l.length ≤ 1000) : ∀ (m i k : Nat), i + m = l.length → m + 1 ≤ k → messuageref22_Has.l0 k l y (i : Int) = some (decide (y ∈ l.drop i))
  | 0, i, k, h, hk => by
    obtain ⟨k, rfl⟩ : ∃ k', k = k' + 1 := ⟨k - 1, by omega⟩
    rw [messuageref22_Has.l0, if_neg (by omega), List.drop_of_length_le (by omega)]
    simp
  | m + 1, i, k, h, hk => by
    obtain ⟨k, rfl⟩ : ∃ k', k = k' + 1 := ⟨k - 1, by omega⟩
    have hi : i < l.length := by omega
    have ih := has_l0 l y hl m (i + 1) k (by omega) (by omega)
    have hx : rd l (i : Int) = l[i] := by simp [rd, hi]
    rw [messuageref22_Has.l0, if_pos (by omega), if_pos (by omega), hx]
    rw [show l.drop i = l[i] :: l.drop (i + 1) from List.drop_eq_getElem_cons hi]
    by_cases he : l[i] = y
    · rw [if_pos he]; simp [he]
    · rw [if_neg he, wrap_small (by omega) (by omega), show (i : Int) + 1 = ((i + 1 : Nat) : Int) by omega, ih]
      have he' : ¬ y = l[i] := fun e => he e.symm
      simp only [List.mem_cons, he', false_or]
theorem has_f (l : List Int) (y : Int) (hl : l.length ≤ 1000) : messuageref22_Has.f fuel l y = some (decide (y ∈ l)) := by
  have := has_l0 l y hl l.length 0 fuel (by omega) (by unfold fuel; omega)
  simpa [messuageref22_Has.f] using this
/-! ### Lists -/
theorem inOf_append {L : List Ins} (nm ver : ByteArray) : ∀ (a b : List Int), inOf L nm ver (a ++ b) = if (inOf L nm ver a).2.2 = true then inOf L nm ver a else inOf L nm ver b
  | [], b => by simp [inOf]
  | id :: a, b => by
    rw [List.cons_append, inOf, inOf]
    cases h : insAt L id with
    | none => exact inOf_append nm ver a b
    | some x =>
      simp only
      split
      · simp
      · exact inOf_append nm ver a b
theorem inOf_not {L : List Ins} {nm ver : ByteArray} {ids : List Int} (h : (inOf L nm ver ids).2.2 = false) : inOf L nm ver ids = (0, 0, false) := by
  rcases inOf_spec (l := L) nm ver ids with e | ⟨_, _, _, _, e, _⟩
  · exact e
  · rw [e] at h; simp at h
theorem addAll_append : ∀ (ys zs xs : List Int), addAll xs (ys ++ zs) = addAll (addAll xs ys) zs := fun ys zs xs => by unfold addAll; rw [List.foldl_append]
theorem globs_addAll (L : List Ins) (s : Int) : ∀ n : Nat, addAll [] (globsOf L s n) = globsOf L s n
  | 0 => rfl
  | n + 1 => by
    have ih := globs_addAll L s n
    rw [globsOf]
    split
    · split
      · rw [addAll_append, ih]
        show addTo (globsOf L s n) ((n : Int) + 1) = _
        unfold addTo
        rw [if_neg]
        intro h
        have := globsOf_mem L s n _ h
        omega
      · exact ih
    · exact ih
/-! ### Self -/
theorem order_self {L : List Ins} {id root : Int} {x : Ins} (h : insAt L id = some x) (hs : x.sy = true) : ∃ t, orderOf L id root = [id] ++ t := by
  unfold orderOf
  rw [h]
  simp only [hs, if_true]
  rw [List.append_assoc, addAll_append]
  exact addAll_prefix _ _
theorem order_globs {L : List Ins} {id root : Int} {x : Ins} (h : insAt L id = some x) (hs : x.sy = false) : ∃ t, orderOf L id root = globsOf L x.sp L.length ++ t := by
  unfold orderOf
  rw [h]
  simp only [hs, Bool.false_eq_true, if_false, List.nil_append]
  rw [addAll_append, globs_addAll]
  exact addAll_prefix _ _
theorem res_of {L : List Ins} {id root sym : Int} {x : Ins} (h : insAt L id = some x) (h1 : 1 ≤ sym) (h2 : sym < x.syms.length) {pre t : List Int} (ho : orderOf L id root = pre ++ t)
    (hf : (inOf L (rd_T76 x.syms sym).f0 (rd_T76 x.syms sym).f1 pre).2.2 = true) (hd : ¬ ((rd_T76 x.syms sym).f4 = true ∧ (rd_T76 x.syms sym).f3 = 0)) :
    resTot L id root sym = ((inOf L (rd_T76 x.syms sym).f0 (rd_T76 x.syms sym).f1 pre).1, (inOf L (rd_T76 x.syms sym).f0 (rd_T76 x.syms sym).f1 pre).2.1, true, 0) := by
  unfold resTot
  rw [h]
  simp only
  rw [if_neg (by omega), if_neg (by omega), if_neg hd, ho, inOf_append, if_pos hf, if_pos hf]
/-! ### Within -/
theorem addAll_sub {a b c : List Int} {y : Int} (h : y ∈ addAll [] (a ++ b ++ c)) : y ∈ a ∨ y ∈ b ∨ y ∈ c := by
  rcases addAll_mem _ _ _ h with h | h
  · simp at h
  · simpa [List.mem_append, or_assoc] using h
theorem res_not {L : List Ins} {id root sym r1 r2 : Int} {f : Bool} {e : Int} (h : resTot L id root sym = (r1, r2, f, e)) (he : e ≠ 0) : f = false := by
  unfold resTot at h
  cases hx : insAt L id with
  | none => rw [hx] at h; simp at h; simp [h]
  | some x =>
    rw [hx] at h
    simp only at h
    repeat' split at h
    all_goals
      simp only [Prod.mk.injEq] at h
      obtain ⟨_, _, h3, h4⟩ := h
      first | exact h3.symm | exact absurd h4.symm he
theorem res_within {L : List Ins} {id root sym r1 r2 e : Int} (h : resTot L id root sym = (r1, r2, true, e)) :
    ∃ x o, insAt L id = some x ∧ insAt L r1 = some o ∧ 0 ≤ sym ∧ sym < x.syms.length ∧ 0 ≤ r2 ∧ r2 < o.syms.length ∧ (rd_T76 o.syms r2).f0.toList = (rd_T76 x.syms sym).f0.toList ∧ (rd_T76 o.syms r2).f4 = true ∧
      (r1 = id ∨ ((rd_T76 o.syms r2).f3 ≠ 0 ∧ (r1 ∈ globsOf L x.sp L.length ∨ r1 ∈ groupOf L root))) := by
  unfold resTot at h
  cases hx : insAt L id with
  | none => rw [hx] at h; simp at h
  | some x =>
    rw [hx] at h
    simp only at h
    split at h
    · simp at h
    · rename_i hb
      split at h
      · simp at h
      · split at h
        · rename_i hd
          simp only [Prod.mk.injEq] at h
          obtain ⟨rfl, rfl, _, _⟩ := h
          exact ⟨x, x, rfl, hx, by omega, by omega, by omega, by omega, rfl, hd.1, .inl rfl⟩
        · split at h
          · rename_i hf
            simp only [Prod.mk.injEq] at h
            obtain ⟨rfl, rfl, _, _⟩ := h
            rcases inOf_spec (l := L) (rd_T76 x.syms sym).f0 (rd_T76 x.syms sym).f1 (orderOf L id root) with e | ⟨i, o, n, y, e, h1, h2, h3, h4, h5, h6⟩
            · rw [e] at hf; simp at hf
            · rw [e]
              simp only
              have hn : n.toNat < o.syms.length := (List.getElem?_eq_some_iff.1 h5).1
              have hr : rd_T76 o.syms n = y := by rw [rd_T76, List.getD_eq_getElem?_getD, h5]; rfl
              unfold hit at h6
              simp only [Bool.and_eq_true, bne_iff_ne, ne_eq, beq_iff_eq] at h6
              obtain ⟨⟨⟨q1, q2⟩, q3⟩, _⟩ := h6
              refine ⟨x, o, rfl, h2, by omega, by omega, h4, by omega, by rw [hr]; exact q3, by rw [hr]; exact q1, ?_⟩
              rw [hr]
              unfold orderOf at h1
              rw [hx] at h1
              simp only at h1
              rcases addAll_sub h1 with g | g | g
              · split at g
                · simp at g; exact .inl g
                · simp at g
              · exact .inr ⟨q2, .inl g⟩
              · exact .inr ⟨q2, .inr g⟩
          · split at h <;> simp at h
/-! ### First -/
theorem inOf_first {L : List Ins} {nm ver : ByteArray} {ids : List Int} {i : Nat} {h1 h2 : Int} (h : inOf L nm ver ids = (h1, h2, true)) (hb : ∀ j, (hj : j < ids.length) → j < i → ids[j] ≠ h1) : (inOf L nm ver (ids.take i)).2.2 = false := by
  cases hf : (inOf L nm ver (ids.take i)).2.2 with
  | false => rfl
  | true =>
    exfalso
    have e := inOf_append (L := L) nm ver (ids.take i) (ids.drop i)
    rw [List.take_append_drop, if_pos hf, h] at e
    rcases inOf_spec (l := L) nm ver (ids.take i) with e' | ⟨a, _, _, _, e', hm, _⟩
    · rw [e'] at hf; simp at hf
    · rw [e'] at e
      simp only [Prod.mk.injEq] at e
      obtain ⟨rfl, _⟩ := e
      obtain ⟨j, hj, rfl⟩ := List.getElem_of_mem hm
      simp at hj
      exact hb j (by omega) (by omega) (by simp)
theorem inOf_more {L : List Ins} {nm ver : ByteArray} {ids : List Int} {h1 h2 more : Int} (h : inOf L nm ver ids = (h1, h2, true)) : inOf L nm ver (ids ++ [more]) = (h1, h2, true) := by
  rw [inOf_append, h]; rfl
end Go.Proofs.Ytmcihkfbgcfccaa.H
