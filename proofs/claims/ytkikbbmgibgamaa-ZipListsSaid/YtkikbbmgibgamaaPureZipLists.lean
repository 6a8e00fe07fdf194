/- The plain law of ZipLists: both readers list the same. -/
import Derived.Test.YtkikbbmgibgamaaZ7
import Derived.Test.YtkikbbmgibgamaaHList
namespace Go.Proofs.Ytkikbbmgibgamaa.Pure
open Go.RowKit Go.Proofs.Ytkikbbmgibgamaa.Z Go.Proofs.YtkikbbmgibgamaaW.PrintWords Go.Proofs.YtkikbbmgibgamaaW.PrintLast

theorem byt_of {l : List Int} (h : ∀ x ∈ l, (Lit.int .u8 x).wf = true) : Byt l := by
  intro x hx
  have := h x hx
  simp [Lit.wf, IntKind.min, IntKind.max, IntKind.signed, IntKind.bits] at this
  omega
theorem rows_l0 {es : List S32} (hes : (es.length : Int) ≤ 1000000) : ∀ (d j k : Nat), es.length - j = d → j ≤ es.length → d + 100000 ≤ k →
    messuagelaw07_ZipLists.l0 k es (es.map to33) j = some true := by
  intro d
  induction d with
  | zero =>
    intro j k hd hj hk
    obtain ⟨k, rfl⟩ : ∃ m, k = m + 1 := ⟨k - 1, by omega⟩
    rw [messuagelaw07_ZipLists.l0, if_neg (by omega)]
    rfl
  | succ d ih =>
    intro j k hd hj hk
    obtain ⟨k, rfl⟩ : ∃ m, k = m + 1 := ⟨k - 1, by omega⟩
    have hlt : j < es.length := by omega
    have e1 : rd_T32 es (j : Int) = es[j] := by simp [rd_T32, List.getElem?_eq_getElem hlt]
    have e2 : rd_T33 (es.map to33) (j : Int) = to33 es[j] := by simp [rd_T33, List.getElem?_eq_getElem hlt]
    rw [messuagelaw07_ZipLists.l0, if_pos (by omega), if_pos (by omega), if_pos (by rw [List.length_map]; omega), e1, e2]
    rw [if_pos (by rfl), if_pos (by rfl), if_pos (by rfl), if_pos (by rfl), if_pos (by rfl), w64 (by omega) (by omega), show ((j : Int) + 1) = ((j + 1 : Nat) : Int) by omega]
    exact ih (j + 1) k (by omega) (by omega) (by omega)
theorem listGo_len (l : List Int) (stop : Int) : ∀ (n : Nat) (a : Int) (es : List S32), listGo l stop n a = some es → es.length = n := by
  intro n
  induction n with
  | zero => intro a es h; rw [listGo] at h; split at h <;> simp_all
  | succ n ih =>
    intro a es h
    rw [listGo] at h
    split at h
    · rw [Option.map_eq_some_iff] at h
      obtain ⟨es', h1, rfl⟩ := h
      simp [ih _ _ h1]
    · simp at h
theorem listOf_len {l : List Int} (hB : Byt l) {es : List S32} {st : Int} (h : listOf l = some (es, st)) : es.length ≤ 65536 := by
  unfold listOf at h
  split at h
  · simp at h
  · split at h
    · simp at h
    · split at h
      · rw [Option.map_eq_some_iff] at h
        obtain ⟨es', h1, h2⟩ := h
        injection h2 with h2 h3
        rw [← h2, listGo_len _ _ _ _ _ h1]
        rename_i a _ _
        have := N2_le hB (a + 10)
        omega
      · simp at h

theorem ZipLists : messuagelaw07_ZipLists.Pure := by
  intro l0 h1 h2 h3
  have hB := byt_of h3
  refine ⟨2 * l0.length + 1000000, ?_⟩
  rw [messuagelaw07_ZipLists.f]
  by_cases hbig : (l0.length : Int) > 263144
  · rw [if_pos hbig]
  · rw [if_neg hbig, zip_List.f, list_f hB (by omega) (by omega), rlist_f hB (by omega) (by omega)]
    simp only [Option.bind_some]
    cases hq : listOf l0 with
    | none =>
      simp only [outOf, outOf']
      rw [if_pos (by first | rfl | trivial), messuagelaw07_ZipLists.j0.eq_2, if_neg (by decide)]
      exact rows_l0 (es := []) (by simp) 0 0 _ rfl (Nat.le_refl _) (by omega)
    | some q =>
      obtain ⟨es, st⟩ := q
      have := listOf_len hB hq
      simp only [outOf, outOf', List.length_map]
      rw [if_pos (by first | rfl | trivial), messuagelaw07_ZipLists.j0.eq_2, if_neg (by simp)]
      exact rows_l0 (es := es) (by omega) es.length 0 _ (by omega) (by omega) (by omega)
end Go.Proofs.Ytkikbbmgibgamaa.Pure
