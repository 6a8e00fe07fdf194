/- The plain law of ZipWithin: what is found lies in the archive, at a place of 256, and is the first entry of that name. -/
import Derived.Test.YtkikbbmgibgamaaZ12
import Derived.Test.YtkikbbmgibgamaaHFind
namespace Go.Proofs.Ytkikbbmgibgamaa.Pure
open Go.RowKit Go.Proofs.Ytkikbbmgibgamaa.Z Go.Proofs.YtkikbbmgibgamaaW.PrintWords Go.Proofs.YtkikbbmgibgamaaW.PrintLast

theorem byt_of {l : List Int} (h : ∀ x ∈ l, (Lit.int .u8 x).wf = true) : Byt l := by
  intro x hx
  have := h x hx
  simp [Lit.wf, IntKind.min, IntKind.max, IntKind.signed, IntKind.bits] at this
  omega
set_option linter.unusedVariables false
theorem placeOf_ok {l : List Int} (hB : Byt l) {e : S32} (he : Ent e) {st : Int} {a s : Int} (h : placeOf l e st = (a, s, 0)) : e.f1 = 0 ∧ e.f2 = s ∧ a % 256 = 0 ∧ e.f4 < a ∧ a + s ≤ st := by
  have b1 := N2_le hB (e.f4 + 26)
  have b2 := N2_le hB (e.f4 + 28)
  unfold placeOf at h
  split at h
  · simp at h
  · rename_i h1
    split at h
    · rename_i h2
      split at h
      · rename_i h3
        simp only [Prod.mk.injEq] at h
        obtain ⟨rfl, rfl, _⟩ := h
        exact ⟨by omega, rfl, h3, by omega, h2.2.2.2.2.2.2⟩
      · simp at h
    · simp at h
theorem placeOf_err {l : List Int} {e : S32} {st : Int} (h : (placeOf l e st).2.2 ≠ 0) : (placeOf l e st).1 = 0 ∧ (placeOf l e st).2.1 = 0 := by
  unfold placeOf at h ⊢
  by_cases g0 : e.f1 ≠ 0
  · rw [if_pos g0]
    exact ⟨rfl, rfl⟩
  · rw [if_neg g0] at h ⊢
    split
    · split
      · rename_i g1 g2
        rw [if_pos g1, if_pos g2] at h
        exact absurd rfl h
      · exact ⟨rfl, rfl⟩
    · exact ⟨rfl, rfl⟩
theorem findGo_err {l : List Int} {nm : ByteArray} {st : Int} : ∀ {es : List S32}, (findGo l nm st es).2.2 ≠ 0 → (findGo l nm st es).1 = 0 ∧ (findGo l nm st es).2.1 = 0 := by
  intro es
  induction es with
  | nil => intro _; exact ⟨rfl, rfl⟩
  | cons e es ih =>
    intro h
    unfold findGo at h ⊢
    split
    · rename_i g
      rw [if_pos g] at h
      exact placeOf_err h
    · rename_i g
      rw [if_neg g] at h
      exact ih h
theorem within_l0 {l : List Int} (hB : Byt l) (nm : ByteArray) {st a s : Int} {es : List S32} (hes : ∀ e ∈ es, Ent e) (hlen : (es.length : Int) ≤ 1000000) : ∀ (d j k : Nat), es.length - j = d → j ≤ es.length → d + 100000 ≤ k → findGo l nm st (es.drop j) = (a, s, 0) →
    messuagelaw07_ZipWithin.l0 k nm a s es j = some true := by
  intro d
  induction d with
  | zero =>
    intro j k hd hj hk hf
    rw [List.drop_of_length_le (by omega)] at hf
    simp [findGo] at hf
  | succ d ih =>
    intro j k hd hj hk hf
    obtain ⟨k, rfl⟩ : ∃ m, k = m + 1 := ⟨k - 1, by omega⟩
    have hlt : j < es.length := by omega
    have e1 : rd_T32 es (j : Int) = es[j] := by simp [rd_T32, List.getElem?_eq_getElem hlt]
    rw [List.drop_eq_getElem_cons hlt, findGo] at hf
    rw [messuagelaw07_ZipWithin.l0, if_pos (by omega), if_pos (by omega), e1]
    by_cases g : es[j].f0.toList = nm.toList
    · rw [if_pos g] at hf
      obtain ⟨p1, p2, p3, p4, p5⟩ := placeOf_ok hB (hes _ (List.getElem_mem hlt)) hf
      rw [if_pos g, if_pos p1, if_pos p2, if_pos p4]
      rfl
    · rw [if_neg g] at hf
      rw [if_neg g, w64 (by omega) (by omega), show ((j : Int) + 1) = ((j + 1 : Nat) : Int) by omega]
      exact ih (j + 1) k (by omega) (by omega) (by omega) hf
theorem findGo_ok {l : List Int} (hB : Byt l) {nm : ByteArray} {st a s : Int} : ∀ {es : List S32}, (∀ e ∈ es, Ent e) → findGo l nm st es = (a, s, 0) → a % 256 = 0 ∧ 0 ≤ a ∧ 0 ≤ s ∧ a + s ≤ st := by
  intro es
  induction es with
  | nil => intro _ h; simp [findGo] at h
  | cons e es ih =>
    intro he h
    unfold findGo at h
    split at h
    · have e0 := he e (by simp)
      have := placeOf_ok hB e0 h
      have := e0.a0
      have := e0.s0
      omega
    · exact ih (fun x hx => he x (by simp [hx])) h
theorem ZipWithin : messuagelaw07_ZipWithin.Pure := by
  intro l0 a1 h1 h2 h3 h4
  have hB := byt_of h3
  refine ⟨2 * l0.length + 1000000, ?_⟩
  rw [messuagelaw07_ZipWithin.f]
  by_cases hbig : (l0.length : Int) > 263144
  · rw [if_pos hbig]
  · obtain ⟨⟨a, s, c⟩, hf⟩ : ∃ q, findOf l0 a1 = q := ⟨_, rfl⟩
    obtain ⟨⟨es, st, c'⟩, hq⟩ : ∃ q, outOf (listOf l0) = q := ⟨_, rfl⟩
    rw [if_neg hbig, find_f hB (by omega) a1 (by omega), zip_List.f, list_f hB (by omega) (by omega), hf, hq]
    simp only [Option.bind_some]
    unfold findOf at hf
    cases hl : listOf l0 with
    | none =>
      rw [hl] at hf hq
      simp only [outOf, Prod.mk.injEq] at hf hq
      obtain ⟨rfl, rfl, rfl⟩ := hf
      obtain ⟨rfl, rfl, rfl⟩ := hq
      rfl
    | some q =>
      obtain ⟨es', st'⟩ := q
      obtain ⟨g1, g2, g3, g4⟩ := listOf_ent hB hl
      rw [hl] at hf hq
      simp only [outOf, Prod.mk.injEq] at hf hq
      obtain ⟨rfl, rfl, rfl⟩ := hq
      by_cases hc : c = 0
      · subst hc
        obtain ⟨k1, k2, k3, k4⟩ := findGo_ok hB g2 hf
        rw [if_pos rfl, if_pos rfl, tmod_pos k2, if_pos k1, wu64 (n := (l0.length : Int)) (by omega) (by omega), if_neg (by omega), wu64 (n := (l0.length : Int) - a) (by omega) (by omega), messuagelaw07_ZipWithin.j0.eq_2, if_neg (by rw [decide_eq_true_eq]; omega)]
        exact within_l0 hB a1 g2 (by omega) es'.length 0 _ (by omega) (by omega) (by omega) (by simpa using hf)
      · have := findGo_err (l := l0) (nm := a1) (st := st') (es := es') (by rw [hf]; exact hc)
        rw [hf] at this
        obtain ⟨rfl, rfl⟩ := this
        rw [if_neg hc, if_pos rfl, if_pos rfl, if_pos rfl]
        rfl
end Go.Proofs.Ytkikbbmgibgamaa.Pure
