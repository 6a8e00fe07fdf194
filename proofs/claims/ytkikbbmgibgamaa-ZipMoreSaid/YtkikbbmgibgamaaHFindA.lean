/- Plain Lean: an entry's place (the first half of HFind, for texts that need no more). -/
import Derived.Test.YtkikbbmgibgamaaHList
import Derived.Test.YtkikbbmgibgamaaZ6
namespace Go.Proofs.Ytkikbbmgibgamaa.Z
open Go.RowKit Go.Proofs.Ytkikbbmgibgamaa.H Go.Proofs.YtkikbbmgibgamaaW.PrintWords Go.Proofs.YtkikbbmgibgamaaW.PrintLast Go.Proofs.YtkikbbmgibgamaaW.PrintMore
set_option linter.unusedVariables false
set_option linter.unusedSimpArgs false

/-- The numbers of an entry are in their bounds. -/
structure Ent (e : S32) : Prop where
  m0 : 0 ≤ e.f1
  m1 : e.f1 < 65536
  s0 : 0 ≤ e.f2
  s1 : e.f2 < 4294967296
  t0 : 0 ≤ e.f3
  t1 : e.f3 < 4294967296
  a0 : 0 ≤ e.f4
  a1 : e.f4 < 4294967296
theorem entryOf_ent {l : List Int} (hB : Byt l) (a : Int) : Ent (entryOf l a) :=
  ⟨(N2_le hB _).1, (N2_le hB _).2, (N4_le hB _).1, (N4_le hB _).2, (N4_le hB _).1, (N4_le hB _).2, (N4_le hB _).1, (N4_le hB _).2⟩
theorem listGo_ent {l : List Int} (hB : Byt l) (stop : Int) : ∀ (n : Nat) (a : Int) (es : List S32), listGo l stop n a = some es → es.length = n ∧ ∀ e ∈ es, Ent e := by
  intro n
  induction n with
  | zero => intro a es h; rw [listGo] at h; split at h <;> simp_all
  | succ n ih =>
    intro a es h
    rw [listGo] at h
    split at h
    · rw [Option.map_eq_some_iff] at h
      obtain ⟨es', h1, rfl⟩ := h
      have := ih _ _ h1
      refine ⟨by simp [this.1], fun e he => ?_⟩
      rcases List.mem_cons.1 he with rfl | he
      · exact entryOf_ent hB a
      · exact this.2 e he
    · simp at h
theorem listOf_ent {l : List Int} (hB : Byt l) {es : List S32} {st : Int} (h : listOf l = some (es, st)) : es.length ≤ 65536 ∧ (∀ e ∈ es, Ent e) ∧ 0 ≤ st ∧ st ≤ l.length := by
  unfold listOf at h
  split at h
  · simp at h
  · split at h
    · simp at h
    · split at h
      · rename_i a he hok
        rw [Option.map_eq_some_iff] at h
        obtain ⟨es', h1, h2⟩ := h
        injection h2 with h2 h3
        subst h2 h3
        have := listGo_ent hB _ _ _ _ h1
        have h2 := N2_le hB (a + 10)
        have h3 := endOf_le he
        have h4 := N4_le hB (a + 12)
        have h5 := N4_le hB (a + 16)
        simp only [okEnd, decide_eq_true_eq] at hok
        exact ⟨by omega, this.2, by omega, by omega⟩
      · simp at h

/-- Where an entry's file lies. -/
def placeOf (l : List Int) (e : S32) (st : Int) : Int × Int × Int :=
  if e.f1 ≠ 0 then (0, 0, 72) else
  if e.f4 + 30 ≤ st ∧ N4 l e.f4 = 67324752 ∧ e.f4 + 30 + N2 l (e.f4 + 26) ≤ l.length ∧ (strOfNums (cutOf l (e.f4 + 30) (N2 l (e.f4 + 26)))).toList = e.f0.toList ∧ N2 l (e.f4 + 8) = 0 ∧ e.f3 = e.f2 ∧
      e.f4 + 30 + N2 l (e.f4 + 26) + N2 l (e.f4 + 28) + e.f2 ≤ st then
    (if (e.f4 + 30 + N2 l (e.f4 + 26) + N2 l (e.f4 + 28)) % 256 = 0 then (e.f4 + 30 + N2 l (e.f4 + 26) + N2 l (e.f4 + 28), e.f2, 0) else (0, 0, 73))
  else (0, 0, 70)
theorem place_f {l : List Int} (hB : Byt l) (hl : (l.length : Int) ≤ 262144000) {e : S32} (he : Ent e) {st : Int} (hs0 : 0 ≤ st) (hs1 : st ≤ 262144000) {k : Nat} (hk : 20 ≤ k) :
    zip_place.f k l e.f0 e.f1 e.f2 e.f3 e.f4 st = some (placeOf l e st) := by
  obtain ⟨k, rfl⟩ : ∃ m, k = m + 12 := ⟨k - 12, by omega⟩
  obtain ⟨m0, m1, s0, s1, t0, t1, a0, a1⟩ := he
  obtain ⟨f0, f1, f2, f3, f4⟩ := e
  simp only at m0 m1 s0 s1 t0 t1 a0 a1
  rw [zip_place.f, placeOf]
  simp only
  by_cases g0 : f1 = 0
  · rw [if_pos g0, if_neg (by simp [g0]), inside_eq a0 (by omega) (by omega) hs0 (by omega)]
    simp only [Option.bind_some, decide_eq_true_eq]
    by_cases g1 : f4 + 30 ≤ st
    · rw [if_pos g1, number4 hB hl (k + 2) a0 (by omega)]
      simp only [Option.bind_some]
      rw [zip_place.j0]
      by_cases g2 : N4 l f4 = 67324752
      · have b1 := N2_le hB (f4 + 26)
        have b2 := N2_le hB (f4 + 28)
        rw [if_neg (by simp [g2]), wu64 (n := f4 + 26) (by omega) (by omega), wu64 (n := f4 + 28) (by omega) (by omega), wu64 (n := f4 + 30) (by omega) (by omega), wu64 (n := f4 + 8) (by omega) (by omega),
          number2 hB hl (k + 1) (by omega) (by omega), number2 hB hl (k + 1) (by omega) (by omega), number2 hB hl (k + 1) (by omega) (by omega)]
        simp only [Option.bind_some]
        rw [part_eq hl (by omega) (by omega) b1.1 b1.2]
        simp only [Option.bind_some]
        have j1t : ∀ (n : ByteArray), zip_place.j1 (k + 11) st (N2 l (f4 + 26)) (N2 l (f4 + 28)) true n f1 f2 f3 f4 = some (0, 0, 70) := fun n => by rw [zip_place.j1, if_pos rfl]
        by_cases g3 : f4 + 30 + N2 l (f4 + 26) ≤ (l.length : Int)
        · rw [if_pos g3]
          simp only [if_true]
          by_cases g4 : (strOfNums (cutOf l (f4 + 30) (N2 l (f4 + 26)))).toList = f0.toList
          · rw [if_pos g4]
            by_cases g5 : N2 l (f4 + 8) = 0
            · rw [if_pos g5]
              by_cases g6 : f3 = f2
              · rw [zip_place.j1, if_neg (by simp [g6]), wu64 (n := f4 + 30) (by omega) (by omega), wu64 (n := f4 + 30 + N2 l (f4 + 26)) (by omega) (by omega), wu64 (n := f4 + 30 + N2 l (f4 + 26) + N2 l (f4 + 28)) (by omega) (by omega),
                  inside_eq (by omega) (by omega) s0 hs0 (by omega), tmod_pos (by omega)]
                simp only [Option.bind_some, decide_eq_true_eq]
                by_cases g7 : f4 + 30 + N2 l (f4 + 26) + N2 l (f4 + 28) + f2 ≤ st
                · rw [if_pos g7, if_pos (c := _ ∧ _) ⟨g1, g2, g3, g4, g5, g6, g7⟩]
                  split <;> rfl
                · rw [if_neg g7, if_neg (c := _ ∧ _) (fun h => g7 h.2.2.2.2.2.2)]
              · rw [show (f3 != f2) = true by simp [g6], j1t, if_neg (c := _ ∧ _) (fun h => g6 h.2.2.2.2.2.1)]
            · rw [if_neg g5, j1t, if_neg (c := _ ∧ _) (fun h => g5 h.2.2.2.2.1)]
          · rw [if_neg g4, j1t, if_neg (c := _ ∧ _) (fun h => g4 h.2.2.2.1)]
        · rw [if_neg g3, if_neg (c := _ ∧ _) (fun h => g3 h.2.2.1)]
          simp only [j1t]
          rfl
      · rw [if_pos (by simp [g2]), if_neg (c := _ ∧ _) (fun h => g2 h.2.1)]
    · rw [if_neg g1, zip_place.j0, if_pos rfl, if_neg (c := _ ∧ _) (fun h => g1 h.1)]
  · rw [if_neg g0, if_pos g0]

/-- The place of the first entry of a name. -/
def findGo (l : List Int) (name : ByteArray) (st : Int) : List S32 → Int × Int × Int
  | [] => (0, 0, 71)
  | e :: es => if e.f0.toList = name.toList then placeOf l e st else findGo l name st es
theorem find_l0 {l : List Int} (hB : Byt l) (hl : (l.length : Int) ≤ 262144000) (name : ByteArray) {st : Int} (hs0 : 0 ≤ st) (hs1 : st ≤ 262144000) {es : List S32} (hes : ∀ e ∈ es, Ent e) (hlen : (es.length : Int) ≤ 1000000) : ∀ (d j k : Nat), es.length - j = d → j ≤ es.length → d + 30 ≤ k →
    zip_Find.l0 k l name st es es.length j = some (findGo l name st (es.drop j)) := by
  intro d
  induction d with
  | zero =>
    intro j k hd hj hk
    obtain ⟨k, rfl⟩ : ∃ m, k = m + 1 := ⟨k - 1, by omega⟩
    rw [zip_Find.l0, if_neg (by omega), List.drop_of_length_le (by omega)]
    rfl
  | succ d ih =>
    intro j k hd hj hk
    obtain ⟨k, rfl⟩ : ∃ m, k = m + 1 := ⟨k - 1, by omega⟩
    have hlt : j < es.length := by omega
    have e1 : rd_T32 es (j : Int) = es[j] := by simp [rd_T32, List.getElem?_eq_getElem hlt]
    rw [zip_Find.l0, if_pos (by omega), if_pos (by omega), if_pos (by omega), e1, List.drop_eq_getElem_cons hlt, findGo, place_f hB hl (hes _ (List.getElem_mem hlt)) hs0 hs1 (by omega)]
    simp only [Option.bind_some]
    rw [w64 (by omega) (by omega), show ((j : Int) + 1) = ((j + 1 : Nat) : Int) by omega, ih (j + 1) k (by omega) (by omega) (by omega)]
    split <;> rfl
def findOf (l : List Int) (name : ByteArray) : Int × Int × Int :=
  match listOf l with
  | none => (0, 0, 70)
  | some (es, st) => findGo l name st es
theorem find_f {l : List Int} (hB : Byt l) (hl : (l.length : Int) ≤ 262144000) (name : ByteArray) {k : Nat} (hk : 2 * l.length + 300000 ≤ k) : zip_Find.f k l name = some (findOf l name) := by
  rw [zip_Find.f, list_f hB hl (by omega), findOf]
  simp only [Option.bind_some]
  cases hq : listOf l with
  | none => rfl
  | some q =>
    obtain ⟨es, st⟩ := q
    obtain ⟨h1, h2, h3, h4⟩ := listOf_ent hB hq
    simp only [outOf, if_true]
    have := find_l0 hB hl name h3 (by omega) h2 (by omega) es.length 0 k (by omega) (by omega) (by omega)
    simpa using this
end Go.Proofs.Ytkikbbmgibgamaa.Z
