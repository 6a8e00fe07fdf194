/- Plain Lean: the end record and the entries: both readers of an archive read the same. -/
import Derived.Test.YtkikbbmgibgamaaHSpec
namespace Go.Proofs.Ytkikbbmgibgamaa.Z
open Go.RowKit Go.Proofs.Ytkikbbmgibgamaa.H Go.Proofs.YtkikbbmgibgamaaW.PrintWords Go.Proofs.YtkikbbmgibgamaaW.PrintLast Go.Proofs.YtkikbbmgibgamaaW.PrintMore
set_option linter.unusedVariables false
set_option linter.unusedSimpArgs false

/-- The last end record at or before a place. -/
def lastGo (l : List Int) : Nat → Int → Option Int
  | 0, _ => none
  | n + 1, a => if 0 ≤ a ∧ (l.length : Int) - 65557 ≤ a then (if N4 l a = 101010256 ∧ N2 l (a + 20) = l.length - a - 22 then some a else lastGo l n (a - 1)) else none
theorem lastGo_le (l : List Int) : ∀ (n : Nat) (a b : Int), lastGo l n a = some b → 0 ≤ b ∧ b ≤ a := by
  intro n
  induction n with
  | zero => intro a b h; simp [lastGo] at h
  | succ n ih =>
    intro a b h
    rw [lastGo] at h
    split at h
    · split at h
      · injection h with h
        omega
      · have := ih _ _ h
        omega
    · simp at h
def okEnd (l : List Int) (a : Int) : Bool := decide (N2 l (a + 4) = 0 ∧ N2 l (a + 6) = 0 ∧ N2 l (a + 8) = N2 l (a + 10) ∧ N4 l (a + 16) + N4 l (a + 12) ≤ a)
def endOut (l : List Int) : Option Int → Int × Int × Int × Int × Bool
  | none => (0, 0, 0, 0, false)
  | some a => (a, N2 l (a + 10), N4 l (a + 12), N4 l (a + 16), okEnd l a)
def lastOut : Option Int → Int × Bool
  | none => (0, false)
  | some a => (a, true)

theorem mn_le {x n : Int} : x ≤ mn n 65557 ↔ x ≤ n ∧ x ≤ 65557 := by
  unfold mn
  split <;> omega

theorem findEnd_found {l : List Int} (hB : Byt l) (hl : (l.length : Int) ≤ 262144000) {k : Nat} {a b n : Int} (hk : 10 ≤ k) (h0 : 0 ≤ a) (h1 : a ≤ (l.length : Int)) :
    zip_findEnd.j1 (k + 1) l n b a false = some (endOut l (some a)) := by
  obtain ⟨k, rfl⟩ : ∃ m, k = m + 10 := ⟨k - 10, by omega⟩
  have c2 := N2_le hB (a + 10)
  have c3 := N4_le hB (a + 12)
  have c4 := N4_le hB (a + 16)
  rw [zip_findEnd.j1, if_neg (by decide), wu64 (n := a + 10) (by omega) (by omega), wu64 (n := a + 12) (by omega) (by omega), wu64 (n := a + 16) (by omega) (by omega),
    wu64 (n := a + 4) (by omega) (by omega), wu64 (n := a + 6) (by omega) (by omega), wu64 (n := a + 8) (by omega) (by omega),
    number2 hB hl k (by omega) (by omega), number4 hB hl k (by omega) (by omega), number4 hB hl k (by omega) (by omega), number2 hB hl k (by omega) (by omega), number2 hB hl k (by omega) (by omega), number2 hB hl k (by omega) (by omega)]
  simp only [Option.bind_some]
  rw [w64 (by omega) (by omega), wu64 (n := N2 l (a + 10)) (by omega) (by omega), inside_eq (by omega) (by omega) (by omega) h0 (by omega)]
  simp only [endOut, okEnd]
  split
  · split
    · split
      · simp_all
      · rename_i h _ h'
        rw [Option.some.injEq]
        simp [h']
    · rename_i h h'
      simp [h']
  · rename_i h
    simp [h]

theorem findEnd_l0 {l : List Int} (hB : Byt l) (hl : (l.length : Int) ≤ 262144000) : ∀ (n : Nat) (a : Int) (k : Nat), a < n → a + 22 ≤ (l.length : Int) → 2 * n + 20 ≤ k →
    zip_findEnd.l0 k l l.length (l.length - a) = some (endOut l (lastGo l n a)) := by
  intro n
  induction n with
  | zero =>
    intro a k ha hl2 hk
    obtain ⟨k, rfl⟩ : ∃ m, k = m + 1 := ⟨k - 1, by omega⟩
    rw [zip_findEnd.l0, if_neg (by rw [mn_le]; omega)]
    rfl
  | succ n ih =>
    intro a k ha hl2 hk
    obtain ⟨k, rfl⟩ : ∃ m, k = m + 12 := ⟨k - 12, by omega⟩
    rw [zip_findEnd.l0, lastGo]
    by_cases hc : 0 ≤ a ∧ (l.length : Int) - 65557 ≤ a
    · rw [if_pos (by rw [mn_le]; omega), if_pos hc, show (l.length : Int) - (l.length - a) = a by omega, wu64 hc.1 (by omega), wu64 (n := a + 20) (by omega) (by omega), number4 hB hl (k + 1) hc.1 (by omega), number2 hB hl (k + 1) (by omega) (by omega)]
      simp only [Option.bind_some]
      rw [wu64 (n := (l.length : Int) - a - 22) (by omega) (by omega)]
      have step : zip_findEnd.j1 (k + 10 + 1) l l.length (l.length - a) a true = some (endOut l (lastGo l n (a - 1))) := by
        rw [zip_findEnd.j1, if_pos rfl, wu64 (by omega) (by omega), show (l.length : Int) - a + 1 = l.length - (a - 1) by omega]
        exact ih (a - 1) (k + 10) (by omega) (by omega) (by omega)
      by_cases h1 : N4 l a = 101010256
      · rw [if_pos h1]
        by_cases h2 : N2 l (a + 20) = l.length - a - 22
        · rw [if_pos ⟨h1, h2⟩, show (N2 l (a + 20) != (l.length : Int) - a - 22) = false by simp [h2]]
          exact findEnd_found hB hl (by omega) hc.1 (by omega)
        · rw [if_neg (fun h => h2 h.2), show (N2 l (a + 20) != (l.length : Int) - a - 22) = true by simp [h2]]
          exact step
      · rw [if_neg h1, if_neg (fun h => h1 h.1)]
        exact step
    · rw [if_neg (by rw [mn_le]; omega), if_neg hc]
      rfl
theorem Last_l0 {l : List Int} (hB : Byt l) (hl : (l.length : Int) ≤ 262144000) : ∀ (n : Nat) (a : Int) (k : Nat), -1000 ≤ a → a < n → a + 22 ≤ (l.length : Int) → 2 * n + 20 ≤ k →
    messuageref07_Last.l0 k l a = some (lastOut (lastGo l n a)) := by
  intro n
  induction n with
  | zero =>
    intro a k ha0 ha hl2 hk
    obtain ⟨k, rfl⟩ : ∃ m, k = m + 2 := ⟨k - 2, by omega⟩
    rw [messuageref07_Last.l0, if_neg (by omega), messuageref07_Last.j1, if_neg (by decide)]
    rfl
  | succ n ih =>
    intro a k ha0 ha hl2 hk
    obtain ⟨k, rfl⟩ : ∃ m, k = m + 12 := ⟨k - 12, by omega⟩
    rw [messuageref07_Last.l0, lastGo]
    by_cases h0 : 0 ≤ a
    · rw [if_pos h0, w64 (n := (l.length : Int) - 22) (by omega) (by omega), w64 (n := (l.length : Int) - 22 - 65535) (by omega) (by omega), messuageref07_Last.j1]
      by_cases hc : (l.length : Int) - 65557 ≤ a
      · rw [if_pos (by rw [decide_eq_true_eq]; omega), if_pos ⟨h0, hc⟩, wu64 h0 (by omega), wu64 (n := a + 20) (by omega) (by omega), rget4 hB hl k (by omega) (by omega), rget2 hB hl k (by omega) (by omega)]
        simp only [Option.bind_some]
        rw [w64 (n := (l.length : Int) - a) (by omega) (by omega), w64 (n := (l.length : Int) - a - 22) (by omega) (by omega), wu64 (n := (l.length : Int) - a - 22) (by omega) (by omega), w64 (n := a - 1) (by omega) (by omega),
          ih (a - 1) (k + 10) (by omega) (by omega) (by omega) (by omega)]
        by_cases h1 : N4 l a = 101010256
        · rw [if_pos h1]
          by_cases h2 : N2 l (a + 20) = l.length - a - 22
          · rw [if_pos h2, if_pos ⟨h1, h2⟩]
            rfl
          · rw [if_neg h2, if_neg (fun h => h2 h.2)]
        · rw [if_neg h1, if_neg (fun h => h1 h.1)]
      · rw [if_neg (by rw [decide_eq_true_eq]; omega), if_neg (fun h => hc h.2)]
        rfl
    · rw [if_neg h0, if_neg (fun h => h0 h.1), messuageref07_Last.j1, if_neg (by decide)]
      rfl

def endOf (l : List Int) : Option Int := lastGo l (l.length + 1) (l.length - 22)
theorem endOf_le {l : List Int} {a : Int} (h : endOf l = some a) : 0 ≤ a ∧ a + 22 ≤ (l.length : Int) := by
  have := lastGo_le _ _ _ _ h
  omega
theorem findEnd_f {l : List Int} (hB : Byt l) (hl : (l.length : Int) ≤ 262144000) {k : Nat} (hk : 2 * l.length + 40 ≤ k) : zip_findEnd.f k l = some (endOut l (endOf l)) := by
  rw [zip_findEnd.f, wu64 (by omega) (by omega)]
  have := findEnd_l0 hB hl (l.length + 1) (l.length - 22) k (by omega) (by omega) (by omega)
  rwa [show (l.length : Int) - (l.length - 22) = 22 by omega] at this
theorem Last_f {l : List Int} (hB : Byt l) (hl : (l.length : Int) ≤ 262144000) {k : Nat} (hk : 2 * l.length + 40 ≤ k) : messuageref07_Last.f k l = some (lastOut (endOf l)) := by
  rw [messuageref07_Last.f, w64 (by omega) (by omega)]
  exact Last_l0 hB hl (l.length + 1) (l.length - 22) k (by omega) (by omega) (by omega) (by omega)

/-- Bytes from a place, so many. -/
def cutOf (l : List Int) (a c : Int) : List Int := (l.take (a + c).toNat).drop a.toNat
def entryOf (l : List Int) (a : Int) : S32 := ⟨strOfNums (cutOf l (a + 46) (N2 l (a + 28))), N2 l (a + 10), N4 l (a + 24), N4 l (a + 20), N4 l (a + 42)⟩
def stepOf (l : List Int) (a : Int) : Int := 46 + N2 l (a + 28) + N2 l (a + 30) + N2 l (a + 32)
/-- The entries from a place to the end. -/
def listGo (l : List Int) (stop : Int) : Nat → Int → Option (List S32)
  | 0, a => if a = stop then some [] else none
  | n + 1, a => if 46 ≤ stop - a ∧ N4 l a = 33639248 ∧ stepOf l a ≤ stop - a then (listGo l stop n (a + stepOf l a)).map (entryOf l a :: ·) else none
def listOut (st : Int) (acc : List S32) : Option (List S32) → List S32 × Int × Int
  | none => ([], 0, 70)
  | some es => (acc ++ es, st, 0)
@[reducible] def to33 (x : S32) : S33 := ⟨x.f0, x.f1, x.f2, x.f3, x.f4⟩
def listOut' (st : Int) (acc : List S33) : Option (List S32) → List S33 × Int × Int
  | none => ([], 0, 70)
  | some es => (acc ++ es.map to33, st, 0)
theorem part_eq {l : List Int} (hl : (l.length : Int) ≤ 262144000) {a c : Int} (h0 : 0 ≤ a) (h1 : a ≤ 262144000000) (hc : 0 ≤ c) (hc1 : c < 65536) :
    le_Part.f l a c = some (if a + c ≤ l.length then (cutOf l a c, 0) else ([], 20)) := by
  rw [le_Part.f, wu64 (n := (l.length : Int)) (by omega) (by omega), inside_eq h0 (by omega) (by omega) (by omega) (by omega)]
  simp only [Option.bind_some, decide_eq_true_eq]
  by_cases hac : a + c ≤ (l.length : Int)
  · rw [if_pos hac, if_pos hac]
    have : ((l.take (a + c).toNat).drop a.toNat).length ≤ l.length := by simp only [List.length_drop, List.length_take]; omega
    rw [if_pos h0, wu64 (by omega) (by omega), if_pos (by omega), if_pos (by omega), if_pos (by simp only [List.length_nil]; omega)]
    rfl
  · rw [if_neg hac, if_neg hac]

theorem list_l0 {l : List Int} (hB : Byt l) (hl : (l.length : Int) ≤ 262144000) (stop x4 x5 x6 st : Int) (hs : stop ≤ l.length) (cnt : Int) (hcnt : cnt ≤ 1000000) : ∀ (n : Nat) (a i : Int) (acc : List S32) (k : Nat),
    n = cnt - i → 0 ≤ i → 0 ≤ a → a ≤ stop → (acc.length : Int) + n ≤ 100000 → 2 * n + 20 ≤ k →
    zip_list.l0 k l acc a (stop - a) cnt i x4 x5 x6 st = some (listOut st acc (listGo l stop n a)) := by
  intro n
  induction n with
  | zero =>
    intro a i acc k hn hi0 h0 h1 hacc hk
    obtain ⟨k, rfl⟩ : ∃ m, k = m + 1 := ⟨k - 1, by omega⟩
    rw [zip_list.l0, if_neg (by omega), listGo]
    by_cases h : a = stop
    · rw [if_pos (by omega), if_pos h]
      simp [listOut]
    · rw [if_neg (by omega), if_neg h]
      rfl
  | succ n ih =>
    intro a i acc k hn hi0 h0 h1 hacc hk
    obtain ⟨k, rfl⟩ : ∃ m, k = m + 12 := ⟨k - 12, by omega⟩
    rw [zip_list.l0, if_pos (by omega), listGo]
    by_cases h46 : 46 ≤ stop - a
    · rw [if_neg (by omega), number4 hB hl (k + 1) h0 (by omega)]
      simp only [Option.bind_some]
      rw [zip_list.j1]
      by_cases hsig : N4 l a = 33639248
      · have a1 := N2_le hB (a + 28)
        have a2 := N2_le hB (a + 30)
        have a3 := N2_le hB (a + 32)
        have a4 := N2_le hB (a + 10)
        have hst : IntKind.u64.wrap (IntKind.u64.wrap (IntKind.u64.wrap (46 + N2 l (a + 28)) + N2 l (a + 30)) + N2 l (a + 32)) = stepOf l a := by
          rw [wu64 (n := 46 + N2 l (a + 28)) (by omega) (by omega), wu64 (n := 46 + N2 l (a + 28) + N2 l (a + 30)) (by omega) (by omega), wu64 (by omega) (by omega)]
          rfl
        have hsto : stepOf l a = 46 + N2 l (a + 28) + N2 l (a + 30) + N2 l (a + 32) := rfl
        rw [if_neg (by simp [hsig]), wu64 (n := a + 28) (by omega) (by omega), wu64 (n := a + 30) (by omega) (by omega), wu64 (n := a + 32) (by omega) (by omega), wu64 (n := a + 46) (by omega) (by omega),
          wu64 (n := a + 10) (by omega) (by omega), wu64 (n := a + 24) (by omega) (by omega), wu64 (n := a + 20) (by omega) (by omega), wu64 (n := a + 42) (by omega) (by omega)]
        rw [number2 hB hl k (by omega) (by omega), number2 hB hl k (by omega) (by omega), number2 hB hl k (by omega) (by omega), number2 hB hl k (by omega) (by omega),
          number4 hB hl k (by omega) (by omega), number4 hB hl k (by omega) (by omega), number4 hB hl k (by omega) (by omega)]
        simp only [Option.bind_some]
        rw [hst, part_eq hl (by omega) (by omega) a1.1 a1.2, w64 (n := N2 l (a + 10)) (by omega) (by omega)]
        by_cases hfit : stepOf l a ≤ stop - a
        · have hc : 46 ≤ stop - a ∧ N4 l a = 33639248 ∧ stepOf l a ≤ stop - a := ⟨h46, hsig, hfit⟩
          have hp : a + 46 + N2 l (a + 28) ≤ (l.length : Int) := by omega
          rw [if_neg (by omega), if_pos hc, if_pos hp]
          simp only [Option.bind_some]
          rw [if_pos (by omega), wu64 (n := a + stepOf l a) (by omega) (by omega), wu64 (n := stop - a - stepOf l a) (by omega) (by omega), w64 (n := i + 1) (by omega) (by omega), show stop - a - stepOf l a = stop - (a + stepOf l a) by omega]
          rw [ih (a + stepOf l a) (i + 1) _ (k + 10) (by omega) (by omega) (by omega) (by omega) (by rw [List.length_append]; simp only [List.length_singleton]; omega) (by omega)]
          cases listGo l stop n (a + stepOf l a) with
          | none => rfl
          | some es => simp [listOut, entryOf]
        · rw [if_pos (by omega), if_neg (fun h => hfit h.2.2)]
          rfl
      · rw [if_pos (by simp [hsig]), if_neg (fun h => hsig h.2.1)]
        rfl
    · rw [if_pos (by omega), zip_list.j1, if_pos rfl, if_neg (fun h => h46 h.1)]
      rfl
theorem rlist_l0 {l : List Int} (hB : Byt l) (hl : (l.length : Int) ≤ 262144000) (len st : Int) (h0s : 0 ≤ st) (h0l : 0 ≤ len) (hs : st + len ≤ l.length) (cnt : Int) (hcnt : cnt ≤ 1000000) : ∀ (n : Nat) (a i : Int) (acc : List S33) (k : Nat),
    n = cnt - i → 0 ≤ i → 0 ≤ a → a ≤ st + len → (acc.length : Int) + n ≤ 100000 → 2 * n + 20 ≤ k →
    messuageref07_List.l0 k l cnt len st acc a i = some (listOut' st acc (listGo l (st + len) n a)) := by
  intro n
  induction n with
  | zero =>
    intro a i acc k hn hi0 h0 h1 hacc hk
    obtain ⟨k, rfl⟩ : ∃ m, k = m + 1 := ⟨k - 1, by omega⟩
    rw [messuageref07_List.l0, if_neg (by omega), listGo, wu64 (n := st + len) (by omega) (by omega)]
    by_cases h : a = st + len
    · rw [if_pos h, if_pos h]
      simp [listOut']
    · rw [if_neg h, if_neg h]
      rfl
  | succ n ih =>
    intro a i acc k hn hi0 h0 h1 hacc hk
    obtain ⟨k, rfl⟩ : ∃ m, k = m + 12 := ⟨k - 12, by omega⟩
    have a1 := N2_le hB (a + 28)
    have a2 := N2_le hB (a + 30)
    have a3 := N2_le hB (a + 32)
    have a4 := N2_le hB (a + 10)
    have hst : IntKind.u64.wrap (IntKind.u64.wrap (IntKind.u64.wrap (46 + N2 l (a + 28)) + N2 l (a + 30)) + N2 l (a + 32)) = stepOf l a := by
      rw [wu64 (n := 46 + N2 l (a + 28)) (by omega) (by omega), wu64 (n := 46 + N2 l (a + 28) + N2 l (a + 30)) (by omega) (by omega), wu64 (by omega) (by omega)]
      rfl
    have hsto : stepOf l a = 46 + N2 l (a + 28) + N2 l (a + 30) + N2 l (a + 32) := rfl
    rw [messuageref07_List.l0, if_pos (by omega), listGo, wu64 (n := st + len) (by omega) (by omega), wu64 (n := st + len - a) (by omega) (by omega), wu64 (n := a + 28) (by omega) (by omega), wu64 (n := a + 30) (by omega) (by omega), wu64 (n := a + 32) (by omega) (by omega),
      rget2 hB hl (k + 1) (by omega) (by omega), rget2 hB hl (k + 1) (by omega) (by omega), rget2 hB hl (k + 1) (by omega) (by omega), rget4 hB hl (k + 1) h0 (by omega)]
    simp only [Option.bind_some]
    rw [hst, messuageref07_List.j3, messuageref07_List.j3]
    by_cases h46 : 46 ≤ st + len - a
    · have h46' : 46 ≤ st + len - a := h46
      rw [if_neg (by omega)]
      by_cases hsig : N4 l a = 33639248
      · rw [if_pos hsig]
        by_cases hfit : stepOf l a ≤ st + len - a
        · have hc : 46 ≤ st + len - a ∧ N4 l a = 33639248 ∧ stepOf l a ≤ st + len - a := ⟨h46', hsig, hfit⟩
          rw [if_neg (by rw [decide_eq_true_eq]; omega), if_pos hc]
          rw [wu64 (n := a + 28) (by omega) (by omega), wu64 (n := a + 46) (by omega) (by omega),
            wu64 (n := a + 10) (by omega) (by omega), wu64 (n := a + 24) (by omega) (by omega), wu64 (n := a + 20) (by omega) (by omega), wu64 (n := a + 42) (by omega) (by omega)]
          rw [rget2 hB hl k (by omega) (by omega), rget2 hB hl k (by omega) (by omega),
            rget4 hB hl k (by omega) (by omega), rget4 hB hl k (by omega) (by omega), rget4 hB hl k (by omega) (by omega)]
          simp only [Option.bind_some]
          rw [wu64 (n := a + 46 + N2 l (a + 28)) (by omega) (by omega), if_pos (by omega), if_pos (by omega), if_pos (by omega), if_pos (by omega),
            wu64 (n := a + stepOf l a) (by omega) (by omega), wu64 (n := i + 1) (by omega) (by omega), w64 (n := N2 l (a + 10)) (by omega) (by omega)]
          rw [ih (a + stepOf l a) (i + 1) _ (k + 10) (by omega) (by omega) (by omega) (by omega) (by rw [List.length_append]; simp only [List.length_singleton]; omega) (by omega)]
          cases listGo l (st + len) n (a + stepOf l a) with
          | none => rfl
          | some es => simp [listOut', entryOf, to33, cutOf]
        · rw [if_pos (by rw [decide_eq_true_eq]; omega), if_neg (fun h => hfit h.2.2)]
          rfl
      · rw [if_neg hsig, if_pos rfl, if_neg (fun h => hsig h.2.1)]
        rfl
    · have h46' : ¬ 46 ≤ st + len - a := h46
      rw [if_pos (by omega), if_pos rfl, if_neg (fun h => h46' h.1)]
      rfl

/-- The entries of an archive, and where they start. -/
def listOf (l : List Int) : Option (List S32 × Int) :=
  if (l.length : Int) > 262144 then none else
  match endOf l with
  | none => none
  | some a => if okEnd l a = true then (listGo l (N4 l (a + 16) + N4 l (a + 12)) (N2 l (a + 10)).toNat (N4 l (a + 16))).map fun es => (es, N4 l (a + 16)) else none
def outOf : Option (List S32 × Int) → List S32 × Int × Int
  | none => ([], 0, 70)
  | some (es, st) => (es, st, 0)
def outOf' : Option (List S32 × Int) → List S33 × Int × Int
  | none => ([], 0, 70)
  | some (es, st) => (es.map to33, st, 0)
theorem list_f {l : List Int} (hB : Byt l) (hl : (l.length : Int) ≤ 262144000) {k : Nat} (hk : 2 * l.length + 200000 ≤ k) : zip_list.f k l = some (outOf (listOf l)) := by
  rw [zip_list.f, listOf]
  by_cases hbig : (l.length : Int) > 262144
  · rw [if_pos hbig, if_pos hbig]
    rfl
  · rw [if_neg hbig, if_neg hbig, findEnd_f hB hl (by omega)]
    simp only [Option.bind_some]
    cases he : endOf l with
    | none => rw [if_neg (by simp [endOut])]; rfl
    | some a =>
      simp only [endOut]
      have hle := endOf_le he
      by_cases hok : okEnd l a = true
      · rw [if_pos hok]
        refine (if_pos hok).trans ?_
        simp only [okEnd, decide_eq_true_eq] at hok
        have a1 := N2_le hB (a + 10)
        have a3 := N4_le hB (a + 12)
        have a4 := N4_le hB (a + 16)
        have := list_l0 hB hl (N4 l (a + 16) + N4 l (a + 12)) a (N2 l (a + 10)) (N4 l (a + 12)) (N4 l (a + 16)) (by omega) (N2 l (a + 10)) (by omega) (N2 l (a + 10)).toNat (N4 l (a + 16)) 0 [] k (by omega) (by omega) (by omega) (by omega)
          (by simp only [List.length_nil]; omega) (by omega)
        rw [show N4 l (a + 16) + N4 l (a + 12) - N4 l (a + 16) = N4 l (a + 12) by omega] at this
        rw [this]
        cases listGo l (N4 l (a + 16) + N4 l (a + 12)) (N2 l (a + 10)).toNat (N4 l (a + 16)) with
        | none => rfl
        | some es => simp [listOut, outOf]
      · rw [if_neg hok]
        exact (if_neg hok).trans rfl
theorem rlist_f {l : List Int} (hB : Byt l) (hl : (l.length : Int) ≤ 262144000) {k : Nat} (hk : 2 * l.length + 200000 ≤ k) : messuageref07_List.f k l = some (outOf' (listOf l)) := by
  obtain ⟨k, rfl⟩ : ∃ m, k = m + 12 := ⟨k - 12, by omega⟩
  rw [messuageref07_List.f, listOf, Last_f hB hl (by omega)]
  simp only [Option.bind_some]
  by_cases hbig : (l.length : Int) > 262144
  · rw [if_pos hbig, if_pos hbig, messuageref07_List.j0, if_pos rfl]
    rfl
  · rw [if_neg hbig, if_neg hbig]
    cases he : endOf l with
    | none => simp only [lastOut]; rw [messuageref07_List.j0, if_pos (by decide)]; rfl
    | some a =>
      simp only [lastOut]
      have hle := endOf_le he
      have a1 := N2_le hB (a + 10)
      have a3 := N4_le hB (a + 12)
      have a4 := N4_le hB (a + 16)
      rw [messuageref07_List.j0, if_neg (by decide), wu64 (n := a) (by omega) (by omega), wu64 (n := a + 10) (by omega) (by omega), wu64 (n := a + 12) (by omega) (by omega), wu64 (n := a + 16) (by omega) (by omega),
        wu64 (n := a + 4) (by omega) (by omega), wu64 (n := a + 6) (by omega) (by omega), wu64 (n := a + 8) (by omega) (by omega),
        rget2 hB hl (k + 1) (by omega) (by omega), rget4 hB hl (k + 1) (by omega) (by omega), rget4 hB hl (k + 1) (by omega) (by omega), rget2 hB hl (k + 1) (by omega) (by omega), rget2 hB hl (k + 1) (by omega) (by omega), rget2 hB hl (k + 1) (by omega) (by omega)]
      simp only [Option.bind_some]
      rw [wu64 (n := N4 l (a + 16) + N4 l (a + 12)) (by omega) (by omega), messuageref07_List.j1, messuageref07_List.j1]
      have hbad : okEnd l a ≠ true → (if okEnd l a = true then (listGo l (N4 l (a + 16) + N4 l (a + 12)) (N2 l (a + 10)).toNat (N4 l (a + 16))).map fun es => (es, N4 l (a + 16)) else none) = none := fun h => if_neg h
      by_cases g1 : N2 l (a + 4) = 0
      · rw [if_pos g1]
        by_cases g2 : N2 l (a + 6) = 0
        · rw [if_pos g2]
          by_cases g3 : N2 l (a + 8) = N2 l (a + 10)
          · rw [if_pos g3]
            by_cases g4 : N4 l (a + 16) + N4 l (a + 12) ≤ a
            · rw [if_neg (by rw [decide_eq_true_eq]; omega), if_pos (by simp [okEnd, g1, g2, g3, g4])]
              rw [rlist_l0 hB hl (N4 l (a + 12)) (N4 l (a + 16)) (by omega) (by omega) (by omega) (N2 l (a + 10)) (by omega) (N2 l (a + 10)).toNat (N4 l (a + 16)) 0 [] (k + 10) (by omega) (by omega) (by omega) (by omega)
                (by simp only [List.length_nil]; omega) (by omega)]
              cases listGo l (N4 l (a + 16) + N4 l (a + 12)) (N2 l (a + 10)).toNat (N4 l (a + 16)) with
              | none => rfl
              | some es => simp [listOut', outOf']
            · rw [if_pos (by rw [decide_eq_true_eq]; omega), hbad (by simp [okEnd, g4])]
              rfl
          · rw [if_neg g3, if_pos rfl, hbad (by simp [okEnd, g3])]
            rfl
        · rw [if_neg g2, if_pos rfl, hbad (by simp [okEnd, g2])]
          rfl
      · rw [if_neg g1, if_pos rfl, hbad (by simp [okEnd, g1])]
        rfl
end Go.Proofs.Ytkikbbmgibgamaa.Z
