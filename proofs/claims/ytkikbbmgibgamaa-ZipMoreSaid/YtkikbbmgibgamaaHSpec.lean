/- Plain Lean: the numbers read at a place, the end record, and the entries: both readers of an archive read the same. -/
import Derived.Test.YtkikbbmgibgamaaHRows
import Derived.Test.YtkikbbmgibgamaaZ5
import Derived.Test.YtkikbbmgibgamaaZ3
import Derived.Laws.BitsLemmas
namespace Go.Proofs.Ytkikbbmgibgamaa.Z
open Go.RowKit Go.Proofs.Ytkikbbmgibgamaa.H Go.Proofs.YtkikbbmgibgamaaW.PrintWords Go.Proofs.YtkikbbmgibgamaaW.PrintLast Go.Proofs.YtkikbbmgibgamaaW.PrintMore
set_option linter.unusedVariables false
set_option linter.unusedSimpArgs false

/-- Each number is a byte. -/
def Byt (l : List Int) : Prop := ∀ x ∈ l, 0 ≤ x ∧ x < 256
theorem byt_rd {l : List Int} (h : Byt l) (i : Int) : 0 ≤ rd l i ∧ rd l i < 256 := by
  unfold rd
  by_cases hi : i.toNat < l.length
  · rw [List.getD_eq_getElem?_getD, List.getElem?_eq_getElem hi]
    exact h _ (List.getElem_mem hi)
  · rw [List.getD_eq_getElem?_getD, List.getElem?_eq_none (by omega)]
    simp
theorem or_u64 {x b : Int} (h0 : 0 ≤ x) (h1 : x < 72057594037927936) (hb0 : 0 ≤ b) (hb1 : b < 256) :
    Go.bits .or .u64 (IntKind.u64.wrap (x * 256)) (IntKind.u64.wrap b) = x * 256 + b := by
  rw [wu64 (by omega) (by omega), wu64 (by omega) (by omega)]
  exact Go.bits_join .u64 64 (by decide) (fun n a b => wu64 a (by omega)) 8 _ _ (by omega) (by omega) (by omega) (by omega) (by omega) (by omega)

def N2 (l : List Int) (a : Int) : Int := if 0 ≤ a ∧ a + 2 ≤ l.length then rd l a + 256 * rd l (a + 1) else 0
def N4 (l : List Int) (a : Int) : Int := if 0 ≤ a ∧ a + 4 ≤ l.length then rd l a + 256 * rd l (a + 1) + 65536 * rd l (a + 2) + 16777216 * rd l (a + 3) else 0
theorem N2_le {l : List Int} (h : Byt l) (a : Int) : 0 ≤ N2 l a ∧ N2 l a < 65536 := by
  have := byt_rd h a
  have := byt_rd h (a + 1)
  unfold N2
  split <;> omega
theorem N4_le {l : List Int} (h : Byt l) (a : Int) : 0 ≤ N4 l a ∧ N4 l a < 4294967296 := by
  have := byt_rd h a
  have := byt_rd h (a + 1)
  have := byt_rd h (a + 2)
  have := byt_rd h (a + 3)
  unfold N4
  split <;> omega

theorem inside_eq {a c n : Int} (h0 : 0 ≤ a) (h1 : a ≤ 18446744073709551615) (hc : 0 ≤ c) (hn : 0 ≤ n) (hn1 : n ≤ 9223372036854775807) :
    num_Inside.f a c 0 n = some (decide (a + c ≤ n)) := by
  unfold num_Inside.f num_Sub.f
  rw [if_neg (by omega)]
  simp only [Option.bind_some, if_true]
  rw [show a - 0 = a by omega, wu64 h0 (by omega)]
  split
  · rw [wu64 (by omega) (by omega)]
    congr 1
    rw [decide_eq_decide]
    omega
  · rw [eq_comm]
    congr 1
    rw [decide_eq_false_iff_not]
    omega

theorem get_step {l : List Int} (hB : Byt l) {k : Nat} {a x i : Int} (ha : 0 ≤ a) (hai : a ≤ i) (hi : i < l.length) (hl : (l.length : Int) ≤ 262144000) (h0 : 0 ≤ x) (h1 : x < 72057594037927936) :
    le_get.l0 (k + 1) l a x i = le_get.l0 k l a (x * 256 + rd l i) (i - 1) := by
  have hr := byt_rd hB i
  simp only [le_get.l0]
  rw [w64 (by omega) (by omega), if_pos (by omega), if_pos (by omega), if_pos (by omega), or_u64 h0 h1 hr.1 hr.2, w64 (by omega) (by omega)]
theorem get_stop {l : List Int} {k : Nat} {a x i : Int} (ha : 0 ≤ a) (hl : a ≤ 262144000) (hai : i < a) : le_get.l0 (k + 1) l a x i = some (x, 0) := by
  simp only [le_get.l0]
  rw [w64 (by omega) (by omega), if_neg (by omega)]

theorem get2 {l : List Int} (hB : Byt l) (hl : (l.length : Int) ≤ 262144000) (k : Nat) {a : Int} (h0 : 0 ≤ a) (h1 : a ≤ 18446744073709551615) : ∃ e, le_get.f (k + 10) l a 2 = some (N2 l a, e) := by
  unfold le_get.f
  rw [wu64 (n := (l.length : Int)) (by omega) (by omega), inside_eq h0 h1 (by omega) (by omega) (by omega)]
  simp only [Option.bind_some, decide_eq_true_eq]
  unfold N2
  by_cases hc : a + 2 ≤ (l.length : Int)
  · rw [if_pos hc, if_pos ⟨h0, hc⟩, wu64 (n := a + 2) (by omega) (by omega), wu64 (by omega) (by omega), w64 (by omega) (by omega)]
    have r0 := byt_rd hB a
    have r1 := byt_rd hB (a + 1)
    rw [show a + 2 - 1 = a + 1 by omega, get_step hB h0 (by omega) (by omega) hl (by omega) (by omega), show a + 1 - 1 = a by omega, get_step hB h0 (by omega) (by omega) hl (by omega) (by omega), get_stop h0 (by omega) (by omega)]
    exact ⟨0, by congr 2; omega⟩
  · rw [if_neg hc, if_neg (by omega)]
    exact ⟨20, rfl⟩
theorem get4 {l : List Int} (hB : Byt l) (hl : (l.length : Int) ≤ 262144000) (k : Nat) {a : Int} (h0 : 0 ≤ a) (h1 : a ≤ 18446744073709551615) : ∃ e, le_get.f (k + 10) l a 4 = some (N4 l a, e) := by
  unfold le_get.f
  rw [wu64 (n := (l.length : Int)) (by omega) (by omega), inside_eq h0 h1 (by omega) (by omega) (by omega)]
  simp only [Option.bind_some, decide_eq_true_eq]
  unfold N4
  by_cases hc : a + 4 ≤ (l.length : Int)
  · rw [if_pos hc, if_pos ⟨h0, hc⟩, wu64 (n := a + 4) (by omega) (by omega), wu64 (by omega) (by omega), w64 (by omega) (by omega)]
    have r0 := byt_rd hB a
    have r1 := byt_rd hB (a + 1)
    have r2 := byt_rd hB (a + 2)
    have r3 := byt_rd hB (a + 3)
    rw [show a + 4 - 1 = a + 3 by omega, get_step hB h0 (by omega) (by omega) hl (by omega) (by omega), show a + 3 - 1 = a + 2 by omega, get_step hB h0 (by omega) (by omega) hl (by omega) (by omega), show a + 2 - 1 = a + 1 by omega, get_step hB h0 (by omega) (by omega) hl (by omega) (by omega), show a + 1 - 1 = a by omega, get_step hB h0 (by omega) (by omega) hl (by omega) (by omega), get_stop h0 (by omega) (by omega)]
    exact ⟨0, by congr 2; omega⟩
  · rw [if_neg hc, if_neg (by omega)]
    exact ⟨20, rfl⟩
theorem wu16 {n : Int} (h0 : 0 ≤ n) (h : n < 65536) : IntKind.u16.wrap n = n := by
  have : IntKind.u16.wrap n = n % 65536 := by simp [IntKind.wrap, IntKind.signed, IntKind.bits]
  rw [this]; omega
theorem number2 {l : List Int} (hB : Byt l) (hl : (l.length : Int) ≤ 262144000) (k : Nat) {a : Int} (h0 : 0 ≤ a) (h1 : a ≤ 18446744073709551615) : zip_number.f (k + 10) l a 2 = some (N2 l a) := by
  obtain ⟨e, he⟩ := get2 hB hl k h0 h1
  have := N2_le hB a
  unfold zip_number.f le_U16.f
  rw [if_pos rfl, he]
  simp only [Option.bind_some]
  rw [wu16 this.1 this.2, wu64 (by omega) (by omega)]
theorem number4 {l : List Int} (hB : Byt l) (hl : (l.length : Int) ≤ 262144000) (k : Nat) {a : Int} (h0 : 0 ≤ a) (h1 : a ≤ 18446744073709551615) : zip_number.f (k + 10) l a 4 = some (N4 l a) := by
  obtain ⟨e, he⟩ := get4 hB hl k h0 h1
  have := N4_le hB a
  unfold zip_number.f le_U32.f
  rw [if_neg (by decide), he]
  simp only [Option.bind_some]
  rw [show N4 l a % 4294967296 = N4 l a by omega, wu64 (by omega) (by omega)]

theorem rget_step {l : List Int} (hB : Byt l) {k : Nat} {a c x b i : Int} (ha : 0 ≤ a) (hi0 : 0 ≤ i) (hic : i < c) (hi : a + i < l.length) (hl : (l.length : Int) ≤ 262144000) (h0 : 0 ≤ x) (hb0 : 0 ≤ b) (hb : b ≤ 16777216) (hx : x ≤ 4294967296) :
    messuageref02_Get.l0 (k + 1) l a c x b i = messuageref02_Get.l0 k l a c (x + rd l (a + i) * b) (b * 256) (i + 1) := by
  have hr := byt_rd hB (a + i)
  have hm : rd l (a + i) * b ≤ 256 * 16777216 := Int.mul_le_mul (by omega) hb hb0 (by omega)
  have hm0 : 0 ≤ rd l (a + i) * b := Int.mul_nonneg hr.1 hb0
  simp only [messuageref02_Get.l0]
  rw [w64 (n := a) (by omega) (by omega), w64 (n := a + i) (by omega) (by omega), if_pos hic, if_pos (by omega), if_pos hi, wu64 hr.1 (by omega), wu64 (n := rd l (a + i) * b) hm0 (by omega), wu64 (by omega) (by omega), wu64 (by omega) (by omega), w64 (by omega) (by omega)]
theorem rget_stop {l : List Int} {k : Nat} {a c x b i : Int} (hic : c ≤ i) : messuageref02_Get.l0 (k + 1) l a c x b i = some (x, 0) := by
  simp only [messuageref02_Get.l0]
  rw [if_neg (by omega)]
theorem rget2 {l : List Int} (hB : Byt l) (hl : (l.length : Int) ≤ 262144000) (k : Nat) {a : Int} (h0 : 0 ≤ a) (h1 : a ≤ 18446744073709551615) : messuageref07_n.f (k + 10) l a 2 = some (N2 l a) := by
  unfold messuageref07_n.f messuageref02_Get.f N2
  rw [wu64 (n := (l.length : Int)) (by omega) (by omega)]
  have r0 := byt_rd hB a
  have r1 := byt_rd hB (a + 1)
  by_cases ha : a > (l.length : Int)
  · rw [if_pos ha, messuageref02_Get.j0, if_pos rfl, if_neg (by omega)]
    rfl
  · rw [if_neg ha, w64 (n := a) (by omega) (by omega), w64 (by omega) (by omega), messuageref02_Get.j0]
    by_cases hc : a + 2 ≤ (l.length : Int)
    · rw [if_neg (by rw [decide_eq_true_eq]; omega), if_pos ⟨h0, hc⟩, rget_step hB h0 (by omega) (by omega) (by omega) hl (by omega) (by omega) (by omega) (by omega),
        rget_step hB h0 (by omega) (by omega) (by omega) hl (by simp only [Int.add_zero]; omega) (by omega) (by omega) (by simp only [Int.add_zero]; omega), rget_stop (by omega)]
      simp only [Option.bind_some, Int.add_zero, Int.zero_add, Int.mul_one, Int.one_mul]
      congr 1
      omega
    · rw [if_pos (by rw [decide_eq_true_eq]; omega), if_neg (by omega)]
      rfl
theorem rget4 {l : List Int} (hB : Byt l) (hl : (l.length : Int) ≤ 262144000) (k : Nat) {a : Int} (h0 : 0 ≤ a) (h1 : a ≤ 18446744073709551615) : messuageref07_n.f (k + 10) l a 4 = some (N4 l a) := by
  unfold messuageref07_n.f messuageref02_Get.f N4
  rw [wu64 (n := (l.length : Int)) (by omega) (by omega)]
  have r0 := byt_rd hB a
  have r1 := byt_rd hB (a + 1)
  have r2 := byt_rd hB (a + 2)
  have r3 := byt_rd hB (a + 3)
  by_cases ha : a > (l.length : Int)
  · rw [if_pos ha, messuageref02_Get.j0, if_pos rfl, if_neg (by omega)]
    rfl
  · rw [if_neg ha, w64 (n := a) (by omega) (by omega), w64 (by omega) (by omega), messuageref02_Get.j0]
    by_cases hc : a + 4 ≤ (l.length : Int)
    · have e0 : (0 : Int) + rd l (a + 0) * 1 = rd l a := by simp
      rw [if_neg (by rw [decide_eq_true_eq]; omega), if_pos ⟨h0, hc⟩, rget_step hB h0 (by omega) (by omega) (by omega) hl (by omega) (by omega) (by omega) (by omega), e0, show (1 : Int) * 256 = 256 from rfl, show (0 : Int) + 1 = 1 from rfl,
        rget_step hB h0 (by omega) (by omega) (by omega) hl (by omega) (by omega) (by omega) (by omega), show (256 : Int) * 256 = 65536 from rfl, show (1 : Int) + 1 = 2 from rfl,
        rget_step hB h0 (by omega) (by omega) (by omega) hl (by omega) (by omega) (by omega) (by omega), show (65536 : Int) * 256 = 16777216 from rfl, show (2 : Int) + 1 = 3 from rfl,
        rget_step hB h0 (by omega) (by omega) (by omega) hl (by omega) (by omega) (by omega) (by omega), rget_stop (by omega)]
      simp only [Option.bind_some]
      congr 1
      omega
    · rw [if_pos (by rw [decide_eq_true_eq]; omega), if_neg (by omega)]
      rfl
end Go.Proofs.Ytkikbbmgibgamaa.Z
