/- A call's slice of files, read: each a name and bytes. -/
import Derived.Test.YtkikbbmgibgamaaHList
import Derived.Test.YtkikbbmgibgamaaRows
import Derived.Deep.SlicePairs
import Derived.WalkKit
import Derived.ProofKit
namespace Go.Proofs.Ytkikbbmgibgamaa.Z
open Go.RowKit Go.Proofs.Ytkikbbmgibgamaa.H Go.Proofs.YtkikbbmgibgamaaW.PrintWords Go.Proofs.YtkikbbmgibgamaaW.PrintLast Go.Proofs.YtkikbbmgibgamaaW.PrintMore
open Go.ChangeShapes Go.WideShapes Go.ChangeAt Go.Deep
set_option linter.unusedVariables false

theorem file_read {H : Type} {enc : TypeId × Value → H} {W : World} {base : Nat} {held : Bool} {n : Nat} {V0 V1 : Value} {q0 q1 : DataW H × List MemPlace}
    (h0 : DataW.trod enc Try.prog W base (fun _ => true) held n 9 [V0] = some q0) (h1 : DataW.trod enc Try.prog W base (fun _ => true) held n 22 [V1] = some q1) :
    ∃ x : S50, k50.K W x [V0, V1] ∧ Byt x.f1 ∧ x.f1.length ≤ maxLen ∧ x.f0.size ≤ maxLen := by
  obtain ⟨s, hs, hx, hz⟩ := DataW.trod_string Try.underlying9 h0
  have row : ∃ (a : Option Addr) (len cap : Nat) (zs : List Int), V1 = .slice a len cap ∧ ((a = none ∧ len = 0 ∧ cap = 0 ∧ zs = []) ∨ ∃ x, a = some x ∧ len ≤ cap ∧ cap ≤ maxLen ∧ zs.length = cap ∧ (∀ i, i < zs.length → W.cell? (x.add i) = some (.int .u8 (zs.getD i 0))) ∧ ∀ n ∈ zs, (Lit.int .u8 n).wf = true) := by
    rcases open_ints Try.underlying22 Try.underlying5 (by kernel_rfl) h1 with ⟨hcs, _⟩ | ⟨x, l, c, zs, hcs, _, hl, hm, hz, _, hcell, hwz⟩
    · exact ⟨none, 0, 0, [], by simpa using hcs, .inl ⟨rfl, rfl, rfl, rfl⟩⟩
    · exact ⟨some x, l, c, zs, by simpa using hcs, .inr ⟨_, rfl, hl, hm, by simpa using hz, hcell, hwz⟩⟩
  obtain ⟨a, len, cap, zs, rfl, hr⟩ := row
  obtain ⟨l, rfl, hl, hm, hw, hc⟩ := ReadsInt.ofRowC hr
  obtain rfl : V0 = .string s := by simpa using hs
  refine ⟨⟨s, l⟩, ⟨[.string s], [.slice a l.length cap], rfl, rfl, a, cap, rfl, hc, Kd.C_of_reads hl⟩, fun x hx => ?_, hm, hz⟩
  have := hw x hx
  simp [Lit.wf, IntKind.min, IntKind.max, IntKind.signed, IntKind.bits] at this
  omega
theorem files_read {H : Type} {enc : TypeId × Value → H} {W : World} {base : Nat} {held : Bool} {a0 : Option Addr} {len0 cap0 : Nat} {d : DataW H} {ps : List MemPlace}
    (h : DataW.Trod enc Try.prog W base (fun _ => true) held 41 (.slice a0 len0 cap0) d ps) :
    ∃ l0 : List S50, len0 = l0.length ∧ l0.length ≤ cap0 ∧ l0.length ≤ maxLen ∧ Kd.C k50 W a0 l0.length l0 ∧ ∀ x ∈ l0, Byt x.f1 ∧ x.f1.length ≤ maxLen ∧ x.f0.size ≤ maxLen := by
  obtain ⟨fuel, hf⟩ := h
  rcases open_slice_pairs Try.underlying41 Try.underlying50 (by kernel_rfl) rfl rfl (by kernel_rfl) (by kernel_rfl) hf with ⟨hcs, _⟩ | ⟨a, len, cap, m, n, V0, V1, D0, D1, P0, P1, hcs, hb, hl, hm, hmm, _, each⟩
  · simp [Value.cells] at hcs
    obtain ⟨rfl, rfl, rfl⟩ := hcs
    exact ⟨[], rfl, Nat.le_refl _, Nat.zero_le _, ⟨rfl, by simp, fun h => absurd h (by simp)⟩, fun x hx => by simp at hx⟩
  · simp [Value.cells] at hcs
    obtain ⟨rfl, rfl, rfl⟩ := hcs
    have hcap : cap0 ≤ 9223372036854775807 := hm
    have each' : ∀ i, ∃ x : S50, i < len0 → W.cell? (a.add (i * 2)) = some (V0 i) ∧ W.cell? (a.add (i * 2 + 1)) = some (V1 i) ∧ k50.K W x [V0 i, V1 i] ∧ Byt x.f1 ∧ x.f1.length ≤ maxLen ∧ x.f0.size ≤ maxLen := by
      intro i
      by_cases hi : i < len0
      · obtain ⟨c0, c1, t0, t1⟩ := each i (by rw [hmm, if_pos rfl]; omega)
        obtain ⟨x, hx⟩ := file_read t0 t1
        exact ⟨x, fun _ => ⟨c0, c1, hx⟩⟩
      · exact ⟨z50, fun h => absurd h hi⟩
    obtain ⟨g, hg⟩ := Classical.axiomOfChoice each'
    refine ⟨(List.range len0).map g, by simp, by simpa using hl, by simp; exact Nat.le_trans hl hm, ⟨rfl, by simp; omega, fun _ => ⟨a, rfl, fun j p hj => ?_⟩⟩, fun x hx => ?_⟩
    · rw [List.getElem?_map, Option.map_eq_some_iff] at hj
      obtain ⟨j', hj, rfl⟩ := hj
      obtain ⟨hj1, hj2⟩ := List.getElem?_eq_some_iff.1 hj
      simp at hj1 hj2
      subst hj2
      obtain ⟨c0, c1, hk, _⟩ := hg j hj1
      refine ⟨[V0 j, V1 j], rfl, hk, fun i u hu => ?_⟩
      match i, hu with
      | 0, hu => simp at hu; subst hu; exact c0
      | 1, hu => simp at hu; subst hu; exact c1
      | i + 2, hu => simp at hu
    · obtain ⟨i, hi, rfl⟩ := List.mem_map.1 hx
      exact (hg i (List.mem_range.1 hi)).2.2.2
end Go.Proofs.Ytkikbbmgibgamaa.Z
