/- The parameters, read. -/
import Derived.Test.YtmcihkfbgcfccaaHAlive
import Derived.Test.YtmcihkfbgcfccaaRows
import Derived.Lib.SmallJoins
import Derived.WalkKit
import Derived.ProofKit
namespace Go.Proofs.Ytmcihkfbgcfccaa.H
open Go.RowKit Go.Proofs.Ytmcihkfbgcfccaa.Z Go.Proofs.YtmcihkfbgcfccaaW.PrintWords Go.Proofs.YtmcihkfbgcfccaaW.PrintLast Go.Proofs.YtmcihkfbgcfccaaW.PrintMore
open Go.ChangeShapes Go.WideShapes Go.ChangeAt Go.Deep
set_option linter.unusedVariables false
section
variable {H : Type} {enc : TypeId × Value → H} {W : World} {base : Nat} {held : Bool}
theorem rows_read {α : Type} (d : Kd α) (z : α) (p : α → Prop) {t e : TypeId} (ht : Try.prog.underlying t = some (.slice e)) (hsz : Try.prog.cellsOf e = d.sz)
    (each : ∀ n cs D, DataW.trod enc Try.prog W base (fun _ => true) held n e cs = some D → ∃ x, d.K W x cs ∧ p x) {n : Nat} {v : Value} {q : DataW H × List MemPlace}
    (h : DataW.trod enc Try.prog W base (fun _ => true) held n t [v] = some q) :
    ∃ A xs c, v = .slice A xs.length c ∧ xs.length ≤ c ∧ c ≤ maxLen ∧ Kd.C d W A xs.length xs ∧ ∀ x ∈ xs, p x := by
  rcases open_slice ht h with ⟨hcs, _⟩ | ⟨a, len, cap, m, n', D, Pl, hcs, hb, hl, hm, hmm, _, he⟩
  · exact ⟨none, [], 0, by simpa using hcs, Nat.le_refl _, Nat.zero_le _, ⟨rfl, by simp, fun h => absurd h (by simp)⟩, fun x hx => by simp at hx⟩
  · simp only [List.cons.injEq, and_true] at hcs
    have each' : ∀ i, ∃ x : α, i < len → ∃ cs, cs.length = d.sz ∧ d.K W x cs ∧ p x ∧ ∀ j u, cs[j]? = some u → W.cell? (a.add (i * d.sz + j)) = some u := by
      intro i
      by_cases hi : i < len
      · obtain ⟨cs, h1, h2⟩ := he i (by rw [hmm, if_pos rfl]; omega)
        obtain ⟨x, hx, hp⟩ := each _ _ _ h2
        obtain ⟨_, hlen, hcell⟩ := World.cells?_some h1
        rw [hsz] at hcell hlen
        refine ⟨x, fun _ => ⟨cs, hlen, hx, hp, fun j u hj => ?_⟩⟩
        have hj' : j < cs.length := (List.getElem?_eq_some_iff.1 hj).1
        have := hcell j (by omega)
        rw [Deep.add_add] at this
        rw [this, hj]
      · exact ⟨z, fun h => absurd h hi⟩
    obtain ⟨g, hg⟩ := Classical.axiomOfChoice each'
    have hcap : cap ≤ 9223372036854775807 := hm
    refine ⟨some a, (List.range len).map g, cap, by simpa using hcs, by simpa using hl, hm, ⟨rfl, by simp; omega, fun _ => ⟨a, rfl, fun j x hj => ?_⟩⟩, fun x hx => ?_⟩
    · rw [List.getElem?_map, Option.map_eq_some_iff] at hj
      obtain ⟨j', hj, rfl⟩ := hj
      obtain ⟨hj1, hj2⟩ := List.getElem?_eq_some_iff.1 hj
      simp at hj1 hj2
      subst hj2
      obtain ⟨cs, h1, h2, _, h3⟩ := hg j hj1
      exact ⟨cs, h1, h2, h3⟩
    · obtain ⟨i, hi, rfl⟩ := List.mem_map.1 hx
      obtain ⟨_, _, _, h, _⟩ := hg i (List.mem_range.1 hi)
      exact h
theorem wide_agg {P : Program} {r : Reach} {b0 : Nat} {t : TypeId} {fs : Array Field} {v : Value} (hs : P.underlying t = some (.struct fs)) (hv : Value.okWide P W r b0 t v) : ∃ cs, v = .agg cs := by
  obtain ⟨cs, rfl, hsz⟩ := okWide_struct hs hv
  exact ⟨cs, rfl⟩
theorem c76 : Try.prog.cellsOf 76 = 7 := by kernel_rfl
theorem c81 : Try.prog.cellsOf 81 = 6 := by kernel_rfl
theorem z76sz : k76.sz = 7 := rfl
theorem z81sz : k81.sz = 6 := rfl
theorem agg6 {P : Program} {spare : Nat → Bool} {t : TypeId} {f0 f1 f2 f3 f4 f5 : Field} {fuel : Nat} {cs : List Value} {x : DataW H × List MemPlace} (hs : P.underlying t = some (.struct #[f0, f1, f2, f3, f4, f5])) (hone : oneCellFields P #[f0, f1, f2, f3, f4, f5] = true) (hC : P.cellsOf t = 6)
    (h : DataW.trod enc P W base spare held fuel t cs = some x) :
    ∃ (v0 v1 v2 v3 v4 v5 : Value) (y0 y1 y2 y3 y4 y5 : DataW H × List MemPlace) (n : Nat), cs = [v0, v1, v2, v3, v4, v5] ∧ DataW.trod enc P W base spare held n f0.type [v0] = some y0 ∧ DataW.trod enc P W base spare held n f1.type [v1] = some y1 ∧ DataW.trod enc P W base spare held n f2.type [v2] = some y2 ∧ DataW.trod enc P W base spare held n f3.type [v3] = some y3 ∧ DataW.trod enc P W base spare held n f4.type [v4] = some y4 ∧ DataW.trod enc P W base spare held n f5.type [v5] = some y5 := by
  obtain ⟨xs, n, _, rfl, hl, hlen, hf⟩ := DataW.trod_struct hs h
  rw [hC] at hl
  obtain ⟨o0, k0⟩ := hone_of hone 0 f0 rfl
  obtain ⟨o1, k1⟩ := hone_of hone 1 f1 rfl
  obtain ⟨o2, k2⟩ := hone_of hone 2 f2 rfl
  obtain ⟨o3, k3⟩ := hone_of hone 3 f3 rfl
  obtain ⟨o4, k4⟩ := hone_of hone 4 f4 rfl
  obtain ⟨o5, k5⟩ := hone_of hone 5 f5 rfl
  match xs, hlen, cs, hl with
  | [y0, y1, y2, y3, y4, y5], _, [v0, v1, v2, v3, v4, v5], _ =>
    exact ⟨v0, v1, v2, v3, v4, v5, y0, y1, y2, y3, y4, y5, n, rfl, by simpa [o0, k0] using hf 0 f0 rfl, by simpa [o1, k1] using hf 1 f1 rfl, by simpa [o2, k2] using hf 2 f2 rfl, by simpa [o3, k3] using hf 3 f3 rfl, by simpa [o4, k4] using hf 4 f4 rfl, by simpa [o5, k5] using hf 5 f5 rfl⟩
theorem agg7 {P : Program} {spare : Nat → Bool} {t : TypeId} {f0 f1 f2 f3 f4 f5 f6 : Field} {fuel : Nat} {cs : List Value} {x : DataW H × List MemPlace} (hs : P.underlying t = some (.struct #[f0, f1, f2, f3, f4, f5, f6])) (hone : oneCellFields P #[f0, f1, f2, f3, f4, f5, f6] = true) (hC : P.cellsOf t = 7)
    (h : DataW.trod enc P W base spare held fuel t cs = some x) :
    ∃ (v0 v1 v2 v3 v4 v5 v6 : Value) (y0 y1 y2 y3 y4 y5 y6 : DataW H × List MemPlace) (n : Nat), cs = [v0, v1, v2, v3, v4, v5, v6] ∧ DataW.trod enc P W base spare held n f0.type [v0] = some y0 ∧ DataW.trod enc P W base spare held n f1.type [v1] = some y1 ∧ DataW.trod enc P W base spare held n f2.type [v2] = some y2 ∧ DataW.trod enc P W base spare held n f3.type [v3] = some y3 ∧ DataW.trod enc P W base spare held n f4.type [v4] = some y4 ∧ DataW.trod enc P W base spare held n f5.type [v5] = some y5 ∧ DataW.trod enc P W base spare held n f6.type [v6] = some y6 := by
  obtain ⟨xs, n, _, rfl, hl, hlen, hf⟩ := DataW.trod_struct hs h
  rw [hC] at hl
  obtain ⟨o0, k0⟩ := hone_of hone 0 f0 rfl
  obtain ⟨o1, k1⟩ := hone_of hone 1 f1 rfl
  obtain ⟨o2, k2⟩ := hone_of hone 2 f2 rfl
  obtain ⟨o3, k3⟩ := hone_of hone 3 f3 rfl
  obtain ⟨o4, k4⟩ := hone_of hone 4 f4 rfl
  obtain ⟨o5, k5⟩ := hone_of hone 5 f5 rfl
  obtain ⟨o6, k6⟩ := hone_of hone 6 f6 rfl
  match xs, hlen, cs, hl with
  | [y0, y1, y2, y3, y4, y5, y6], _, [v0, v1, v2, v3, v4, v5, v6], _ =>
    exact ⟨v0, v1, v2, v3, v4, v5, v6, y0, y1, y2, y3, y4, y5, y6, n, rfl, by simpa [o0, k0] using hf 0 f0 rfl, by simpa [o1, k1] using hf 1 f1 rfl, by simpa [o2, k2] using hf 2 f2 rfl, by simpa [o3, k3] using hf 3 f3 rfl, by simpa [o4, k4] using hf 4 f4 rfl, by simpa [o5, k5] using hf 5 f5 rfl, by simpa [o6, k6] using hf 6 f6 rfl⟩
theorem ints_read {n : Nat} {v : Value} {q : DataW H × List MemPlace} (h : DataW.trod enc Try.prog W base (fun _ => true) held n 31 [v] = some q) :
    ∃ A xs c, v = .slice A xs.length c ∧ xs.length ≤ c ∧ c ≤ maxLen ∧ Kd.C (Kd.int .i64) W A xs.length xs ∧ ∀ x ∈ xs, (Lit.int .i64 x).wf = true :=
  rows_read (Kd.int .i64) 0 _ Try.underlying31 (by kernel_rfl) (fun n cs D h => by
    obtain ⟨i, rfl, _, hw⟩ := DataW.trod_int Try.underlying3 h
    exact ⟨i, rfl, hw⟩) h
theorem syms_read {n : Nat} {v : Value} {q : DataW H × List MemPlace} (h : DataW.trod enc Try.prog W base (fun _ => true) held n 67 [v] = some q) :
    ∃ A xs c, v = .slice A xs.length c ∧ xs.length ≤ c ∧ c ≤ maxLen ∧ Kd.C k76 W A xs.length xs ∧ ∀ x ∈ xs, True := by
  refine rows_read k76 z76 (fun _ => True) Try.underlying67 (c76.trans z76sz.symm) (fun n cs D h => ?_) h
  obtain ⟨v0, v1, v2, v3, v4, v5, v6, y0, y1, y2, y3, y4, y5, y6, n, rfl, t0, t1, t2, t3, t4, t5, t6⟩ := agg7 Try.underlying76 (by kernel_rfl) (by kernel_rfl) h
  obtain ⟨s0, e0, _⟩ := DataW.trod_string Try.underlying9 t0
  obtain ⟨s1, e1, _⟩ := DataW.trod_string Try.underlying9 t1
  obtain ⟨s2, e2, _⟩ := DataW.trod_bool Try.underlying4 t2
  obtain ⟨s3, e3, _⟩ := DataW.trod_int Try.underlying3 t3
  obtain ⟨s4, e4, _⟩ := DataW.trod_bool Try.underlying4 t4
  obtain ⟨s5, e5, _⟩ := DataW.trod_int Try.underlying57 t5
  obtain ⟨s6, e6, _⟩ := DataW.trod_int Try.underlying57 t6
  simp only [List.cons.injEq, and_true] at e0 e1 e2 e3 e4 e5 e6
  subst e0 e1 e2 e3 e4 e5 e6
  exact ⟨⟨s0, s1, s2, s3, s4, s5, s6⟩, k76_K W ⟨s0, s1, s2, s3, s4, s5, s6⟩, trivial⟩
theorem net_read {n : Nat} {v : Value} {q : DataW H × List MemPlace} (h : DataW.trod enc Try.prog W base (fun _ => true) held n 22 [v] = some q) :
    ∃ A xs c, v = .slice A xs.length c ∧ xs.length ≤ c ∧ c ≤ maxLen ∧ Kd.C k81 W A xs.length xs ∧ ∀ x ∈ xs, ∀ y ∈ x.f5, (Lit.int .i64 y).wf = true := by
  refine rows_read k81 z81 _ Try.underlying22 (c81.trans z81sz.symm) (fun n cs D h => ?_) h
  obtain ⟨v0, v1, v2, v3, v4, v5, y0, y1, y2, y3, y4, y5, n, rfl, t0, t1, t2, t3, t4, t5⟩ := agg6 Try.underlying81 (by kernel_rfl) (by kernel_rfl) h
  obtain ⟨s0, e0, _⟩ := DataW.trod_int Try.underlying3 t0
  obtain ⟨s1, e1, _⟩ := DataW.trod_bool Try.underlying4 t1
  obtain ⟨s2, e2, _⟩ := DataW.trod_bool Try.underlying4 t2
  obtain ⟨s3, e3, _⟩ := DataW.trod_bool Try.underlying4 t3
  obtain ⟨A4, l4, c4, rfl, h4, _, C4, _⟩ := syms_read t4
  obtain ⟨A5, l5, c5, rfl, h5, _, C5, w5⟩ := ints_read t5
  simp only [List.cons.injEq, and_true] at e0 e1 e2 e3
  subst e0 e1 e2 e3
  exact ⟨⟨s0, s1, s2, s3, l4, l5⟩, k81_mk W ⟨s0, s1, s2, s3, l4, l5⟩ h4 C4 h5 C5, w5⟩
/-- What is asked, read. -/
structure AskR (W : World) (x : Array Value) (l : List S81) (id root sym : Int) (nm ver : ByteArray) (ids : List Int) : Prop where
  e : ∃ A c A6 c6, x = #[.slice A l.length c, .int .i64 id, .int .i64 root, .int .i64 sym, .string nm, .string ver, .slice A6 ids.length c6] ∧ l.length ≤ c ∧ ids.length ≤ c6 ∧ c6 ≤ maxLen ∧ Kd.C k81 W A l.length l ∧ Kd.C (Kd.int .i64) W A6 ids.length ids
  needs : ∀ x ∈ l, ∀ y ∈ x.f5, (Lit.int .i64 y).wf = true
  id : (Lit.int .i64 id).wf = true
  root : (Lit.int .i64 root).wf = true
  sym : (Lit.int .i64 sym).wf = true
  ids : ∀ x ∈ ids, (Lit.int .i64 x).wf = true
theorem ask_read {v : Value} {d : DataW H} {ps : List MemPlace} (hv : ∃ cs, v = .agg cs) (h : DataW.Trod enc Try.prog W base (fun _ => true) held 39 v d ps) :
    ∃ x l id root sym nm ver ids, v = .agg x ∧ AskR W x l id root sym nm ver ids := by
  obtain ⟨cs, rfl⟩ := hv
  obtain ⟨n, h⟩ := h
  obtain ⟨v0, v1, v2, v3, v4, v5, v6, y0, y1, y2, y3, y4, y5, y6, n, e, t0, t1, t2, t3, t4, t5, t6⟩ := agg7 Try.underlying39 (by kernel_rfl) (by kernel_rfl) h
  obtain ⟨A, l, c, rfl, hl, _, C0, w0⟩ := net_read t0
  obtain ⟨s1, e1, _, w1⟩ := DataW.trod_int Try.underlying3 t1
  obtain ⟨s2, e2, _, w2⟩ := DataW.trod_int Try.underlying3 t2
  obtain ⟨s3, e3, _, w3⟩ := DataW.trod_int Try.underlying3 t3
  obtain ⟨s4, e4, _⟩ := DataW.trod_string Try.underlying9 t4
  obtain ⟨s5, e5, _⟩ := DataW.trod_string Try.underlying9 t5
  obtain ⟨A6, l6, c6, rfl, h6, m6, C6, w6⟩ := ints_read t6
  simp only [List.cons.injEq, and_true] at e1 e2 e3 e4 e5
  subst e1 e2 e3 e4 e5
  have e' : cs = #[.slice A l.length c, .int .i64 s1, .int .i64 s2, .int .i64 s3, .string s4, .string s5, .slice A6 l6.length c6] := by
    apply Array.ext'
    simpa [Value.cells] using e
  subst e'
  exact ⟨_, l, s1, s2, s3, s4, s5, l6, rfl, ⟨A, c, A6, c6, rfl, hl, h6, m6, C0, C6⟩, w0, w1, w2, w3, w6⟩
theorem nodes_read {A : Option Addr} {len cap : Nat} {d : DataW H} {ps : List MemPlace} (h : DataW.Trod enc Try.prog W base (fun _ => true) held 22 (.slice A len cap) d ps) :
    ∃ l : List S81, len = l.length ∧ l.length ≤ cap ∧ Kd.C k81 W A l.length l ∧ ∀ x ∈ l, ∀ y ∈ x.f5, (Lit.int .i64 y).wf = true := by
  obtain ⟨n, h⟩ := h
  obtain ⟨A', l, c, e, hl, _, C0, w0⟩ := net_read (by simpa [Value.cells] using h)
  injection e with e1 e2 e3
  subst e1 e2 e3
  exact ⟨l, rfl, hl, C0, w0⟩
end
end Go.Proofs.Ytmcihkfbgcfccaa.H
