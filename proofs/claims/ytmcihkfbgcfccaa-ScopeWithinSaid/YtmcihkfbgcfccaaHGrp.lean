/- scope.Group: the iterator's side. -/
import Derived.Test.YtmcihkfbgcfccaaHRound
import Derived.RangeFuncRecord
namespace Go.Proofs.Ytmcihkfbgcfccaa.H
open Go.RowKit Go.Shelf Go.Proofs.Ytmcihkfbgcfccaa.Z Go.Proofs.YtmcihkfbgcfccaaW.PrintWords Go.Proofs.YtmcihkfbgcfccaaW.PrintLast Go.Proofs.YtmcihkfbgcfccaaW.PrintMore
attribute [local go_sem] Oper.semAt_some
set_option linter.unusedVariables false
set_option linter.unusedSimpArgs false
/-! Plain: what comes is bounded. -/
theorem nodup_le : ∀ (s t : List Int), s.Nodup → (∀ x ∈ s, x ∈ t) → s.length ≤ t.length
  | [], _, _, _ => Nat.zero_le _
  | x :: s, t, hd, h => by
    rw [List.nodup_cons] at hd
    have hx : x ∈ t := h x (by simp)
    have := nodup_le s (t.erase x) hd.2 (fun y hy => (List.mem_erase_of_ne (fun e : y = x => hd.1 (by rw [← e]; exact hy))).2 (h y (by simp [hy])))
    rw [List.length_erase_of_mem hx] at this
    have := List.length_pos_of_mem hx
    simp only [List.length_cons]
    omega
theorem addTo_mem {xs : List Int} {x y : Int} (h : y ∈ addTo xs x) : y ∈ xs ∨ y = x := by
  unfold addTo at h
  split at h
  · exact .inl h
  · simpa using h
theorem mem_idsOf {n : Nat} {y : Int} (h0 : 1 ≤ y) (h1 : y ≤ n) : y ∈ idsOf n := by
  unfold idsOf
  rw [List.mem_map]
  exact ⟨(y - 1).toNat, by rw [List.mem_range]; omega, by omega⟩
/-- The list of what came: each once, the root and numbers of instances. -/
structure Came (L : List Ins) (root : Int) (s : List Int) : Prop where
  nodup : s.Nodup
  mem : ∀ y ∈ s, y ∈ root :: idsOf L.length
theorem Came.len {L : List Ins} {root : Int} {s : List Int} (h : Came L root s) : s.length ≤ L.length + 1 := by
  have := nodup_le s _ h.nodup h.mem
  simpa [idsOf_length] using this
theorem Came.add {L : List Ins} {root : Int} {s : List Int} (h : Came L root s) {y : Int} (h0 : 1 ≤ y) (h1 : y ≤ L.length) : Came L root (addTo s y) :=
  ⟨addTo_nodup y h.nodup, fun z hz => by
    rcases addTo_mem hz with hz | rfl
    · exact h.mem z hz
    · exact List.mem_cons_of_mem _ (mem_idsOf h0 h1)⟩
theorem mem_idsOf' {n : Nat} {y : Int} (h : y ∈ idsOf n) : 1 ≤ y ∧ y ≤ n := by
  unfold idsOf at h
  rw [List.mem_map] at h
  obtain ⟨k, hk, rfl⟩ := h
  rw [List.mem_range] at hk
  omega
theorem Came.wf {L : List Ins} {root : Int} {s : List Int} (h : Came L root s) (hL : L.length ≤ 1000) (hr : (Lit.int .i64 root).wf = true) {y : Int} (hy : y ∈ s) : (Lit.int .i64 y).wf = true := by
  rcases List.mem_cons.1 (h.mem y hy) with rfl | hy
  · exact hr
  · have := mem_idsOf' hy
    exact wf_small (by omega) (by omega)
theorem addTo_prefix (xs : List Int) (x : Int) : ∃ t, addTo xs x = xs ++ t := by
  unfold addTo
  split
  · exact ⟨[], by simp⟩
  · exact ⟨[x], rfl⟩
theorem addAll_snoc (xs ys : List Int) (y : Int) : addAll xs (ys ++ [y]) = addTo (addAll xs ys) y := by simp [addAll]
theorem addAll_prefix (xs : List Int) : ∀ ys : List Int, ∃ t, addAll xs ys = xs ++ t := by
  intro ys
  induction ys generalizing xs with
  | nil => exact ⟨[], by simp [addAll]⟩
  | cons y ys ih =>
    obtain ⟨t, ht⟩ := addTo_prefix xs y
    obtain ⟨u, hu⟩ := ih (addTo xs y)
    exact ⟨t ++ u, by rw [addAll, List.foldl_cons]; exact hu.trans (by rw [ht, List.append_assoc])⟩
theorem Came.all {L : List Ins} {root : Int} {s : List Int} (h : Came L root s) : ∀ {ys : List Int}, (∀ y ∈ ys, 1 ≤ y ∧ y ≤ L.length) → Came L root (addAll s ys) := by
  intro ys
  induction ys generalizing s with
  | nil => exact fun _ => h
  | cons y ys ih => exact fun hy => ih (h.add (hy y (by simp)).1 (hy y (by simp)).2) (fun z hz => hy z (by simp [hz]))
/-! What lies between two rounds. -/
structure GInv (w0 : World) (l D bx : Nat) (rec : LoopState → Option Code → Loop) (pre : List Int) (v : Value) (W : World) : Prop where
  below : Below w0.heap.size w0 W
  loop : W.heap[l]? = some (.loop (rec .ready none))
  mark : W.heap[D]? = some (.deferred (some []))
  box : W.heap[bx]? = some (.cells #[v] 31 (0, 0))
  row : (Kd.int .i64).R 3 W (l + 1) (fun _ => True) v pre
/-- What a round turns. -/
structure RoundStep (l bx : Nat) (W W' : World) (v v' : Value) : Prop where
  size : W.heap.size ≤ W'.heap.size
  keep : ∀ k, k < W.heap.size → k ≠ l → k ≠ bx → some k ≠ v.ownBlock → W'.heap[k]? = W.heap[k]?
  row : ∀ k, v'.ownBlock = some k → v.ownBlock = some k ∨ W.heap.size ≤ k
theorem cut_world (w : World) (B : Nat) (h : B ≤ w.heap.size) : ∃ W0 : World, W0.heap.size = B ∧ Below W0.heap.size W0 w := by
  refine ⟨{ w with heap := w.heap.extract 0 B }, by simp; omega, rfl, rfl, rfl, by simp; omega, fun k hk => ?_⟩
  have hk : k < (w.heap.extract 0 B).size := hk
  show w.heap[k]? = (w.heap.extract 0 B)[k]?
  simp only [Array.size_extract] at hk
  rw [Array.getElem?_extract]
  simp
  omega
theorem row_own {B : Nat} {W W1 : World} {v : Value} {xs : List Int} (h : (Kd.int .i64).R 3 W B (fun _ => True) v xs) (hm : ∀ k, v.ownBlock = some k → k < W.heap.size → W1.heap[k]? = W.heap[k]?) : (Kd.int .i64).R 3 W1 B (fun _ => True) v xs :=
  Kd.R_mono (Kd.R_step (Kd.R_tight rfl h) (fun k hk hlt => hm k hk.symm hlt)) (fun _ _ => trivial)
/-- The round's state behind one thing more. -/
theorem GInv.add {w0 w w' : World} {l D bx bo : Nat} {rec : LoopState → Option Code → Loop} {pre : List Int} {v vs vs' mv : Value} {B : Nat} (h : GInv w0 l D bx rec pre v w) (hs : OnceStep w w' bo vs vs') (hB : ∀ k, k < B → w'.heap[k]? = w.heap[k]?)
    (hos : w'.os = w.os ∧ w'.tape = w.tape ∧ w'.output = w.output) (hl : l < B) (hD : D < B) (hx : bx < B) (h0 : w0.heap.size ≤ B) (hbo : w.heap[bo]? = some (.cells #[vs, mv] 105 (0, 0))) (hne : ∀ k, v.ownBlock = some k → vs.ownBlock ≠ some k) :
    GInv w0 l D bx rec pre v w' ∧ (∀ k, v.ownBlock = some k → vs'.ownBlock ≠ some k) := by
  have hty := Kd.R_typed h.row
  have hlt := Kd.R_lt h.row
  refine ⟨⟨⟨hos.1.trans h.below.os, hos.2.1.trans h.below.tape, hos.2.2.trans h.below.output, Nat.le_trans h.below.size hs.size, fun k hk => (hB k (by omega)).trans (h.below.block k hk)⟩, (hB l hl).trans h.loop, (hB D hD).trans h.mark, (hB bx hx).trans h.box, row_own h.row (fun k hk hlt => hs.keep k hlt (fun e => ?_) (fun e => hne k hk e.symm) (fun es c e => ?_))⟩, fun k hk he => ?_⟩
  · subst e
    obtain ⟨cells, hc⟩ := hty k hk
    rw [hbo] at hc
    injection hc with hc
    injection hc with _ hc _
    exact absurd hc (by decide)
  · obtain ⟨cells, hc⟩ := hty k hk
    rw [hc] at e
    injection e with e
    cases e
  · rcases hs.row k he with hv | hle
    · exact hne k hk hv
    · have := hlt k hk; omega
/-- What came, behind a round. -/
theorem OnceV.round {B l bx bo : Nat} {W W' : World} {v v' vs : Value} {s pre : List Int} (h : OnceV B W bo vs s) (hr : RoundStep l bx W W' v v') (hl : l < B) (hx : bx < B) (hrow : (Kd.int .i64).R 3 W (l + 1) (fun _ => True) v pre) (hne : ∀ k, v.ownBlock = some k → vs.ownBlock ≠ some k) :
    OnceV B W' bo vs s ∧ (∀ k, v'.ownBlock = some k → vs.ownBlock ≠ some k) := by
  have hty := Kd.R_typed hrow
  obtain ⟨mv, h1, h2, h3, h4⟩ := h.out
  have hlt := Kd.R_lt h3
  have hkeep : ∀ k, B ≤ k → k < W.heap.size → (∀ cells, W.heap[k]? ≠ some (.cells cells 3 (0, 0))) → W'.heap[k]? = W.heap[k]? := fun k hk hlt hc => hr.keep k hlt (by omega) (by omega) (fun e => by obtain ⟨cells, hh⟩ := hty k e.symm; exact hc cells hh)
  refine ⟨⟨mv, ?_, h2, row_own h3 (fun k hk hlt => hr.keep k hlt (by have := Kd.R_base h3 k hk; omega) (by have := Kd.R_base h3 k hk; omega) (fun e => hne k e.symm hk)), ?_⟩, fun k hk he => ?_⟩
  · refine (hkeep bo h2 (heap_lt_of h1) (fun cells hc => ?_)).trans h1
    rw [h1] at hc
    injection hc with hc
    injection hc with _ hc _
    exact absurd hc (by decide)
  · rcases h4 with h4 | ⟨bm, rfl, hm, hle⟩
    · exact .inl h4
    · refine .inr ⟨bm, rfl, hm.kept ?_, hle⟩
      obtain ⟨D, g1, ⟨es, clock, g2, g3⟩, g4⟩ := hm
      refine hkeep bm hle (heap_lt_of g2) (fun cells hc => ?_)
      rw [g2] at hc
      injection hc with hc
      cases hc
  · rcases hr.row k hk with hv | hle
    · exact hne k hv he
    · have := hlt k he; omega
end Go.Proofs.Ytmcihkfbgcfccaa.H
