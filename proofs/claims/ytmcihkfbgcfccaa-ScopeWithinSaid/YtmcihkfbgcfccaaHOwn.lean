/- The table's owner: what it owns. -/
import Derived.Test.YtmcihkfbgcfccaaHRes
namespace Go.Proofs.Ytmcihkfbgcfccaa.H
open Go.RowKit Go.Proofs.Ytmcihkfbgcfccaa.Z Go.Proofs.YtmcihkfbgcfccaaW.PrintWords Go.Proofs.YtmcihkfbgcfccaaW.PrintLast Go.Proofs.YtmcihkfbgcfccaaW.PrintMore
set_option linter.unusedVariables false
set_option linter.unusedSimpArgs false
/-- The table, of the caller's own from w0 on; S: the blocks that it may turn. -/
structure TabO (w0 W : World) (bt : Nat) (L : List Ins) (s : Nat → Option Addr × Nat) (S : Nat → Prop) : Prop where
  below : Below w0.heap.size w0 W
  syms : ∀ k x, L[k]? = some x → Kd.C k76 w0 (s k).1 x.syms.length x.syms ∧ x.syms.length ≤ (s k).2
  out : ∃ (bm : Nat) (vI : Value) (g : Nat → Nat) (nv : Nat → Value),
    W.heap[bt]? = some (.cells #[.int .i64 12, .int .i64 (L.length + 1), vI, .map (some bm)] 114 (0, 0)) ∧ TabMap W bm ((List.range L.length).map g) ∧ kP.R 52 W w0.heap.size (fun _ => True) vI ((List.range L.length).map g) ∧ w0.heap.size ≤ bt ∧ w0.heap.size ≤ bm ∧
    (∀ k x, L[k]? = some x → W.heap[g k]? = some (.cells (instT (k + 1) x.sp x.sy x.vd (.slice (s k).1 x.syms.length (s k).2) (nv k) x.gl) 74 (0, 0)) ∧ (Kd.int .i64).R 3 W w0.heap.size (fun _ => True) (nv k) x.needs) ∧
    (∀ j, j < L.length → w0.heap.size ≤ g j) ∧
    (∀ j k, j < L.length → k < L.length → j ≠ k → g j ≠ g k) ∧
    (∀ j k, j < L.length → k < L.length → j ≠ k → ∀ b, (nv j).ownBlock = some b → (nv k).ownBlock ≠ some b) ∧
    (∀ k, S k ↔ (k = bt ∨ k = bm ∨ vI.ownBlock = some k ∨ (∃ j, j < L.length ∧ g j = k) ∨ ∃ j, j < L.length ∧ (nv j).ownBlock = some k))
theorem TabO.read {w0 W : World} {bt : Nat} {L : List Ins} {s : Nat → Option Addr × Nat} {S : Nat → Prop} (h : TabO w0 W bt L s S) : TabR W bt L := by
  obtain ⟨bm, vI, g, nv, h1, h2, h3, h4, h5, h6, h7, h8, h9, h10⟩ := h.out
  obtain ⟨A, c, rfl⟩ := Kd.R_slice h3
  have hr := Kd.R_reads' h3
  have hlen : ((List.range L.length).map g).length = L.length := by simp
  rw [hlen] at h1 hr
  refine ⟨bm, (List.range L.length).map g, A, c, h1, h2, by simp, hr.2.2, hr.2.1, fun k hk hk' => ?_⟩
  have hx := List.getElem?_eq_getElem hk
  obtain ⟨q1, q2⟩ := h6 k L[k] hx
  obtain ⟨q3, q4⟩ := h.syms k L[k] hx
  obtain ⟨nA, nc, hn⟩ := Kd.R_slice q2
  rw [hn] at q1 q2
  have hr2 := Kd.R_reads' q2
  refine ⟨(s k).1, (s k).2, nA, nc, ?_, Kd.C_below q3 h.below, q4, hr2.2.2, hr2.2.1⟩
  simpa using q1
/-- What the table may turn is its own: blocks of five kinds. -/
theorem TabO.typed {w0 W : World} {bt : Nat} {L : List Ins} {s : Nat → Option Addr × Nat} {S : Nat → Prop} (h : TabO w0 W bt L s S) {k : Nat} (hk : S k) : w0.heap.size ≤ k ∧ k < W.heap.size ∧ ((∃ es c, W.heap[k]? = some (.map es c)) ∨ ∃ cells q, W.heap[k]? = some (.cells cells q (0, 0)) ∧ q ∈ [114, 52, 74, 3]) := by
  obtain ⟨bm, vI, g, nv, h1, h2, h3, h4, h5, h6, h7, h8, h9, h10⟩ := h.out
  have key : ∀ j, j < L.length → ∃ x, L[j]? = some x := fun j hj => ⟨_, List.getElem?_eq_getElem hj⟩
  rcases (h10 k).1 hk with rfl | rfl | hk | ⟨j, hj, rfl⟩ | ⟨j, hj, hk⟩
  · exact ⟨h4, heap_lt_of h1, .inr ⟨_, _, h1, by simp⟩⟩
  · obtain ⟨D, g1, ⟨es, clock, g2, g3⟩, g4⟩ := h2
    exact ⟨h5, heap_lt_of g2, .inl ⟨_, _, g2⟩⟩
  · obtain ⟨cells, hc⟩ := Kd.R_typed h3 k hk
    exact ⟨Kd.R_base h3 k hk, heap_lt_of hc, .inr ⟨_, _, hc, by simp⟩⟩
  · obtain ⟨x, hx⟩ := key j hj
    exact ⟨h7 j hj, heap_lt_of (h6 j x hx).1, .inr ⟨_, _, (h6 j x hx).1, by simp⟩⟩
  · obtain ⟨x, hx⟩ := key j hj
    obtain ⟨cells, hc⟩ := Kd.R_typed (h6 j x hx).2 k hk
    exact ⟨Kd.R_base (h6 j x hx).2 k hk, heap_lt_of hc, .inr ⟨_, _, hc, by simp⟩⟩
/-- A block of another kind is none of these. -/
theorem TabO.not {w0 W : World} {bt : Nat} {L : List Ins} {s : Nat → Option Addr × Nat} {S : Nat → Prop} (h : TabO w0 W bt L s S) {k q : Nat} {cells : Array Value} {fr : Nat × Nat} (hb : W.heap[k]? = some (.cells cells q fr)) (hq : q ∉ [114, 52, 74, 3]) : ¬ S k := fun hk => by
  rcases (h.typed hk).2.2 with ⟨es, c, hc⟩ | ⟨cells', q', hc, hm⟩
  · rw [hb] at hc
    injection hc with hc
    cases hc
  · rw [hb] at hc
    injection hc with hc
    injection hc with _ hc _
    exact hq (hc ▸ hm)
/-- Other blocks may turn. -/
theorem TabO.kept {w0 W W1 : World} {bt : Nat} {L : List Ins} {s : Nat → Option Addr × Nat} {S : Nat → Prop} (h : TabO w0 W bt L s S) (hb : Below w0.heap.size w0 W1) (hk : ∀ k, S k → W1.heap[k]? = W.heap[k]?) : TabO w0 W1 bt L s S := by
  obtain ⟨bm, vI, g, nv, h1, h2, h3, h4, h5, h6, h7, h8, h9, h10⟩ := h.out
  have s1 : S bt := (h10 bt).2 (.inl rfl)
  have s2 : S bm := (h10 bm).2 (.inr (.inl rfl))
  have s3 : ∀ k, vI.ownBlock = some k → S k := fun k hk => (h10 k).2 (.inr (.inr (.inl hk)))
  have s4 : ∀ j, j < L.length → S (g j) := fun j hj => (h10 _).2 (.inr (.inr (.inr (.inl ⟨j, hj, rfl⟩))))
  have s5 : ∀ j k, j < L.length → (nv j).ownBlock = some k → S k := fun j k hj hk => (h10 _).2 (.inr (.inr (.inr (.inr ⟨j, hj, hk⟩))))
  have lt : ∀ k x, L[k]? = some x → k < L.length := fun k x hx => (List.getElem?_eq_some_iff.1 hx).1
  refine ⟨hb, h.syms, bm, vI, g, nv, (hk _ s1).trans h1, h2.kept (hk _ s2), ?_, h4, h5, fun k x hx => ⟨(hk _ (s4 k (lt k x hx))).trans (h6 k x hx).1, row_own (h6 k x hx).2 (fun b hb _ => hk b (s5 k b (lt k x hx) hb))⟩, h7, h8, h9, h10⟩
  exact Kd.R_mono (Kd.R_step (Kd.R_tight rfl h3) (fun k hk' _ => hk k (s3 k hk'.symm))) (fun _ _ => trivial)
theorem TabO.made (w0 W : World) (hb : Below w0.heap.size w0 W) : TabO w0 ((W.alloc (.map #[] 0)).alloc (.cells #[.int .i64 12, .int .i64 1, .slice none 0 0, .map (some W.heap.size)] 114)) (W.heap.size + 1) [] (fun _ => (none, 0)) (fun k => k = W.heap.size + 1 ∨ k = W.heap.size) := by
  have hsz := hb.size
  refine ⟨(hb.alloc hb.size _).alloc (by simp; omega) _, fun k x hx => by simp at hx, W.heap.size, .slice none 0 0, fun _ => 0, fun _ => .slice none 0 0, ?_, ?_, Kd.R_nil _ _ _ _ _, by omega, hsz, fun k x hx => by simp at hx, fun j hj => by simp at hj, fun j k hj => by simp at hj, fun j k hj => by simp at hj, fun k => ?_⟩
  · have := heap_alloc_new (W.alloc (.map #[] 0)) (.cells #[.int .i64 12, .int .i64 1, .slice none 0 0, .map (some W.heap.size)] 114)
    rwa [World.size_alloc] at this
  · exact (TabMap.made W).kept (Below.heap_alloc _ _ _ (by simp))
  · simp [Value.ownBlock]
end Go.Proofs.Ytmcihkfbgcfccaa.H
