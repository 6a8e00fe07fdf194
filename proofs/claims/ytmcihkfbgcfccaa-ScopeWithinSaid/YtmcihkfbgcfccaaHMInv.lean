/- What made holds: the table, the document's, both of the same instances. -/
import Derived.Test.YtmcihkfbgcfccaaHRAdd
namespace Go.Proofs.Ytmcihkfbgcfccaa.H
open Go.RowKit Go.Proofs.Ytmcihkfbgcfccaa.Z Go.Proofs.YtmcihkfbgcfccaaW.PrintWords Go.Proofs.YtmcihkfbgcfccaaW.PrintLast Go.Proofs.YtmcihkfbgcfccaaW.PrintMore
set_option linter.unusedVariables false
set_option linter.unusedSimpArgs false
/-- An instance of a node. -/
def insOf (x : S81) (needs : List Int) : Ins := ⟨x.f0, x.f1, if x.f3 = true then 8 else 0, x.f2, x.f4, needs⟩
/-- The numbers of those that a node needs. -/
def needsOf (n : Nat) (ys : List Int) : List Int := (ys.filter fun y : Int => decide (0 ≤ y) && decide (y < (n : Int))).map (· + 1)
/-- The instances of a net. -/
def netOf (l : List S81) : List Ins := l.map fun x => insOf x (needsOf l.length x.f5)
/-- .. where the first i nodes have all that they need, the next one the first k. -/
def netAt (l : List S81) (i k : Nat) : List Ins := (List.range l.length).map fun j => insOf (l.getD j z81) (if j < i then needsOf l.length (l.getD j z81).f5 else if j = i then needsOf l.length ((l.getD j z81).f5.take k) else [])
theorem netAt_len (l : List S81) (i k : Nat) : (netAt l i k).length = l.length := by simp [netAt]
theorem netAt_get (l : List S81) (i k j : Nat) (h : j < l.length) : (netAt l i k)[j]? = some (insOf (l.getD j z81) (if j < i then needsOf l.length (l.getD j z81).f5 else if j = i then needsOf l.length ((l.getD j z81).f5.take k) else [])) := by
  simp [netAt, h]
theorem netAt_zero (l : List S81) : netAt l 0 0 = l.map (fun x => insOf x []) := by
  apply List.ext_getElem?
  intro j
  by_cases h : j < l.length
  · rw [netAt_get l 0 0 j h, List.getElem?_map, List.getElem?_eq_getElem h]
    simp [needsOf, h]
  · rw [List.getElem?_eq_none (by rw [netAt_len]; omega), List.getElem?_eq_none (by simp; omega)]
theorem netAt_done (l : List S81) : netAt l l.length 0 = netOf l := by
  apply List.ext_getElem?
  intro j
  by_cases h : j < l.length
  · rw [netAt_get l _ 0 j h, netOf, List.getElem?_map, List.getElem?_eq_getElem h]
    simp [h]
  · rw [List.getElem?_eq_none (by rw [netAt_len]; omega), List.getElem?_eq_none (by simp [netOf]; omega)]
theorem netAt_next (l : List S81) (i : Nat) (h : i < l.length) : netAt l i (l.getD i z81).f5.length = netAt l (i + 1) 0 := by
  apply List.ext_getElem?
  intro j
  by_cases hj : j < l.length
  · rw [netAt_get l _ _ j hj, netAt_get l _ _ j hj]
    by_cases h1 : j < i
    · rw [if_pos h1, if_pos (by omega)]
    · by_cases h2 : j = i
      · subst h2
        rw [if_neg h1, if_pos rfl, if_pos (by omega), List.take_length]
      · rw [if_neg h1, if_neg h2, if_neg (by omega)]
        by_cases h3 : j = i + 1
        · rw [if_pos h3]
          simp [needsOf]
        · rw [if_neg h3]
  · rw [List.getElem?_eq_none (by rw [netAt_len]; omega), List.getElem?_eq_none (by rw [netAt_len]; omega)]
theorem netAt_out (l : List S81) (i k : Nat) (h : i < l.length) (hk : k < (l.getD i z81).f5.length) (ho : ¬ (0 ≤ (l.getD i z81).f5[k] ∧ (l.getD i z81).f5[k] < l.length)) : netAt l i (k + 1) = netAt l i k := by
  have e : needsOf l.length ((l.getD i z81).f5.take (k + 1)) = needsOf l.length ((l.getD i z81).f5.take k) := by
    rw [List.take_succ_eq_append_getElem hk]
    simp only [needsOf, List.filter_append]
    have : (List.filter (fun y => decide (0 ≤ y) && decide (y < (l.length : Int))) [(l.getD i z81).f5[k]]) = [] := by
      simp only [List.filter_cons, List.filter_nil]
      rw [if_neg]
      simpa using ho
    rw [this, List.append_nil]
  apply List.ext_getElem?
  intro j
  by_cases hj : j < l.length
  · rw [netAt_get l _ _ j hj, netAt_get l _ _ j hj]
    by_cases h2 : j = i
    · subst h2
      rw [if_neg (Nat.lt_irrefl _), if_pos rfl, if_neg (Nat.lt_irrefl _), if_pos rfl, e]
    · simp [h2]
  · rw [List.getElem?_eq_none (by rw [netAt_len]; omega), List.getElem?_eq_none (by rw [netAt_len]; omega)]
theorem netAt_in (l : List S81) (i k o : Nat) (h : i < l.length) (hk : k < (l.getD i z81).f5.length) (ho : (l.getD i z81).f5[k] = o) (hol : o < l.length) : netAt l i (k + 1) = moreNeed (netAt l i k) i o := by
  have e : needsOf l.length ((l.getD i z81).f5.take (k + 1)) = needsOf l.length ((l.getD i z81).f5.take k) ++ [(o : Int) + 1] := by
    rw [List.take_succ_eq_append_getElem hk]
    simp only [needsOf, List.filter_append, List.map_append]
    congr 1
    rw [ho]
    have : (decide (0 ≤ (o : Int)) && decide ((o : Int) < l.length)) = true := by simp; omega
    simp [List.filter_cons, hol]
  have hi := netAt_get l i k i h
  rw [if_neg (Nat.lt_irrefl _), if_pos rfl] at hi
  apply List.ext_getElem?
  intro j
  unfold moreNeed
  rw [hi]
  simp only
  by_cases hj : j < l.length
  · by_cases h2 : j = i
    · subst h2
      rw [netAt_get l _ _ j hj, if_neg (Nat.lt_irrefl _), if_pos rfl, e, List.getElem?_set_self (by rw [netAt_len]; exact hj)]
      rfl
    · rw [List.getElem?_set_ne (Ne.symm h2), netAt_get l _ _ j hj, netAt_get l _ _ j hj]
      simp [h2]
  · rw [List.getElem?_eq_none (by rw [netAt_len]; omega), List.getElem?_eq_none (by rw [List.length_set, netAt_len]; omega)]
/-- The document's table, read: apart from what may turn. -/
structure RefF (w0 W : World) (S : Nat → Prop) (L : List Ins) (A : Option Addr) (rs : List Raw) : Prop where
  len : rs.length = L.length
  row : L ≠ [] → ∃ g, A = some ⟨g, 0, none⟩
  cells : ∀ W', Kept W W' S → kI.C W' A rs.length rs
  ins : ∀ (k : Nat) (x : Ins) (r : Raw), L[k]? = some x → rs[k]? = some r → r.id = (k : Int) + 1 ∧ r.sp = x.sp ∧ r.sy = x.sy ∧ r.vd = x.vd ∧ r.gl = x.gl ∧ r.s.2.1 = x.syms.length ∧ x.syms.length ≤ r.s.2.2 ∧ k76.C w0 r.s.1 x.syms.length x.syms ∧ r.n.2.1 = x.needs.length ∧ x.needs.length ≤ r.n.2.2 ∧ ∀ W', Kept W W' S → (Kd.int .i64).C W' r.n.1 x.needs.length x.needs
theorem RefF.kept {w0 W W1 : World} {S S1 : Nat → Prop} {L : List Ins} {A : Option Addr} {rs : List Raw} (h : RefF w0 W S L A rs) (hk : Kept W W1 S) (hs : ∀ k, S1 k → S k ∨ W.heap.size ≤ k) : RefF w0 W1 S1 L A rs :=
  ⟨h.len, h.row, fun W' hk' => h.cells W' (hk.then_ hk' hs), fun k x r hx hr => by
    obtain ⟨a1, a2, a3, a4, a5, a6, a7, a8, a9, a10, a11⟩ := h.ins k x r hx hr
    exact ⟨a1, a2, a3, a4, a5, a6, a7, a8, a9, a10, fun W' hk' => a11 W' (hk.then_ hk' hs)⟩⟩
theorem RefF.ids {w0 W : World} {S : Nat → Prop} {L : List Ins} {A : Option Addr} {rs : List Raw} (h : RefF w0 W S L A rs) : ∀ k (hk : k < rs.length), rs[k].id = k + 1 := fun k hk => by
  have hl : k < L.length := by rw [← h.len]; exact hk
  exact (h.ins k L[k] rs[k] (List.getElem?_eq_getElem hl) (List.getElem?_eq_getElem hk)).1
/-- What made holds. -/
structure MInv (w0 W : World) (bt p3 p7 : Nat) (L : List Ins) : Prop where
  out : ∃ s S rs A c, TabO w0 W bt L s S ∧ W.heap[p7]? = some (.cells #[.int .i64 12, .int .i64 ((L.length : Int) + 1), .slice A L.length c] 27 (0, 0)) ∧ W.heap[p3]? = some (.cells #[.int .i64 0, .int .i64 0, .slice none 0 0] 27 (0, 0)) ∧ RefF w0 W (fun k => S k ∨ k = p7 ∨ k = p3) L A rs ∧ w0.heap.size ≤ p7 ∧ p3 ≠ p7
theorem MInv.below {w0 W W1 : World} {bt p3 p7 : Nat} {L : List Ins} (h : MInv w0 W bt p3 p7 L) (hb : Below W.heap.size W W1) : MInv w0 W1 bt p3 p7 L := by
  obtain ⟨s, S, rs, A, c, h1, h2, h3, h4, h5, h6⟩ := h.out
  refine ⟨s, S, rs, A, c, h1.kept (below_then h1.below h1.below.size hb) (fun k hk => hb.block k (h1.typed hk).2.1), (hb.block _ (heap_lt_of h2)).trans h2, (hb.block _ (heap_lt_of h3)).trans h3, h4.kept (Kept.of_below hb _) (fun k hk => .inl hk), h5, h6⟩
theorem MInv.tab {w0 W : World} {bt p3 p7 : Nat} {L : List Ins} (h : MInv w0 W bt p3 p7 L) : Below w0.heap.size w0 W := by
  obtain ⟨s, S, rs, A, c, h1, _⟩ := h.out
  exact h1.below
/-- Behind an instance more. -/
theorem ref_added {w0 W W2 : World} {S : Nat → Prop} {L : List Ins} {A A2 : Option Addr} {c2 : Nat} {rs : List Raw} {x : Ins} {r : Raw} (h : RefF w0 W S L A rs) (hS : ∀ k, S k → k < W.heap.size) (hb : Below W.heap.size W W2) (hR : kI.R 94 W2 W.heap.size (fun _ => True) (.slice A2 (rs ++ [r]).length c2) (rs ++ [r]))
    (hr : r.id = (L.length : Int) + 1 ∧ r.sp = x.sp ∧ r.sy = x.sy ∧ r.vd = x.vd ∧ r.gl = x.gl ∧ r.s.2.1 = x.syms.length ∧ x.syms.length ≤ r.s.2.2 ∧ k76.C w0 r.s.1 x.syms.length x.syms ∧ r.n = (none, 0, 0) ∧ x.needs = []) : RefF w0 W2 S (L ++ [x]) A2 (rs ++ [r]) := by
  have hk := Kept.of_below hb S
  refine ⟨by simp [h.len], fun _ => ?_, fun W' hk' => ?_, fun k y q hy hq => ?_⟩
  · obtain ⟨g, cap, e, _⟩ := Kd.R_form hR (by simp)
    injection e with e
    exact ⟨g, e⟩
  · exact Kd.C_kept_own (Kd.R_mono (Kd.R_bound hR) (fun k hk => hk.2.1)) (ok := fun k => W.heap.size ≤ k) (fun k hk hs => by have := hS k hs; omega) W' hk'
  · by_cases hkl : k < L.length
    · rw [List.getElem?_append_left hkl] at hy
      rw [List.getElem?_append_left (by rw [h.len]; exact hkl)] at hq
      exact (h.kept hk (fun k hk => .inl hk)).ins k y q hy hq
    · have hkk : k = L.length := by
        have := (List.getElem?_eq_some_iff.1 hy).1
        simp at this; omega
      subst hkk
      rw [List.getElem?_append_right (Nat.le_refl _)] at hy
      rw [List.getElem?_append_right (by rw [h.len]; exact Nat.le_refl _)] at hq
      simp [h.len] at hy hq
      subst hy; subst hq
      obtain ⟨a1, a2, a3, a4, a5, a6, a7, a8, a9, a10⟩ := hr
      rw [a9, a10]
      exact ⟨a1, a2, a3, a4, a5, a6, a7, a8, rfl, Nat.zero_le _, fun W' _ => Kd.C_nil _ _⟩
/-- Behind a need more. -/
theorem ref_needed {w0 W W2 : World} {S : Nat → Prop} {L : List Ins} {A A2 : Option Addr} {c2 : Nat} {rs : List Raw} {i o : Nat} {x : Ins} {r : Raw} {hd : Option Addr × Nat × Nat} (h : RefF w0 W S L A rs) (hi : L[i]? = some x) (hri : rs[i]? = some r) (hS : ∀ k, S k → k < W.heap.size) (hb : Below W.heap.size W W2)
    (hR : kI.R 94 W2 W.heap.size (fun _ => True) (.slice A2 (rs.set i { r with n := hd }).length c2) (rs.set i { r with n := hd })) (hN : (Kd.int .i64).R 3 W2 W.heap.size (fun _ => True) (sl hd) (x.needs ++ [(o : Int) + 1])) : RefF w0 W2 S (moreNeed L i o) A2 (rs.set i { r with n := hd }) := by
  have hk := Kept.of_below hb S
  have hil := (List.getElem?_eq_some_iff.1 hi).1
  refine ⟨by rw [List.length_set, moreNeed_len, h.len], fun _ => ?_, fun W' hk' => ?_, fun k y q hy hq => ?_⟩
  · obtain ⟨g, cap, e, _⟩ := Kd.R_form hR (by rw [List.length_set, h.len]; omega)
    injection e with e
    exact ⟨g, e⟩
  · exact Kd.C_kept_own (Kd.R_mono (Kd.R_bound hR) (fun k hk => hk.2.1)) (ok := fun k => W.heap.size ≤ k) (fun k hk hs => by have := hS k hs; omega) W' hk'
  · have hm := moreNeed_at hy hil
    by_cases hki : k = i
    · rw [if_pos hki] at hm
      obtain ⟨z, hz, rfl⟩ := hm
      subst hki
      rw [hi] at hz
      injection hz with hz
      subst hz
      rw [List.getElem?_set_self (by rw [h.len]; exact hil)] at hq
      injection hq with hq
      subst hq
      obtain ⟨a1, a2, a3, a4, a5, a6, a7, a8, a9, a10, a11⟩ := h.ins k x r hi hri
      obtain ⟨nA, nl, nc⟩ := hd
      obtain ⟨A', c', e⟩ := Kd.R_slice hN
      have e' : Value.slice nA nl nc = .slice A' (x.needs ++ [(o : Int) + 1]).length c' := e
      injection e' with e1 e2 e3
      subst e1; subst e3
      have hN' : (Kd.int .i64).R 3 W2 W.heap.size (fun _ => True) (.slice nA (x.needs ++ [(o : Int) + 1]).length nc) (x.needs ++ [(o : Int) + 1]) := by rw [← e2]; exact hN
      exact ⟨a1, a2, a3, a4, a5, a6, a7, a8, e2, (Kd.R_reads' hN').2.1, fun W' hk' => Kd.C_kept_own (Kd.R_mono (Kd.R_bound hN') (fun k hk => hk.2.1)) (ok := fun k => W.heap.size ≤ k) (fun k hk hs => by have := hS k hs; omega) W' hk'⟩
    · rw [if_neg hki] at hm
      rw [List.getElem?_set_ne (Ne.symm hki)] at hq
      exact (h.kept hk (fun k hk => .inl hk)).ins k y q hm hq
end Go.Proofs.Ytmcihkfbgcfccaa.H
