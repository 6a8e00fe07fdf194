import Derived.Test.YtkikbbmgibgamaaHMake
import Derived.Test.YtkikbbmgibgamaaZ9
namespace Go.Proofs.Ytkikbbmgibgamaa.Z
open Go.RowKit Go.Proofs.Ytkikbbmgibgamaa.H Go.Proofs.YtkikbbmgibgamaaW.PrintWords Go.Proofs.YtkikbbmgibgamaaW.PrintLast Go.Proofs.YtkikbbmgibgamaaW.PrintMore
set_option linter.unusedVariables false
set_option linter.unusedSimpArgs false

theorem w64 {n : Int} (h0 : -9223372036854775808 ≤ n) (h : n ≤ 9223372036854775807) : wrap64 n = n := by unfold wrap64; omega
theorem wu64 {n : Int} (h0 : 0 ≤ n) (h : n ≤ 18446744073709551615) : IntKind.u64.wrap n = n := by
  have : IntKind.u64.wrap n = n % 18446744073709551616 := by simp [IntKind.wrap, IntKind.signed, IntKind.bits]
  rw [this]; omega
theorem tdiv_pos {n : Int} (h : 0 ≤ n) : Int.tdiv n 256 = n / 256 := Int.tdiv_eq_ediv_of_nonneg h
theorem tmod_pos {n : Int} (h : 0 ≤ n) : Int.tmod n 256 = n % 256 := Int.tmod_eq_emod_of_nonneg h

theorem put_l0 (c : Nat) (hc : c ≤ 1000) : ∀ (j : Nat) (n : Int) (xs : List Int) (k : Nat), j ≤ c → 0 ≤ n → n ≤ 18446744073709551615 → xs.length + (c - j) ≤ 140737488355328 → c - j < k →
    messuageref02_Put.l0 k xs n c j = some (xs ++ leB (c - j) n) := by
  intro j
  induction hd : c - j generalizing j with
  | zero =>
    intro n xs k hj h0 h1 hl hk
    obtain ⟨k, rfl⟩ : ∃ m, k = m + 1 := ⟨k - 1, by omega⟩
    have : j = c := by omega
    simp only [messuageref02_Put.l0]
    rw [if_neg (by omega)]
    simp [leB]
  | succ d ih =>
    intro n xs k hj h0 h1 hl hk
    obtain ⟨k, rfl⟩ : ∃ m, k = m + 1 := ⟨k - 1, by omega⟩
    simp only [messuageref02_Put.l0]
    rw [if_pos (by omega), if_pos (by omega), tmod_pos h0, tdiv_pos h0, wu64 (by omega) (by omega), w64 (by omega) (by omega), Int.emod_emod_of_dvd _ (by decide)]
    have := ih (j + 1) (by omega) (n / 256) (xs ++ [n % 256]) k (by omega) (by omega) (by omega) (by
      rw [List.length_append]; simp only [List.length_singleton]; omega) (by omega)
    rw [show ((j : Int) + 1) = ((j + 1 : Nat) : Int) by omega, this, leB, List.append_assoc]
    rfl

theorem put_f (c : Nat) (hc : c ≤ 1000) (n : Int) (xs : List Int) (k : Nat) (h0 : 0 ≤ n) (h1 : n ≤ 18446744073709551615) (hl : xs.length + c ≤ 140737488355328) (hk : c < k) : messuageref02_Put.f k xs n c = some (xs ++ leB c n) := by
  have := put_l0 c hc 0 n xs k (by omega) h0 h1 (by omega) (by omega)
  simpa [messuageref02_Put.f] using this
/-- The numbers as so many bytes each. -/
def flat (c : Nat) (l : List Int) : List Int := l.flatMap (leB c)
theorem flat_cons (c : Nat) (x : Int) (l : List Int) : flat c (x :: l) = leB c x ++ flat c l := by simp [flat]
theorem flat_length (c : Nat) (l : List Int) : (flat c l).length = c * l.length := by
  induction l with
  | nil => simp [flat]
  | cons x l ih => simp only [flat, List.flatMap_cons, List.length_append, leB_length, List.length_cons] at *; rw [ih, Nat.mul_succ]; omega
theorem put4_l0 (l1 : List Int) (hb : ∀ x ∈ l1, 0 ≤ x ∧ x ≤ 18446744073709551615) (hl1 : l1.length ≤ 1000) : ∀ (d j : Nat) (xs : List Int) (k : Nat), l1.length - j = d → j ≤ l1.length → xs.length + 4 * d ≤ 140737488355328 → d + 10 < k →
    messuageref07_put4.l0 k xs l1 j = some (xs ++ flat 4 (l1.drop j)) := by
  intro d
  induction d with
  | zero =>
    intro j xs k hd hj hl hk
    obtain ⟨k, rfl⟩ : ∃ m, k = m + 1 := ⟨k - 1, by omega⟩
    simp only [messuageref07_put4.l0]
    rw [if_neg (by omega), List.drop_of_length_le (by omega)]
    simp [flat]
  | succ d ih =>
    intro j xs k hd hj hl hk
    obtain ⟨k, rfl⟩ : ∃ m, k = m + 1 := ⟨k - 1, by omega⟩
    have hlt : j < l1.length := by omega
    have hrd : rd l1 (j : Int) = l1[j] := by simp [rd, List.getElem?_eq_getElem hlt]
    have hbj := hb _ (List.getElem_mem hlt)
    simp only [messuageref07_put4.l0]
    rw [if_pos (by omega), if_pos (by omega), hrd, show (4 : Int) = ((4 : Nat) : Int) from rfl, put_f 4 (by omega) _ xs k hbj.1 hbj.2 (by omega) (by omega)]
    simp only [Option.bind_some]
    rw [w64 (by omega) (by omega), show ((j : Int) + 1) = ((j + 1 : Nat) : Int) by omega, ih (j + 1) _ k (by omega) (by omega) (by rw [List.length_append, leB_length]; omega) (by omega), List.drop_eq_getElem_cons hlt, flat_cons, List.append_assoc]
theorem put2_l0 (l1 : List Int) (hb : ∀ x ∈ l1, 0 ≤ x ∧ x ≤ 18446744073709551615) (hl1 : l1.length ≤ 1000) : ∀ (d j : Nat) (xs : List Int) (k : Nat), l1.length - j = d → j ≤ l1.length → xs.length + 2 * d ≤ 140737488355328 → d + 10 < k →
    messuageref07_put.l0 k xs l1 j = some (xs ++ flat 2 (l1.drop j)) := by
  intro d
  induction d with
  | zero =>
    intro j xs k hd hj hl hk
    obtain ⟨k, rfl⟩ : ∃ m, k = m + 1 := ⟨k - 1, by omega⟩
    simp only [messuageref07_put.l0]
    rw [if_neg (by omega), List.drop_of_length_le (by omega)]
    simp [flat]
  | succ d ih =>
    intro j xs k hd hj hl hk
    obtain ⟨k, rfl⟩ : ∃ m, k = m + 1 := ⟨k - 1, by omega⟩
    have hlt : j < l1.length := by omega
    have hrd : rd l1 (j : Int) = l1[j] := by simp [rd, List.getElem?_eq_getElem hlt]
    have hbj := hb _ (List.getElem_mem hlt)
    simp only [messuageref07_put.l0]
    rw [if_pos (by omega), if_pos (by omega), hrd, show (2 : Int) = ((2 : Nat) : Int) from rfl, put_f 2 (by omega) _ xs k hbj.1 hbj.2 (by omega) (by omega)]
    simp only [Option.bind_some]
    rw [w64 (by omega) (by omega), show ((j : Int) + 1) = ((j + 1 : Nat) : Int) by omega, ih (j + 1) _ k (by omega) (by omega) (by rw [List.length_append, leB_length]; omega) (by omega), List.drop_eq_getElem_cons hlt, flat_cons, List.append_assoc]
theorem zeros_l0 (n : Nat) : ∀ (d j : Nat) (xs : List Int) (k : Nat), n - j = d → j ≤ n → n ≤ 262144 → xs.length + d ≤ 140737488355328 → d < k →
    messuageref02_Zeros.l0 k xs n j = some (xs ++ List.replicate d 0) := by
  intro d
  induction d with
  | zero =>
    intro j xs k hd hj hn hl hk
    obtain ⟨k, rfl⟩ : ∃ m, k = m + 1 := ⟨k - 1, by omega⟩
    simp only [messuageref02_Zeros.l0]
    rw [if_neg (by omega)]
    simp
  | succ d ih =>
    intro j xs k hd hj hn hl hk
    obtain ⟨k, rfl⟩ : ∃ m, k = m + 1 := ⟨k - 1, by omega⟩
    simp only [messuageref02_Zeros.l0]
    rw [if_pos (by omega), if_pos (by omega), w64 (by omega) (by omega), show ((j : Int) + 1) = ((j + 1 : Nat) : Int) by omega, ih (j + 1) _ k (by omega) (by omega) hn (by rw [List.length_append]; simp only [List.length_singleton]; omega) (by omega), List.replicate_succ, List.append_assoc]
    rfl
theorem zeros_f (n : Nat) (xs : List Int) (k : Nat) (hn : n ≤ 262144) (hl : xs.length + n ≤ 140737488355328) (hk : n + 1 < k) : messuageref02_Zeros.f k xs n = some (xs ++ List.replicate n 0) := by
  obtain ⟨k, rfl⟩ : ∃ m, k = m + 1 := ⟨k - 1, by omega⟩
  rw [messuageref02_Zeros.f, if_neg (by omega), messuageref02_Zeros.j0]
  exact zeros_l0 n n 0 xs k (by omega) (by omega) hn hl (by omega)

/-- Two rows of bytes of the call's own, apart. -/
structure Rows2 (W0 W : World) (vb vc : Value) (b c : List Int) : Prop where
  b : (Kd.int .u8).R 5 W W0.heap.size (fun _ => True) vb b
  c : (Kd.int .u8).R 5 W W0.heap.size (fun _ => True) vc c
  ne : ∀ k, vb.ownBlock = some k → vc.ownBlock = some k → False
  down : Below W0.heap.size W0 W
theorem Rows2.symm {W0 W : World} {vb vc : Value} {b c : List Int} (h : Rows2 W0 W vb vc b c) : Rows2 W0 W vc vb c b := ⟨h.c, h.b, fun k x y => h.ne k y x, h.down⟩
theorem Rows2.below {W0 W W1 : World} {vb vc : Value} {b c : List Int} (h : Rows2 W0 W vb vc b c) (hb : Below W.heap.size W W1) : Rows2 W0 W1 vb vc b c :=
  ⟨Kd.R_below h.b hb, Kd.R_below h.c hb, h.ne, h.down.trans ⟨hb.os, hb.tape, hb.output, hb.size, fun k hk => hb.block k (Nat.lt_of_lt_of_le hk h.down.size)⟩⟩
/-- Blocks of another type stay. -/
def KeepU (w w' : World) : Prop := ∀ (b t : Nat) (cs : Array Value) (fr : Nat × Nat), w.heap[b]? = some (.cells cs t fr) → t ≠ 5 → w'.heap[b]? = some (.cells cs t fr)
theorem Rows2.put {W0 W W' : World} {vb vb' vc : Value} {b b' c : List Int} (h : Rows2 W0 W vb vc b c) {ok : Nat → Prop} (ho : (Kd.int .u8).R 5 W' W0.heap.size ok vb' b') (hk : Kept W W' (fun k => some k = vb.ownBlock))
    (hB : Below W0.heap.size W0 W') (hat : ∀ k, vb'.ownBlock = some k → vb.ownBlock = some k ∨ W.heap.size ≤ k) : Rows2 W0 W' vb' vc b' c ∧ KeepU W W' := by
  refine ⟨⟨Kd.R_mono ho (fun _ _ => trivial), ?_, fun k x y => ?_, hB⟩, fun bb t cs fr hb ht => blk_kept hb hk (fun he => ?_)⟩
  · have := Kd.R_mono (ok' := fun k => vc.ownBlock = some k) (Kd.R_tight rfl h.c) (fun k hk => hk.symm)
    exact Kd.R_mono (Kd.R_kept this hk (fun k hk he => h.ne k he.symm hk)) (fun _ _ => trivial)
  · rcases hat k x with hk | hk
    · exact h.ne k hk y
    · have := Kd.R_lt h.c k y
      omega
  · obtain ⟨cells, hc⟩ := Kd.R_typed h.b bb he.symm
    rw [hc] at hb
    injection hb with hb
    injection hb with _ hb _
    exact ht hb.symm
/-- A literal slice of numbers, laid ahead of a call. -/
theorem lit_C (w : World) (l : List Int) (hl : l.length ≤ 1000) : ∀ W_, (∀ o, W_.heap[w.heap.size]? = some o ↔ o = .cells (l.map (Value.int .u64)).toArray 28 (0, 0)) → (Kd.int .u64).C W_ (some ⟨w.heap.size, 0, none⟩) l.length l := by
  intro W_ h
  have hb := (h _).2 rfl
  refine Kd.C_of_reads (d := (0 : Int)) (h1 := fun _ => rfl) ⟨rfl, by omega, fun _ => ⟨_, rfl, fun j hj => ?_⟩⟩
  rw [add_plain, blk_cell hb j]
  simp [List.getD_eq_getElem?_getD, List.getElem?_eq_getElem hj]

theorem ref4 {W0 w : World} {vb vc : Value} {b c : List Int} (l : List Int) (h : Rows2 W0 w vb vc b c) (hl : l.length ≤ 100) (hb : ∀ x ∈ l, 0 ≤ x ∧ x ≤ 18446744073709551615) (hlb : b.length + 400 ≤ 140737488355328) :
    Calls Try.prog 30 #[vb, .slice (some ⟨w.heap.size, 0, none⟩) l.length l.length] (w.alloc (.cells (l.map (Value.int .u64)).toArray 28)) fun e w' => ∃ v, e = .returned v ∧ Rows2 W0 w' v vc (b ++ flat 4 l) c ∧ KeepU (w.alloc (.cells (l.map (Value.int .u64)).toArray 28)) w' := by
  have h1 := h.below (below_alloc (Below.refl _ _) (.cells (l.map (Value.int .u64)).toArray 28))
  have hnew := heap_alloc_new w (.cells (l.map (Value.int .u64)).toArray 28)
  have hne : ¬ some w.heap.size = vb.ownBlock := fun he => by have := Kd.R_lt h.b _ he.symm; omega
  refine (messuageref07_put4.calls 200 (fun k => some k = vb.ownBlock) vb b (some ⟨w.heap.size, 0, none⟩) l.length l (b ++ flat 4 l) W0 _ h1.down (Kd.R_tight rfl h1.b) ?_ (Nat.le_refl _) ?_).mono ?_
  · intro W_ hk
    exact lit_C w l (by omega) W_ (fun o => by rw [blk_kept hnew hk hne]; simp [eq_comm])
  · have := put4_l0 l hb (by omega) l.length 0 b 200 (by omega) (by omega) (by omega) (by omega)
    simpa [messuageref07_put4.f] using this
  · rintro e w' ⟨v, rfl, ho, hB, hk⟩
    obtain ⟨z1, z2⟩ := h1.put ho hk hB (fun k hk => (ho.1 k hk).imp (fun h => h.symm) (fun h => h))
    exact ⟨v, rfl, z1, z2⟩
theorem ref2 {W0 w : World} {vb vc : Value} {b c : List Int} (l : List Int) (h : Rows2 W0 w vb vc b c) (hl : l.length ≤ 100) (hb : ∀ x ∈ l, 0 ≤ x ∧ x ≤ 18446744073709551615) (hlb : b.length + 400 ≤ 140737488355328) :
    Calls Try.prog 31 #[vb, .slice (some ⟨w.heap.size, 0, none⟩) l.length l.length] (w.alloc (.cells (l.map (Value.int .u64)).toArray 28)) fun e w' => ∃ v, e = .returned v ∧ Rows2 W0 w' v vc (b ++ flat 2 l) c ∧ KeepU (w.alloc (.cells (l.map (Value.int .u64)).toArray 28)) w' := by
  have h1 := h.below (below_alloc (Below.refl _ _) (.cells (l.map (Value.int .u64)).toArray 28))
  have hnew := heap_alloc_new w (.cells (l.map (Value.int .u64)).toArray 28)
  have hne : ¬ some w.heap.size = vb.ownBlock := fun he => by have := Kd.R_lt h.b _ he.symm; omega
  refine (messuageref07_put.calls 200 (fun k => some k = vb.ownBlock) vb b (some ⟨w.heap.size, 0, none⟩) l.length l (b ++ flat 2 l) W0 _ h1.down (Kd.R_tight rfl h1.b) ?_ (Nat.le_refl _) ?_).mono ?_
  · intro W_ hk
    exact lit_C w l (by omega) W_ (fun o => by rw [blk_kept hnew hk hne]; simp [eq_comm])
  · have := put2_l0 l hb (by omega) l.length 0 b 200 (by omega) (by omega) (by omega) (by omega)
    simpa [messuageref07_put.f] using this
  · rintro e w' ⟨v, rfl, ho, hB, hk⟩
    obtain ⟨z1, z2⟩ := h1.put ho hk hB (fun k hk => (ho.1 k hk).imp (fun h => h.symm) (fun h => h))
    exact ⟨v, rfl, z1, z2⟩
theorem refZ {W0 w : World} {vb vc : Value} {b c : List Int} (n : Nat) (h : Rows2 W0 w vb vc b c) (hn : n ≤ 262144) (hlb : b.length + 262144 ≤ 140737488355328) :
    Calls Try.prog 32 #[vb, .int .i64 n] w fun e w' => ∃ v, e = .returned v ∧ Rows2 W0 w' v vc (b ++ List.replicate n 0) c ∧ KeepU w w' := by
  refine (messuageref02_Zeros.calls (n + 2) (fun k => some k = vb.ownBlock) vb b n (b ++ List.replicate n 0) W0 _ h.down (Kd.R_tight rfl h.b) (zeros_f n b (n + 2) hn (by omega) (by omega))).mono ?_
  rintro e w' ⟨v, rfl, ho, hB, hk⟩
  obtain ⟨z1, z2⟩ := h.put ho hk hB (fun k hk => (ho.1 k hk).imp (fun h => h.symm) (fun h => h))
  exact ⟨v, rfl, z1, z2⟩
theorem refZ2 {W0 w : World} {vb vc : Value} {b c : List Int} (p : Int) (h : Rows2 W0 w vb vc b c) (hp0 : 0 ≤ p) (hn : p ≤ 262144) (hlb : b.length + 262144 ≤ 140737488355328) :
    Calls Try.prog 32 #[vb, .int .i64 p] w fun e w' => ∃ v, e = .returned v ∧ Rows2 W0 w' v vc (b ++ List.replicate p.toNat 0) c ∧ KeepU w w' := by
  obtain ⟨n, rfl⟩ := Int.eq_ofNat_of_zero_le hp0
  exact refZ n h (by omega) hlb
theorem Rows2.grown {W0 W W' : World} {vb vb' vc : Value} {b b' c : List Int} (h : Rows2 W0 W vb vc b c) (ho : (Kd.int .u8).R 5 W' W0.heap.size (fun _ => True) vb' b')
    (hb : Below W0.heap.size W0 W') (hg : W.grownBy W' vb.ownBlock) (hat : vb'.ownBlock = vb.ownBlock ∨ ∃ k, vb'.ownBlock = some k ∧ W.heap.size ≤ k) : Rows2 W0 W' vb' vc b' c ∧ KeepU W W' := by
  refine h.put ho (Kept.of_grown hg (Kept.refl _ _) (fun k hk => .inl hk.symm)) hb (fun k hk => ?_)
  rcases hat with hat | ⟨j, hj, hle⟩
  · exact .inl (hat ▸ hk)
  · rw [hj] at hk
    injection hk with hk
    exact .inr (by omega)
end Go.Proofs.Ytkikbbmgibgamaa.Z
