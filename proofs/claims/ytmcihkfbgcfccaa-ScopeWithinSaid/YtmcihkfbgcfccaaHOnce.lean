/- scope.once: things, each once. -/
import Derived.Test.YtmcihkfbgcfccaaHGlob
import Derived.WalkSpells
namespace Go.Proofs.Ytmcihkfbgcfccaa.H
open Go.RowKit Go.Proofs.Ytmcihkfbgcfccaa.Z Go.Proofs.YtmcihkfbgcfccaaW.PrintWords Go.Proofs.YtmcihkfbgcfccaaW.PrintLast Go.Proofs.YtmcihkfbgcfccaaW.PrintMore
set_option linter.unusedVariables false
set_option linter.unusedSimpArgs false
theorem wpList_seen {w : World} {ops : Array Oper} {rest : List Oper} {o : Oper} {a : Act} {Q : Exit → Act → World → Prop}
    (hg : o.guard = none) (m x v : Operand) (hop : o.op = Op.mapUpdate 103 m x v) (b : Nat) (xs : List Int) (id : Int)
    (hm : a.eval m = .map (some b)) (hx : a.eval x = .int .i64 id) (hv : a.eval v = .agg #[]) (h : SeenMap w b xs) (hw : (Lit.int .i64 id).wf = true) (hl : xs.length < 1000000)
    (hK : ∀ w', SeenMap w' b (xs ++ [id]) → w.grownBy w' (some b) → wpList Try.prog ops Q rest (a.put o.dst undef) w') :
    wpList Try.prog ops Q (o :: rest) a w := by
  refine wpList_plain hg fun K' hK' => ?_
  obtain ⟨w', hrun, r1, r2⟩ := h.update hw hl
  unfold Oper.wp
  simp [execOp, hop, hm, hx, hv, hrun, Result.andThen]
  exact hK' _ _ (hK w' r1 r2)
/-- Things, each once, in the order in which they came: a block of the call's own. -/
structure OnceW (B : Nat) (W : World) (bo : Nat) (xs : List Int) : Prop where
  out : ∃ v mv, W.heap[bo]? = some (.cells #[v, mv] 105 (0, 0)) ∧ B ≤ bo ∧ (Kd.int .i64).R 3 W B (fun _ => True) v xs ∧ ((mv = .map none ∧ xs = []) ∨ ∃ bm, mv = .map (some bm) ∧ SeenMap W bm xs ∧ B ≤ bm)
/-- .. with its row shown. -/
structure OnceV (B : Nat) (W : World) (bo : Nat) (v : Value) (xs : List Int) : Prop where
  out : ∃ mv, W.heap[bo]? = some (.cells #[v, mv] 105 (0, 0)) ∧ B ≤ bo ∧ (Kd.int .i64).R 3 W B (fun _ => True) v xs ∧ ((mv = .map none ∧ xs = []) ∨ ∃ bm, mv = .map (some bm) ∧ SeenMap W bm xs ∧ B ≤ bm)
/-- What one thing more turns: the block, its row, its map. -/
structure OnceStep (w w' : World) (bo : Nat) (v v' : Value) : Prop where
  size : w.heap.size ≤ w'.heap.size
  keep : ∀ k, k < w.heap.size → k ≠ bo → some k ≠ v.ownBlock → (∀ es c, w.heap[k]? ≠ some (.map es c)) → w'.heap[k]? = w.heap[k]?
  row : ∀ k, v'.ownBlock = some k → v.ownBlock = some k ∨ w.heap.size ≤ k
theorem OnceW.below {B : Nat} {W W1 : World} {bo : Nat} {xs : List Int} (h : OnceW B W bo xs) (hb : Below W.heap.size W W1) : OnceW B W1 bo xs := by
  obtain ⟨v, mv, h1, h2, h3, h4⟩ := h.out
  refine ⟨v, mv, (hb.block bo (heap_lt_of h1)).trans h1, h2, Kd.R_below h3 hb, ?_⟩
  rcases h4 with h4 | ⟨bm, rfl, hm, hle⟩
  · exact .inl h4
  · obtain ⟨D, g1, ⟨es, clock, g2, g3⟩, g4⟩ := hm
    exact .inr ⟨bm, rfl, ⟨D, g1, ⟨es, clock, (hb.block bm (heap_lt_of g2)).trans g2, g3⟩, g4⟩, hle⟩
theorem OnceV.below {B : Nat} {W W1 : World} {bo : Nat} {v : Value} {xs : List Int} (h : OnceV B W bo v xs) (hb : Below W.heap.size W W1) : OnceV B W1 bo v xs := by
  obtain ⟨mv, h1, h2, h3, h4⟩ := h.out
  refine ⟨mv, (hb.block bo (heap_lt_of h1)).trans h1, h2, Kd.R_below h3 hb, ?_⟩
  rcases h4 with h4 | ⟨bm, rfl, hm, hle⟩
  · exact .inl h4
  · obtain ⟨D, g1, ⟨es, clock, g2, g3⟩, g4⟩ := hm
    exact .inr ⟨bm, rfl, ⟨D, g1, ⟨es, clock, (hb.block bm (heap_lt_of g2)).trans g2, g3⟩, g4⟩, hle⟩
/-- The row, where a block of another kind has turned. -/
theorem row_far {B : Nat} {W W1 : World} {v : Value} {xs : List Int} (h : (Kd.int .i64).R 3 W B (fun _ => True) v xs) {g : Nat} (hg : ∀ cells, W.heap[g]? ≠ some (.cells cells 3 (0, 0))) (hm : ∀ k, k ≠ g → k < W.heap.size → W1.heap[k]? = W.heap[k]?) :
    (Kd.int .i64).R 3 W1 B (fun _ => True) v xs := by
  refine Kd.R_mono (Kd.R_step (Kd.R_mono (ok' := fun k => k ≠ g) (Kd.R_bound h) (fun k hk he => ?_)) (fun k hk hlt => hm k hk hlt)) (fun _ _ => trivial)
  obtain ⟨_, _, _, q, hq, cells, hc⟩ := hk
  subst he
  have hq : q = 3 := by simpa [Kd.int, Kd.scalar] using hq
  subst hq
  exact hg _ hc
theorem add_end {B : Nat} {W0 w2 w3 : World} {bo bm : Nat} {v v3 : Value} {xs : List Int} {x : Int} (h2 : w2.heap[bo]? = some (.cells #[v, .map (some bm)] 105 (0, 0))) (hbo : B ≤ bo) (hs : SeenMap w2 bm (xs ++ [x])) (hbm : B ≤ bm)
    (hr : (Kd.int .i64).R 3 w2 B (fun _ => True) v xs) (ho : (Kd.int .i64).R 3 w3 B (fun _ => True) v3 (xs ++ [x])) (hB : Below B W0 w3) (hg : w2.grownBy w3 v.ownBlock) :
    OnceV B (w3.setCell ⟨bo, 0, none⟩ v3) bo v3 (xs ++ [x]) ∧ Below B W0 (w3.setCell ⟨bo, 0, none⟩ v3) := by
  have hne : some bo ≠ v.ownBlock := Kd.R_ne hr h2 (by decide)
  have h3 : w3.heap[bo]? = some (.cells #[v, .map (some bm)] 105 (0, 0)) := blk_grown h2 hg hne
  refine ⟨⟨.map (some bm), by simpa using blk_set h3 0 v3, hbo, ?_, .inr ⟨bm, rfl, ?_, hbm⟩⟩, hB.setCell (p := ⟨bo, 0, none⟩) hbo v3⟩
  · exact row_far ho (g := bo) (fun cells hc => by rw [h3] at hc; injection hc with hc; injection hc with _ hc _; exact absurd hc (by decide)) (fun k hk _ => Below.heap_setCell w3 ⟨bo, 0, none⟩ v3 k hk)
  · obtain ⟨D, g1, ⟨es, clock, g2, g3⟩, g4⟩ := hs
    have n1 : some bm ≠ v.ownBlock := fun e => by
      obtain ⟨cells, hc⟩ := Kd.R_typed hr bm e.symm
      rw [g2] at hc
      injection hc with hc
      cases hc
    have n2 : bm ≠ bo := fun e => by subst e; rw [g2] at h2; injection h2 with h2; cases h2
    exact ⟨D, g1, ⟨es, clock, (Below.heap_setCell w3 ⟨bo, 0, none⟩ v3 bm n2).trans (blk_grown g2 hg n1), g3⟩, g4⟩
theorem step_end {w w1 w2 w3 : World} {bo bm : Nat} {v v3 : Value} (h1 : w.heap.size ≤ w1.heap.size) (k1 : ∀ k, k < w.heap.size → k ≠ bo → w1.heap[k]? = w.heap[k]?) (hbm : ∀ k, k < w.heap.size → k = bm → ∃ es c, w.heap[k]? = some (.map es c))
    (hg2 : w1.grownBy w2 (some bm)) (hg : w2.grownBy w3 v.ownBlock) (hat : v3.ownBlock = v.ownBlock ∨ ∃ b, v3.ownBlock = some b ∧ w2.heap.size ≤ b) : OnceStep w (w3.setCell ⟨bo, 0, none⟩ v3) bo v v3 := by
  have s2 := hg2.size
  have s3 := hg.size
  refine ⟨?_, fun k hk h1' h2 h3 => ?_, fun k hk => ?_⟩
  · rw [World.size_setCell]; omega
  · rw [Below.heap_setCell w3 ⟨bo, 0, none⟩ v3 k h1', hg.block k (by omega) h2, hg2.block k (by omega) (fun e => by injection e with e; obtain ⟨es, c, hm⟩ := hbm k hk e; exact h3 es c hm), k1 k hk h1']
  · rcases hat with hat | ⟨b, hb, hle⟩
    · exact .inl (hat ▸ hk)
    · rw [hb] at hk
      injection hk with hk
      exact .inr (by omega)
set_option maxRecDepth 100000 in
set_option maxHeartbeats 1000000 in
/-- (*once[int]).add, where the map is there. -/
theorem add_calls1 (W0 w : World) (bo bm : Nat) (v : Value) (xs : List Int) (x : Int) (hb : w.heap[bo]? = some (.cells #[v, .map (some bm)] 105 (0, 0))) (hbo : W0.heap.size ≤ bo) (hr : (Kd.int .i64).R 3 w W0.heap.size (fun _ => True) v xs) (hs : SeenMap w bm xs) (hbm : W0.heap.size ≤ bm)
    (hB : Below W0.heap.size W0 w) (hw : (Lit.int .i64 x).wf = true) (hl : xs.length < 100000) :
    Calls Try.prog 33 #[.pointer (some ⟨bo, 0, none⟩), .int .i64 x] w fun e w' => e = .returned (.bool (!decide (x ∈ xs))) ∧ ∃ v', OnceV W0.heap.size w' bo v' (if x ∈ xs then xs else xs ++ [x]) ∧ OnceStep w w' bo v v' ∧ Below W0.heap.size W0 w' := by
  have hrun := hs.lookup hw
  have hc1 : w.cell? ⟨bo, 1, none⟩ = some (.map (some bm)) := (blk_cell hb 1).trans rfl
  have hE := fun w => run_eql_map_nil (P := Try.prog) w 103 3 118 (some bm) Try.underlying103
  have HB := Aside0.mk hB
  have HR := Aside0.mk hr
  have HS := Aside0.mk hs
  have HBL := Aside0.mk hb
  clear hB hr hs hb
  by_cases hx : x ∈ xs
  · have d1 : decide (x ∈ xs) = true := decide_eq_true hx
    rw [d1] at hrun ⊢
    rw [if_pos hx]
    clear hE
    go_enter Try.func33, Try.ntmps33
    go_wp2
    go_ret
    exact ⟨rfl, v, OnceV.below ⟨.map (some bm), HBL.out, hbo, HR.out, .inr ⟨bm, rfl, HS.out, hbm⟩⟩ (below_alloc (Below.refl _ _) _), ⟨by rw [World.size_alloc]; omega, fun k hk _ _ _ => Below.heap_alloc _ _ _ hk, fun k hk => .inl hk⟩, HB.out.alloc HB.out.size _⟩
  · have d1 : decide (x ∈ xs) = false := decide_eq_false hx
    rw [d1] at hrun ⊢
    rw [if_neg hx]
    have hba : (w.alloc (.cells #[] 118)).heap[bo]? = some (.cells #[v, .map (some bm)] 105 (0, 0)) := by rw [Below.heap_alloc _ _ _ (heap_lt_of HBL.out)]; exact HBL.out
    have hc2 : (w.alloc (.cells #[] 118)).cell? ⟨bo, 1, none⟩ = some (.map (some bm)) := (blk_cell hba 1).trans rfl
    have HSA := Aside0.mk (HS.out.kept (w' := w.alloc (.cells #[] 118)) (Below.heap_alloc _ _ _ (by obtain ⟨D, g1, ⟨es, clock, g2, g3⟩, g4⟩ := HS.out; exact heap_lt_of g2)))
    have HRA := Aside0.mk (Kd.R_alloc HR.out (.cells #[] 118))
    have HBA := Aside0.mk (HB.out.alloc HB.out.size (.cells #[] 118))
    have HBLA := Aside0.mk hba
    have HMAP : Aside0 (∃ es c, w.heap[bm]? = some (.map es c)) := ⟨by obtain ⟨D, g1, ⟨es, clock, g2, g3⟩, g4⟩ := HS.out; exact ⟨es, clock, g2⟩⟩
    clear hba HR HS HB HBL
    go_enter Try.func33, Try.ntmps33
    go_wp2_with (first
      | (at_mapUpdate; refine wpList_seen rfl (.tmp 29) (.tmp 30) (.tmp 31) rfl bm xs x rfl rfl rfl HSA.out hw (by omega) ?_; intro w2 hs2 hg2; have hb2 := blk_grown HBLA.out hg2 (fun e => by injection e with e; subst e; obtain ⟨D, g1, ⟨es, clock, g2, g3⟩, g4⟩ := HSA.out; have h9 := HBLA.out; rw [g2] at h9; injection h9 with h9; cases h9); have hr2 := row_far HRA.out (W1 := w2) (g := bm) (fun cells hc => by obtain ⟨D, g1, ⟨es, clock, g2, g3⟩, g4⟩ := HSA.out; rw [g2] at hc; injection hc with hc; cases hc) (fun k hk hlt => hg2.block k hlt (fun e => hk (by injection e))); have hB2 := HBA.out.grown hg2 HBA.out.size (fun k e => by cases e; exact hbm); have HS2 := Aside0.mk hs2; have HBL2 := Aside0.mk hb2; have HR2 := Aside0.mk hr2; have HB2 := Aside0.mk hB2; have hz0 := (blk_cell hb2 0).trans rfl; have hsz2 := hB2.size; have HG2 := Aside0.mk hg2; clear hs2 hg2 hb2 hr2 hB2 HSA HBLA HRA HBA hc2 hc1)
      | ((with_reducible refine gate_builtin (b := .append) (xs := #[.tmp 36, .tmp 38]) rfl ?_); at_builtin; refine Kd.R_append (Kd.int .i64) (w0 := W0) W0.heap.size rfl (.tmp 36) (.tmp 38) 31 3 (.int .i64 0) 8 rfl Try.underlying31 info3 rfl (by decide) (by omega) v xs x [.int .i64 x] (fun _ => True) (fun _ => False) rfl rfl ?aP (fun _ hk => hk.elim) ?aF ?aO ?aB ?aS ?aL ?_; (case aP => exact rfl); (case aB => exact HB2.out); (case aF => exact (fun _ _ => trivial)); (case aO => exact HR2.out); (case aS => exact hsz2); (case aL => omega); intro v3 w3 ho hb hg hat; have HE := Aside0.mk (add_end HBL2.out hbo HS2.out hbm HR2.out ho hb hg); have HST := Aside0.mk (step_end (w := w) (bo := bo) (by rw [World.size_alloc]; omega) (fun k hk _ => Below.heap_alloc _ _ _ hk) (fun k hk e => e ▸ HMAP.out) HG2.out hg hat); have hb3 := blk_grown HBL2.out hg (Kd.R_ne HR2.out HBL2.out (by decide)); have hy0 := (blk_cell hb3 0).trans rfl; have hf0 := blk_frozen hb3 0; obtain ⟨A3, c3, rfl⟩ := Kd.R_slice ho; clear ho hb hg hat hb3))
    go_ret
    have hE2 := HE.out
    have hS2 := HST.out
    simp only [List.length_append, List.length_cons, List.length_nil, Nat.zero_add] at hE2 hS2
    exact ⟨rfl, _, hE2.1, hS2, hE2.2⟩
set_option maxRecDepth 100000 in
set_option maxHeartbeats 1000000 in
/-- (*once[int]).add, where nothing has come yet. -/
theorem add_calls0 (W0 w : World) (bo : Nat) (v : Value) (x : Int) (hb : w.heap[bo]? = some (.cells #[v, .map none] 105 (0, 0))) (hbo : W0.heap.size ≤ bo) (hr : (Kd.int .i64).R 3 w W0.heap.size (fun _ => True) v [])
    (hB : Below W0.heap.size W0 w) (hw : (Lit.int .i64 x).wf = true) :
    Calls Try.prog 33 #[.pointer (some ⟨bo, 0, none⟩), .int .i64 x] w fun e w' => e = .returned (.bool true) ∧ ∃ v', OnceV W0.heap.size w' bo v' [x] ∧ OnceStep w w' bo v v' ∧ Below W0.heap.size W0 w' := by
  have hrun := seen_nil w hw
  have d1 : decide (x ∈ ([] : List Int)) = false := by simp
  rw [d1] at hrun
  have hc1 : w.cell? ⟨bo, 1, none⟩ = some (.map none) := (blk_cell hb 1).trans rfl
  have hE := fun w => run_eql_map_nil (P := Try.prog) w 103 3 118 none Try.underlying103
  have hmm := @run_makeMap Try.prog
  obtain ⟨wa, hwa⟩ : ∃ wa, wa = w.alloc (.cells #[] 118) := ⟨_, rfl⟩
  have hba : wa.heap[bo]? = some (.cells #[v, .map none] 105 (0, 0)) := by rw [hwa, Below.heap_alloc _ _ _ (heap_lt_of hb)]; exact hb
  have hra : (Kd.int .i64).R 3 wa W0.heap.size (fun _ => True) v [] := by rw [hwa]; exact Kd.R_alloc hr _
  have hBa : Below W0.heap.size W0 wa := by rw [hwa]; exact hB.alloc hB.size _
  have hbm : (wa.alloc (.map #[] 0)).heap[bo]? = some (.cells #[v, .map none] 105 (0, 0)) := by rw [Below.heap_alloc _ _ _ (heap_lt_of hba)]; exact hba
  have hbs : ((wa.alloc (.map #[] 0)).setCell ⟨bo, 1, none⟩ (.map (some wa.heap.size))).heap[bo]? = some (.cells #[v, .map (some wa.heap.size)] 105 (0, 0)) := by simpa using blk_set hbm 1 (.map (some wa.heap.size))
  have hne : wa.heap.size ≠ bo := fun e => by have := heap_lt_of hba; omega
  have hss : SeenMap ((wa.alloc (.map #[] 0)).setCell ⟨bo, 1, none⟩ (.map (some wa.heap.size))) wa.heap.size [] := (SeenMap.made wa).kept (Below.heap_setCell _ ⟨bo, 1, none⟩ _ _ hne)
  have hrs : (Kd.int .i64).R 3 ((wa.alloc (.map #[] 0)).setCell ⟨bo, 1, none⟩ (.map (some wa.heap.size))) W0.heap.size (fun _ => True) v [] :=
    row_far (Kd.R_alloc hra _) (g := bo) (fun cells hc => by rw [hbm] at hc; injection hc with hc; injection hc with _ hc _; exact absurd hc (by decide)) (fun k hk _ => Below.heap_setCell _ ⟨bo, 1, none⟩ _ k hk)
  have hBs : Below W0.heap.size W0 ((wa.alloc (.map #[] 0)).setCell ⟨bo, 1, none⟩ (.map (some wa.heap.size))) := (hBa.alloc hBa.size _).setCell (p := ⟨bo, 1, none⟩) hbo _
  have hsz : W0.heap.size ≤ wa.heap.size := hBa.size
  have hcs : ((wa.alloc (.map #[] 0)).setCell ⟨bo, 1, none⟩ (.map (some wa.heap.size))).cell? ⟨bo, 1, none⟩ = some (.map (some wa.heap.size)) := (blk_cell hbs 1).trans rfl
  have hca : wa.cell? ⟨bo, 1, none⟩ = some (.map none) := (blk_cell hba 1).trans rfl
  have hcm : (wa.alloc (.map #[] 0)).cell? ⟨bo, 1, none⟩ = some (.map none) := (blk_cell hbm 1).trans rfl
  have hfm : (wa.alloc (.map #[] 0)).frozen? ⟨bo, 1, none⟩ = false := blk_frozen hbm 1
  have hsw : wa.heap.size = w.heap.size + 1 := by rw [hwa, World.size_alloc]
  have hbmle : W0.heap.size ≤ w.heap.size + 1 := by omega
  rw [hsw] at hss hrs hBs hbs hcs
  have HSA := Aside0.mk hss
  have HRA := Aside0.mk hrs
  have HBA := Aside0.mk hBs
  have HBLA := Aside0.mk hbs
  have HWA := Aside0.mk hwa
  clear hb hr hB hba hra hBa hbm hbs hss hrs hBs d1
  subst hwa
  go_enter Try.func33, Try.ntmps33
  go_wp2_with (first
      | (at_mapUpdate; refine wpList_seen rfl (.tmp 29) (.tmp 30) (.tmp 31) rfl (w.heap.size + 1) [] x rfl rfl rfl HSA.out hw (by simp) ?_; intro w2 hs2 hg2; have hb2 := blk_grown HBLA.out hg2 (fun e => by injection e with e; subst e; obtain ⟨D, g1, ⟨es, clock, g2, g3⟩, g4⟩ := HSA.out; have h9 := HBLA.out; rw [g2] at h9; injection h9 with h9; cases h9); have hr2 := row_far HRA.out (W1 := w2) (g := w.heap.size + 1) (fun cells hc => by obtain ⟨D, g1, ⟨es, clock, g2, g3⟩, g4⟩ := HSA.out; rw [g2] at hc; injection hc with hc; cases hc) (fun k hk hlt => hg2.block k hlt (fun e => hk (by injection e))); have hB2 := HBA.out.grown hg2 HBA.out.size (fun k e => by cases e; exact hbmle); have HS2 := Aside0.mk hs2; have HBL2 := Aside0.mk hb2; have HR2 := Aside0.mk hr2; have HB2 := Aside0.mk hB2; have hz0 := (blk_cell hb2 0).trans rfl; have hsz2 := hB2.size; have HG2 := Aside0.mk hg2; clear hs2 hg2 hb2 hr2 hB2 HSA HBLA HRA HBA hc1)
      | ((with_reducible refine gate_builtin (b := .append) (xs := #[.tmp 36, .tmp 38]) rfl ?_); at_builtin; refine Kd.R_append (Kd.int .i64) (w0 := W0) W0.heap.size rfl (.tmp 36) (.tmp 38) 31 3 (.int .i64 0) 8 rfl Try.underlying31 info3 rfl (by decide) (by omega) v [] x [.int .i64 x] (fun _ => True) (fun _ => False) rfl rfl ?aP (fun _ hk => hk.elim) ?aF ?aO ?aB ?aS ?aL ?_; (case aP => exact rfl); (case aB => exact HB2.out); (case aF => exact (fun _ _ => trivial)); (case aO => exact HR2.out); (case aS => exact hsz2); (case aL => simp); intro v3 w3 ho hb hg hat; have HE := Aside0.mk (add_end HBL2.out hbo HS2.out hbmle HR2.out ho hb hg); have HST := Aside0.mk (step_end (w := w) (bo := bo) (by rw [World.size_setCell, World.size_alloc, World.size_alloc]; omega) (fun k hk h1 => by rw [Below.heap_setCell _ ⟨bo, 1, none⟩ _ k h1, Below.heap_alloc _ _ _ (by rw [World.size_alloc]; omega), Below.heap_alloc _ _ _ hk]) (fun k hk e => by omega) HG2.out hg hat); have hb3 := blk_grown HBL2.out hg (Kd.R_ne HR2.out HBL2.out (by decide)); have hy0 := (blk_cell hb3 0).trans rfl; have hf0 := blk_frozen hb3 0; obtain ⟨A3, c3, rfl⟩ := Kd.R_slice ho; clear ho hb hg hat hb3))
  go_ret
  have hE2 := HE.out
  have hS2 := HST.out
  simp only [List.nil_append, List.length_cons, List.length_nil, Nat.zero_add] at hE2 hS2
  exact ⟨rfl, _, hE2.1, hS2, hE2.2⟩
/-- Behind one thing more. -/
def addTo (xs : List Int) (x : Int) : List Int := if x ∈ xs then xs else xs ++ [x]
theorem add_calls (W0 w : World) (bo : Nat) (v : Value) (xs : List Int) (x : Int) (h : OnceV W0.heap.size w bo v xs) (hB : Below W0.heap.size W0 w) (hw : (Lit.int .i64 x).wf = true) (hl : xs.length < 100000) :
    Calls Try.prog 33 #[.pointer (some ⟨bo, 0, none⟩), .int .i64 x] w fun e w' => e = .returned (.bool (!decide (x ∈ xs))) ∧ ∃ v', OnceV W0.heap.size w' bo v' (addTo xs x) ∧ OnceStep w w' bo v v' ∧ Below W0.heap.size W0 w' := by
  obtain ⟨mv, h1, h2, h3, h4⟩ := h.out
  rcases h4 with ⟨rfl, rfl⟩ | ⟨bm, rfl, hs, hle⟩
  · refine (add_calls0 W0 w bo v x h1 h2 h3 hB hw).mono ?_
    rintro e w' ⟨rfl, v', q1, q2, q3⟩
    exact ⟨by simp, v', by simpa [addTo] using q1, q2, q3⟩
  · exact add_calls1 W0 w bo bm v xs x h1 h2 h3 hs hle hB hw hl
theorem OnceV.new (W0 w : World) (hB : Below W0.heap.size W0 w) : OnceV W0.heap.size (w.alloc (.cells #[.slice none 0 0, .map none] 105)) w.heap.size (.slice none 0 0) [] :=
  ⟨.map none, heap_alloc_new w _, hB.size, Kd.R_nil _ _ _ _ _, .inl ⟨rfl, rfl⟩⟩
end Go.Proofs.Ytmcihkfbgcfccaa.H
