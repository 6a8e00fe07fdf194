/- scope.Group. -/
import Derived.Test.YtmcihkfbgcfccaaHGrq
import Derived.RangeFuncFrom
namespace Go.Proofs.Ytmcihkfbgcfccaa.H
open Go.RowKit Go.Shelf Go.Proofs.Ytmcihkfbgcfccaa.Z Go.Proofs.YtmcihkfbgcfccaaW.PrintWords Go.Proofs.YtmcihkfbgcfccaaW.PrintLast Go.Proofs.YtmcihkfbgcfccaaW.PrintMore
attribute [local go_sem] Oper.semAt_some
set_option linter.unusedVariables false
set_option linter.unusedSimpArgs false
theorem start_last {P : Program} {ops : Array Oper} {Q : Exit → Act → World → Prop} {S : World → Prop} {ds : List Nat} {n : Nat} {a : Act} {w : World} (l : Array Bool) (hn : ops.size = n) (hl : Array.replicate n false = l) (hS : S w.drew)
    (h : S w.drew → wpAnyLast P .any ops Q S ds n l a w.drew) : wpAny P .any ops Q ops.size (Array.replicate ops.size false) a { w with drawn := w.drawn + 1 } := by
  subst hn
  subst hl
  exact wpAny_of_last _ _ _ _ (h hS)
theorem row_put {B l : Nat} {W : World} {v : Value} {xs : List Int} {o : Obj} (h : (Kd.int .i64).R 3 W B (fun _ => True) v xs) (hl : l < B) : (Kd.int .i64).R 3 (W.putObj l o) B (fun _ => True) v xs :=
  row_own h (fun k hk _ => World.putObj_heap_other (by have := Kd.R_base h k hk; omega))
theorem round_end {w0 W w5 : World} {l D bx : Nat} {rec : LoopState → Option Code → Loop} {pre : List Int} {v v5 : Value} {id : Int} {o : Obj} (h : GInv w0 l D bx rec pre v W) (h0 : w0.heap.size ≤ bx) (h1 : bx < l) (h2 : D < l) (h3 : D ≠ bx)
    (hg : ((W.putObj l o).drew).grownBy w5 v.ownBlock) (ho : (Kd.int .i64).R 3 w5 (l + 1) (fun _ => True) v5 (pre ++ [id])) (hat : v5.ownBlock = v.ownBlock ∨ ∃ b, v5.ownBlock = some b ∧ ((W.putObj l o).drew).heap.size ≤ b) :
    GInv w0 l D bx rec (pre ++ [id]) v5 ((w5.setCell ⟨bx, 0, none⟩ v5).putObj l (.loop (rec .ready none))) ∧ RoundStep l bx W ((w5.setCell ⟨bx, 0, none⟩ v5).putObj l (.loop (rec .ready none))) v v5 := by
  have hlW := heap_lt_of h.loop
  have hs : W.heap.size ≤ w5.heap.size := by have := hg.size; rwa [show (W.putObj l o).drew.heap.size = W.heap.size from World.putObj_size] at this
  have hbase := Kd.R_base h.row
  have keep : ∀ k, k < W.heap.size → k ≠ l → k ≠ bx → some k ≠ v.ownBlock → ((w5.setCell ⟨bx, 0, none⟩ v5).putObj l (.loop (rec .ready none))).heap[k]? = W.heap[k]? := fun k hk e1 e2 e3 => by
    rw [World.putObj_heap_other e1, Below.heap_setCell w5 ⟨bx, 0, none⟩ v5 k e2, hg.block k (by rw [show (W.putObj l o).drew.heap.size = W.heap.size from World.putObj_size]; exact hk) e3]
    exact World.putObj_heap_other e1
  have nb : ∀ k, k ≤ l → some k ≠ v.ownBlock := fun k hk e => by have := hbase k e.symm; omega
  refine ⟨⟨⟨?_, ?_, ?_, ?_, fun k hk => ?_⟩, ?_, ?_, ?_, ?_⟩, ⟨?_, keep, fun k hk => ?_⟩⟩
  · exact hg.os.trans h.below.os
  · exact hg.tape.trans h.below.tape
  · exact hg.output.trans h.below.output
  · rw [World.putObj_size, World.size_setCell]
    exact Nat.le_trans h.below.size hs
  · exact (keep k (Nat.lt_of_lt_of_le hk h.below.size) (by omega) (by omega) (nb k (by omega))).trans (h.below.block k hk)
  · exact World.putObj_heap_same (by rw [World.size_setCell]; omega)
  · exact (keep D (by omega) (by omega) h3 (nb D (by omega))).trans h.mark
  · rw [World.putObj_heap_other (by omega)]
    have hb5 : w5.heap[bx]? = some (.cells #[v] 31 (0, 0)) := (hg.block bx (by rw [show (W.putObj l o).drew.heap.size = W.heap.size from World.putObj_size]; omega) (nb bx (by omega))).trans ((World.putObj_heap_other (by omega)).trans h.box)
    simpa using blk_set hb5 0 v5
  · exact row_put (row_own ho (fun k hk _ => Below.heap_setCell w5 ⟨bx, 0, none⟩ v5 k (by have := Kd.R_base ho k hk; show k ≠ bx; omega))) (by omega)
  · rw [World.putObj_size, World.size_setCell]
    exact hs
  · rcases hat with hat | ⟨b, hb, hle⟩
    · exact .inl (hat ▸ hk)
    · rw [hb] at hk
      injection hk with hk
      subst hk
      exact .inr (by rwa [show (W.putObj l o).drew.heap.size = W.heap.size from World.putObj_size] at hle)
noncomputable def grp_T4 : Bool × List (List Nat × List Nat) := rtab .any (opsOf Try.f11 4)
theorem grp_tab4 : rtab .any (opsOf Try.f11 4) = grp_T4 := rfl
def grp_B4 : List Nat := [0, 0, 2, 6, 14, 30, 63, 127]
theorem grp_bits4 : waitsOk grp_T4.2 grp_B4 = true := by kernel_rfl
set_option maxRecDepth 100000 in
set_option maxHeartbeats 1000000 in
theorem group_calls (w : World) (bt : Nat) (L : List Ins) (root : Int) (hT : TabR w bt L) (hL : L.length ≤ 12) (hneeds : ∀ x ∈ L, x.needs.length ≤ 1000 ∧ ∀ y ∈ x.needs, 1 ≤ y ∧ y ≤ L.length) (hr : (Lit.int .i64 root).wf = true) :
    Calls Try.prog 11 #[.pointer (some ⟨bt, 0, none⟩), .int .i64 root] w fun e w' => ∃ v, e = .returned v ∧ (Kd.int .i64).R 3 w' w.heap.size (fun _ => True) v (groupOf L root) ∧ Below w.heap.size w w' := by
  have HT := Aside0.mk hT
  have HN := Aside0.mk hneeds
  clear hT hneeds
  refine (callsIn_wide (n := 5)).1 ?_
  refine callsIn_of_wp_marks Try.func11 rfl trivial ?_ rfl
  simp only [Try.ntmps11, List.size_toArray, List.length_cons, List.length_nil, Nat.reduceAdd, Nat.reduceSub, Array.replicate_succ, Array.replicate_zero, List.push_toArray, List.append_toArray, List.nil_append, List.cons_append]
  gi_wp2_with fail
  refine ⟨trivial, ?_⟩
  refine (callsIn_wide.2 (breadth_calls _ bt root)).mono ?_
  rintro e w' ⟨rfl, hw'⟩
  obtain ⟨W2, hW2⟩ : ∃ W2, W2 = w' := ⟨_, rfl⟩
  rw [← hW2] at hw' ⊢
  clear hW2
  simp only [World.size_alloc, Nat.add_assoc, Nat.reduceAdd] at hw' ⊢
  have HW2 := Aside0.mk hw'
  have hsz : W2.heap.size = w.heap.size + 3 := by rw [hw']; simp only [World.size_alloc]
  clear hw'
  gi_wp2_with fail
  refine wpIn_rangeFunc ?_
  intro fn hfn
  generalize ha : ({ tmps := _, defers := [] } : Act) = a0
  generalize hA : Code.region 3 _ _ = A
  generalize hB : Code.block 1 _ = B
  have hg : a0.eval (.tmp 9) = .func (.func 40) #[] #[.pointer (some ⟨w.heap.size + 2, 0, none⟩), .pointer (some ⟨w.heap.size + 1, 0, none⟩)] := by rw [← ha]; rfl
  have hrun := run_enterLoop_outer (P := Try.prog) (w := W2) fn a0.tmps #[10] A B
  obtain ⟨rec, hrec⟩ : ∃ rec : LoopState → Option Code → Loop, rec = fun st pe => { state := st, pending := pe, fn, tmps := a0.tmps, params := #[10], assign := A, body := B, defers := w.heap.size + 3 } := ⟨_, rfl⟩
  obtain ⟨W1, hW1⟩ : ∃ W1, (W2.alloc (.deferred (some []))).alloc (.loop (rec .ready none)) = W1 := ⟨_, rfl⟩
  rw [hsz] at hrun
  have hL1 : W1.heap[w.heap.size + 4]? = some (.loop (rec .ready none)) := by
    rw [← hW1]; have := World.alloc_heap_new (W2.alloc (.deferred (some []))) (.loop (rec .ready none)); rwa [World.size_alloc, hsz] at this
  have hK1 : W1.heap[w.heap.size + 3]? = some (.deferred (some [])) := by
    rw [← hW1, ← hsz]; exact (Below.heap_alloc _ _ _ (by simp)).trans (World.alloc_heap_new W2 _)
  have hb21 : Below W2.heap.size W2 W1 := by rw [← hW1]; exact ((Below.refl _ W2).alloc (Nat.le_refl _) _).alloc (by simp) _
  have hbx2 : W2.heap[w.heap.size]? = some (.cells #[.slice none 0 0] 31 (0, 0)) := by
    rw [HW2.out, Below.heap_alloc _ _ _ (by simp only [World.size_alloc]; omega), Below.heap_alloc _ _ _ (by simp only [World.size_alloc]; omega)]
    exact heap_alloc_new w _
  have htb2 : W2.heap[w.heap.size + 1]? = some (.cells #[.pointer (some ⟨bt, 0, none⟩)] 24 (0, 0)) := by
    rw [HW2.out, Below.heap_alloc _ _ _ (by simp only [World.size_alloc]; omega)]
    have := heap_alloc_new (w.alloc (.cells #[.slice none 0 0] 31)) (.cells #[.pointer (some ⟨bt, 0, none⟩)] 24)
    rwa [World.size_alloc] at this
  have hrb2 : W2.heap[w.heap.size + 2]? = some (.cells #[.int .i64 root] 3 (0, 0)) := by
    rw [HW2.out]
    have := heap_alloc_new ((w.alloc (.cells #[.slice none 0 0] 31)).alloc (.cells #[.pointer (some ⟨bt, 0, none⟩)] 24)) (.cells #[.int .i64 root] 3)
    rwa [World.size_alloc, World.size_alloc] at this
  have hbw2 : Below w.heap.size w W2 := by rw [HW2.out]; exact (((Below.refl _ w).alloc (Nat.le_refl _) _).alloc (by simp) _).alloc (by simp; omega) _
  have hG0 : GInv w (w.heap.size + 4) (w.heap.size + 3) w.heap.size rec [] (.slice none 0 0) W1 :=
    ⟨hbw2.trans (hb21.mono (by omega)), hL1, hK1, (hb21.block _ (by omega)).trans hbx2, Kd.R_nil _ _ _ _ _⟩
  refine ⟨w.heap.size + 4, [{ target := .collected (w.heap.size + 3), args := #[] }], W1, { target := .fn (.func 40) #[.pointer (some ⟨w.heap.size + 2, 0, none⟩), .pointer (some ⟨w.heap.size + 1, 0, none⟩)], args := #[.func (.yield (w.heap.size + 4)) #[] #[]] }, W1, 40,
    #[.func (.yield (w.heap.size + 4)) #[] #[], .pointer (some ⟨w.heap.size + 2, 0, none⟩), .pointer (some ⟨w.heap.size + 1, 0, none⟩)], W1, ?_, ?_, ?_, ?_, fun _ => by omega, ?_⟩
  · rw [← hW1, hrec]; exact hrun
  · simp only [resolve, hg]
    simp [go_sem]
  · intro f' hf'; trivial
  · simp [invoke, go_sem, enters_of Try.func40 (by kernel_rfl) rfl]
  · have hround : ∀ pre v W b id x, GInv w (w.heap.size + 4) (w.heap.size + 3) w.heap.size rec pre v W → InsR W b id x → pre.length ≤ 20 → YieldAt Fence.wide (4 - 1) Try.prog (w.heap.size + 4) #[.pointer (some ⟨b, 0, none⟩)] W fun e W' => e = .returned (.bool true) ∧ ∃ v', GInv w (w.heap.size + 4) (w.heap.size + 3) w.heap.size rec (pre ++ [id]) v' W' ∧ RoundStep (w.heap.size + 4) w.heap.size W W' v v' := by
      intro pre v W b id x hI hx hlen
      have hy := run_yield (P := Try.prog) (args := #[.pointer (some ⟨b, 0, none⟩)]) hI.loop (by rw [hrec]; rfl)
      rw [hrec] at hy
      refine ⟨fn, _, A, B, hy, roundIn_of_wpIn trivial ?_⟩
      subst hA
      subst hB
      subst ha
      have HI := Aside0.mk hI
      have HX := Aside0.mk hx
      have hbeg := run_beginRound (P := Try.prog) hI.loop (by rw [hrec])
      have HBEG := Aside0.mk hbeg
      have HREC := Aside0.mk hrec
      clear hI hx hbeg hy hrec hrun hL1 hK1 hb21 hbx2 htb2 hrb2 hbw2 hG0 hW1 HW2 hg hsz
      simp only [List.zip_toArray, List.foldl_toArray, List.zip_cons_cons, List.zip_nil_right, List.foldl_cons, List.foldl_nil, List.setIfInBounds_toArray, List.set_cons_zero, List.set_cons_succ]
      gi_wp2_with fail
      refine ⟨_, HBEG.out, ?_⟩
      generalize hob : Obj.loop _ = o
      have HOB := Aside0.mk hob
      clear hob
      gi_wp2_with fail
      refine wpIn_region_any (by kernel_rfl) ?_
      refine any_inRound ?hq ?hd _ _ _ _ ?_
      case hq =>
        rintro ⟨a, w, h⟩
        exact h
      case hd =>
        intro i o hi c
        have hm := Array.mem_of_getElem? hi
        simp only [List.mem_toArray, List.mem_cons, List.not_mem_nil, or_false] at hm
        rcases hm with rfl | rfl | rfl | rfl | rfl | rfl | rfl | rfl <;> exact fun h => by cases h
      obtain ⟨wd, hwd⟩ : ∃ wd, wd = (W.putObj (w.heap.size + 4) o).drew := ⟨_, rfl⟩
      have HWD := Aside0.mk hwd
      have hsd : wd.heap.size = W.heap.size := by rw [hwd]; exact World.putObj_size
      have hkeep : ∀ k, k ≠ w.heap.size + 4 → wd.heap[k]? = W.heap[k]? := fun k hk => by rw [hwd]; exact World.putObj_heap_other hk
      have HLP : Aside0 (wd.heap[w.heap.size + 4]? = some o) := ⟨by rw [hwd]; exact World.putObj_heap_same (heap_lt_of HI.out.loop)⟩
      have hbxd := heap_lt_of HI.out.box
      have hlW := heap_lt_of HI.out.loop
      rw [← hsd] at hbxd hlW
      have HBXD := Aside0.mk ((hkeep _ (by omega)).trans HI.out.box)
      have HRD := Aside0.mk (row_own (W1 := wd) HI.out.row (fun k hk _ => hkeep k (by have := Kd.R_base HI.out.row k hk; omega)))
      have hbase : w.heap.size + 4 + 1 ≤ wd.heap.size := by omega
      have hcx := HX.out.cell
      have hbb := World.block_lt_of_cell? W _ hcx
      have hbbd : b < wd.heap.size := by rw [hsd]; exact hbb
      have hbl : b ≠ w.heap.size + 4 := fun e => by
        obtain ⟨_, _, _, _, q, _⟩ := HX.out.out
        rw [e, HI.out.loop] at q
        cases q
      have hcd : wd.cell? ⟨b, 0, none⟩ = some (.int .i64 id) := (World.cell?_of_block (w := W) (hkeep b hbl)).trans hcx
      have hcb : wd.cell? ⟨w.heap.size, 0, none⟩ = some v := (blk_cell HBXD.out 0).trans rfl
      clear hkeep hcx hsd
      refine start_last (n := 8) (S := fun w' => w'.cell? ⟨w.heap.size, 0, none⟩ = some v ∧ w'.cell? ⟨b, 0, none⟩ = some (.int .i64 id)) (ds := [6, 7]) #[false, false, false, false, false, false, false, false] rfl rfl (by rw [← hwd]; exact ⟨hcb, hcd⟩) (fun hHeld => ?_)
      rw [← hwd] at hHeld ⊢
      clear hwd
      refine with_tabW grp_tab4 grp_bits4 (fun HT_ HW_ => ?_)
      refine pure_ (i := 1) (N := some 12) (v := ?_) (a' := ?_) #[false, true, false, false, false, false, false, false] rfl rfl (any_of HT_.out (by kernel_rfl)) (fun _ _ _ h => h) (Or.inl ⟨by rfl, ?_⟩) ?_ ?_
      rotate_left
      · intro w'
        go_simp
        with_reducible rfl
      rotate_left
      · simp only [Act.put, List.setIfInBounds_toArray, List.set_cons_zero, List.set_cons_succ, i64_w, i32_w]
        rfl
      refine pure_ (i := 2) (N := some 13) (v := ?_) (a' := ?_) #[false, true, true, false, false, false, false, false] rfl rfl (any_of HT_.out (by kernel_rfl)) (fun _ _ _ h => h) (Or.inl ⟨by rfl, ?_⟩) ?_ ?_
      rotate_left
      · intro w'
        go_simp
        with_reducible rfl
      rotate_left
      · simp only [Act.put, List.setIfInBounds_toArray, List.set_cons_zero, List.set_cons_succ, i64_w, i32_w]
        rfl
      refine pure_ (i := 3) (N := some 14) (v := ?_) (a' := ?_) #[false, true, true, true, false, false, false, false] rfl rfl (any_of HT_.out (by kernel_rfl)) (fun _ _ _ h => h) (Or.inl ⟨by rfl, ?_⟩) ?_ ?_
      rotate_left
      · intro w'
        go_simp
        with_reducible rfl
      rotate_left
      · simp only [Act.put, List.setIfInBounds_toArray, List.set_cons_zero, List.set_cons_succ, i64_w, i32_w]
        rfl
      refine take_ (i := 0) (N := some 11) (v := ?_) (a' := ?_) #[true, true, true, true, false, false, false, false] rfl rfl (take_ofW HT_.out HW_.out (by kernel_rfl)) (fun _ _ _ h => h) (Or.inl ⟨by rfl, ?_⟩) hHeld ?_ ?_
      rotate_left
      · rintro w' ⟨s0, s1⟩
        go_simp
        with_reducible rfl
      rotate_left
      · simp only [Act.put, List.setIfInBounds_toArray, List.set_cons_zero, List.set_cons_succ, i64_w, i32_w]
        rfl
      refine take_ (i := 4) (N := some 15) (v := ?_) (a' := ?_) #[true, true, true, true, true, false, false, false] rfl rfl (take_ofW HT_.out HW_.out (by kernel_rfl)) (fun _ _ _ h => h) (Or.inl ⟨by rfl, ?_⟩) hHeld ?_ ?_
      rotate_left
      · rintro w' ⟨s0, s1⟩
        go_simp
        with_reducible rfl
      rotate_left
      · simp only [Act.put, List.setIfInBounds_toArray, List.set_cons_zero, List.set_cons_succ, i64_w, i32_w]
        rfl
      refine one_ (i := 5) (N := some 16) #[true, true, true, true, true, true, false, false] rfl rfl (one_of HT_.out (by kernel_rfl)) (by decide) (fun K hK => ?_)
      refine value_ (w1 := ?_) (v := ?_) (by rfl) rfl ?_ ?_
      rotate_left 2
      · go_simp
        constructor
        · rfl
        · rfl
      refine hK.out _ _ ⟨?_, ?_⟩ (fun hHeld => ?_)
      · exact (Below.cell (B := wd.heap.size) (below_alloc (Below.refl _ _) _) (p := ⟨w.heap.size, 0, none⟩) hbxd).trans hHeld.1
      · exact (Below.cell (B := wd.heap.size) (below_alloc (Below.refl _ _) _) (p := ⟨b, 0, none⟩) hbbd).trans hHeld.2
      clear hK K
      refine norm_ (a' := ?_) ?_ ?_
      rotate_left
      · show Act.put _ (some 16) _ = _
        simp only [Act.put, List.setIfInBounds_toArray, List.set_cons_zero, List.set_cons_succ, i64_w, i32_w]
        rfl
      refine last_ (i := 6) (N := some 17) #[true, true, true, true, true, true, true, false] rfl rfl (one_of HT_.out (by kernel_rfl)) (by decide) (fun K hK => ?_)
      refine Kd.R_append_step (Kd.int .i64) (w0 := wd) (w.heap.size + 4 + 1) (by rfl) (.tmp 11) (.tmp 16) 31 3 (.int .i64 0) 8 rfl Try.underlying31 info3 rfl (by decide) (by omega) v pre id [.int .i64 id] (fun _ => True) (fun _ => False) rfl rfl ?aP (fun _ hk => hk.elim) ?aF ?aO ?aB ?aS ?aL ?_
      (case aP => exact rfl)
      (case aB => exact Below.refl _ _)
      (case aF => exact (fun _ _ => trivial))
      (case aO => exact HRD.out)
      (case aS => exact hbase)
      (case aL => omega)
      intro v5 w5 ho hb hg hat
      obtain ⟨A5, c5, rfl⟩ := Kd.R_slice ho
      have hbx5 : w5.heap[w.heap.size]? = some (.cells #[v] 31 (0, 0)) := (hg.block _ hbxd (fun e => by have := Kd.R_base HRD.out _ e.symm; omega)).trans HBXD.out
      have hz0 : w5.cell? ⟨w.heap.size, 0, none⟩ = some v := (blk_cell hbx5 0).trans rfl
      have hf0 := blk_frozen hbx5 0
      have HL5 := Aside0.mk ((hg.block _ (heap_lt_of HLP.out) (fun e => by have := Kd.R_base HRD.out _ e.symm; omega)).trans HLP.out)
      have HEND := Aside0.mk (round_end (o := o) HI.out (Nat.le_refl _) (by omega) (by omega) (by omega) (HWD.out ▸ hg) ho (HWD.out ▸ hat))
      clear ho hb hg hat hbx5 HRD HBXD
      refine hK.out _ _ ?_
      clear hK K
      refine norm_ (a' := ?_) ?_ ?_
      rotate_left
      · show Act.put _ (some 17) _ = _
        simp only [Act.put, List.setIfInBounds_toArray, List.set_cons_zero, List.set_cons_succ, i64_w, i32_w]
        rfl
      refine last_ (i := 7) (N := none) #[true, true, true, true, true, true, true, true] rfl rfl (one_of HT_.out (by kernel_rfl)) (by decide) (fun K hK => ?_)
      refine skip_ (w1 := ?_) (by rfl) rfl ?_ ?_
      rotate_left
      · go_simp
        rfl
      refine hK.out _ _ ?_
      clear hK K
      refine done_ (done_of HT_.out (by kernel_rfl)) ?_
      have hE := HEND.out
      have hl5 : (pre ++ [id]).length = pre.length + 1 := by simp
      rw [hl5] at hE
      have hlp6 : (w5.setCell ⟨w.heap.size, 0, none⟩ (.slice A5 (pre.length + 1) c5)).heap[w.heap.size + 4]? = some (.loop { rec .ready none with state := .busy }) := by
        rw [Below.heap_setCell w5 ⟨w.heap.size, 0, none⟩ (.slice A5 (pre.length + 1) c5) (w.heap.size + 4) (by show w.heap.size + 4 ≠ w.heap.size; omega), HL5.out, ← HOB.out]
      have hend := run_endRound (P := Try.prog) none hlp6
      refine ⟨_, _, hend, rfl, .slice A5 (pre.length + 1) c5, ?_⟩
      have hrd : (Obj.loop { { rec .ready none with state := .busy } with state := if (none : Option Code).isNone then .ready else .done, pending := none }) = Obj.loop (rec .ready none) := by rw [HREC.out]; rfl
      rw [hrd]
      exact hE
    refine (iter_in 4 w (w.heap.size + 4) (w.heap.size + 3) w.heap.size (w.heap.size + 2) (w.heap.size + 1) bt rec L root HT.out hL HN.out hr hround W1 _ hG0 rfl ((hb21.block _ (by omega)).trans hrb2) ((hb21.block _ (by omega)).trans htb2) (by omega) (by omega) (by omega) (by omega) (by omega)).mono ?_
    rintro e W3 ⟨⟨r, rfl⟩, v, hI⟩
    have hend := run_endLoop (P := Try.prog) hI.loop (by rw [hrec]; simp)
    refine ⟨_, _, hend, ?_⟩
    have hpend : (rec .ready none).pending = none := by rw [hrec]
    rw [hpend]
    simp only
    generalize ho : Obj.loop _ = o
    have hlW := heap_lt_of hI.loop
    have hbx3 : (W3.putObj (w.heap.size + 4) o).cell? ⟨w.heap.size, 0, none⟩ = some v := (blk_cell ((World.putObj_heap_other (by omega)).trans hI.box) 0).trans rfl
    have hmk3 : (W3.putObj (w.heap.size + 4) o).heap[w.heap.size + 3]? = some (.deferred (some [])) := (World.putObj_heap_other (by omega)).trans hI.mark
    have hrow3 := row_put (o := o) hI.row (Nat.lt_succ_self _)
    have hbl3 : Below w.heap.size w (W3.putObj (w.heap.size + 4) o) := hI.below.grown (grownBy_putObj' W3 (w.heap.size + 4) o) hI.below.size (fun k e => by cases e; omega)
    subst ha
    obtain ⟨w4, hw4⟩ : ∃ w4, w4 = W3.putObj (w.heap.size + 4) o := ⟨_, rfl⟩
    rw [← hw4] at hbx3 hmk3 hrow3 hbl3 ⊢
    have HM := Aside0.mk hmk3
    have HR3 := Aside0.mk hrow3
    have HB3 := Aside0.mk hbl3
    clear hw4 ho hI hend hpend hmk3 hrow3 hbl3 hround hG0 hrun hg hW1 hL1 hK1 hb21 hbx2 htb2 hrb2 hbw2 hrec
    gi_wp2_with fail
    refine ⟨by simp, .inl ⟨_, _, rfl, run_takeDeferred HM.out, ?_⟩⟩
    refine ⟨_, results_tmp rfl _ _ _, v, rfl, ?_, ?_⟩
    · exact Kd.R_lower (row_put HR3.out (by omega)) (by omega)
    · exact HB3.out.grown (grownBy_putObj' w4 (w.heap.size + 3) _) HB3.out.size (fun k e => by cases e; omega)
end Go.Proofs.Ytmcihkfbgcfccaa.H
