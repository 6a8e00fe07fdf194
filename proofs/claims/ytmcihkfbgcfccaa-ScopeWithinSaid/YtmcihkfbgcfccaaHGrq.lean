/- scope.Group: the iterator. -/
import Derived.Test.YtmcihkfbgcfccaaHGrp
namespace Go.Proofs.Ytmcihkfbgcfccaa.H
open Go.RowKit Go.Shelf Go.Proofs.Ytmcihkfbgcfccaa.Z Go.Proofs.YtmcihkfbgcfccaaW.PrintWords Go.Proofs.YtmcihkfbgcfccaaW.PrintLast Go.Proofs.YtmcihkfbgcfccaaW.PrintMore
attribute [local go_sem] Oper.semAt_some
set_option linter.unusedVariables false
set_option linter.unusedSimpArgs false
/-- What the iterator's loop holds. -/
structure Bfs (w0 : World) (l D bx tb bt B bo : Nat) (rec : LoopState → Option Code → Loop) (L : List Ins) (root : Int) (s pre : List Int) (W : World) : Prop where
  out : ∃ v vs, OnceV B W bo vs s ∧ GInv w0 l D bx rec pre v W ∧ (∀ k, v.ownBlock = some k → vs.ownBlock ≠ some k) ∧ W.heap[tb]? = some (.cells #[.pointer (some ⟨bt, 0, none⟩)] 24 (0, 0)) ∧ Came L root s ∧ B ≤ W.heap.size
theorem Bfs.once {w0 : World} {l D bx tb bt B bo : Nat} {rec : LoopState → Option Code → Loop} {L : List Ins} {root : Int} {s pre : List Int} {W : World} (h : Bfs w0 l D bx tb bt B bo rec L root s pre W) :
    ∃ A c mv, W.heap[bo]? = some (.cells #[.slice A s.length c, mv] 105 (0, 0)) ∧ (Kd.int .i64).C W A s.length s := by
  obtain ⟨v, vs, h1, _⟩ := h.out
  obtain ⟨mv, g1, g2, g3, g4⟩ := h1.out
  obtain ⟨A, c, rfl⟩ := Kd.R_slice g3
  exact ⟨A, c, mv, g1, (Kd.R_reads' g3).2.2⟩
theorem Bfs.add {w0 : World} {l D bx tb bt B bo : Nat} {rec : LoopState → Option Code → Loop} {L : List Ins} {root : Int} {s pre : List Int} {W : World} (h : Bfs w0 l D bx tb bt B bo rec L root s pre W) (hl : l < B) (hD : D < B) (hx : bx < B) (ht : tb < B) (h0 : w0.heap.size ≤ B)
    {y : Int} (hy : 1 ≤ y ∧ y ≤ L.length) (hL : L.length ≤ 1000) : Calls Try.prog 33 #[.pointer (some ⟨bo, 0, none⟩), .int .i64 y] W fun e W' => (∃ b, e = .returned (.bool b)) ∧ Bfs w0 l D bx tb bt B bo rec L root (addTo s y) pre W' ∧ (∀ k, k < B → W'.heap[k]? = W.heap[k]?) := by
  obtain ⟨v, vs, h1, h2, h3, h4, h5, h6⟩ := h.out
  obtain ⟨W0, hW0, hb0⟩ := cut_world W B h6
  have hlen := h5.len
  rw [← hW0] at h1
  refine (add_calls W0 W bo vs s y h1 hb0 (wf_small (by omega) (by omega)) (by omega)).mono ?_
  rintro e W' ⟨rfl, vs', g1, g2, g3⟩
  have hB : ∀ k, k < B → W'.heap[k]? = W.heap[k]? := fun k hk => (g3.block k (by omega)).trans (hb0.block k (by omega)).symm
  obtain ⟨mv, m1, _⟩ := h1.out
  obtain ⟨i1, i2⟩ := h2.add g2 hB ⟨g3.os.trans hb0.os.symm, g3.tape.trans hb0.tape.symm, g3.output.trans hb0.output.symm⟩ hl hD hx h0 m1 h3
  rw [hW0] at g1
  exact ⟨⟨_, rfl⟩, ⟨v, vs', g1, i1, i2, (hB tb ht).trans h4, h5.add hy.1 hy.2, Nat.le_trans h6 g2.size⟩, hB⟩
theorem get_D (w0 w : World) (bt : Nat) (l : List Ins) (id : Int) (h0 : TabR w0 bt l) (hb : Below w0.heap.size w0 w) (hw : (Lit.int .i64 id).wf = true) :
    ∃ v, (∀ n, Calls Try.prog 22 #[.pointer (some ⟨bt, 0, none⟩), .int .i64 id] (w.drewN n) fun e w' => e = .returned v ∧ w' = w.drewN n) ∧ ((∃ b x, v = .pointer (some ⟨b, 0, none⟩) ∧ insAt l id = some x ∧ x ∈ l ∧ InsR w0 b id x) ∨ (v = .pointer none ∧ insAt l id = none)) := by
  obtain ⟨bm, g, A, c, h1, h2, h3, h4, h5, h6⟩ := h0.out
  have h1' := (hb.block bt (heap_lt_of h1)).trans h1
  refine ⟨ptrV (look g id), fun n => get_calls (w.drewN n) bt bm _ _ _ g id h1' ((h2.below hb).below (pw_below_drewN (Below.refl _ _) n)) hw, ?_⟩
  unfold look insAt
  by_cases h0 : 1 ≤ id
  · rw [if_pos h0, if_pos h0]
    by_cases hk : (id - 1).toNat < l.length
    · have hk' : (id - 1).toNat < g.length := by omega
      refine .inl ⟨g[(id - 1).toNat], l[(id - 1).toNat], ?_, List.getElem?_eq_getElem hk, List.getElem_mem hk, ?_⟩
      · rw [List.getElem?_eq_getElem hk']
        rfl
      · have := h6 _ hk hk'
        rwa [show (((id - 1).toNat : Nat) : Int) + 1 = id by omega] at this
    · refine .inr ⟨?_, List.getElem?_eq_none (by omega)⟩
      rw [List.getElem?_eq_none (by omega)]
      rfl
  · rw [if_neg h0, if_neg h0]
    exact .inr ⟨rfl, rfl⟩
theorem InsR.needs {W : World} {b : Nat} {id : Int} {x : Ins} (h : InsR W b id x) : ∃ nA nc, W.cell? ⟨b, 67, none⟩ = some (.slice nA x.needs.length nc) ∧ (Kd.int .i64).C W nA x.needs.length x.needs := by
  obtain ⟨sA, sc, nA, nc, h1, h2, h3, h4, h5⟩ := h.out
  exact ⟨nA, nc, (blk_cell h1 67).trans rfl, h4⟩
/-- Behind a round. -/
theorem Bfs.round {w0 : World} {l D bx tb bt B bo : Nat} {rec : LoopState → Option Code → Loop} {L : List Ins} {root : Int} {s pre pre' : List Int} {W W' : World} {v v' vs : Value} (h1 : OnceV B W bo vs s) (h2 : GInv w0 l D bx rec pre v W) (h3 : ∀ k, v.ownBlock = some k → vs.ownBlock ≠ some k) (h4 : W.heap[tb]? = some (.cells #[.pointer (some ⟨bt, 0, none⟩)] 24 (0, 0))) (h5 : Came L root s) (h6 : B ≤ W.heap.size)
    (hg : GInv w0 l D bx rec pre' v' W') (hr : RoundStep l bx W W' v v') (hl : l < B) (hx : bx < l) (ht : tb < l) (htx : tb ≠ bx) : Bfs w0 l D bx tb bt B bo rec L root s pre' W' := by
  obtain ⟨i1, i2⟩ := h1.round hr hl (by omega) h2.row h3
  refine ⟨v', vs, i1, hg, i2, (hr.keep tb (by omega) (by omega) htx (fun e => ?_)).trans h4, h5, Nat.le_trans h6 hr.size⟩
  have := Kd.R_base h2.row tb e.symm
  omega
theorem Bfs.tabcell {w0 : World} {l D bx tb bt B bo : Nat} {rec : LoopState → Option Code → Loop} {L : List Ins} {root : Int} {s pre : List Int} {W : World} (h : Bfs w0 l D bx tb bt B bo rec L root s pre W) :
    W.cell? ⟨tb, 0, none⟩ = some (.pointer (some ⟨bt, 0, none⟩)) := by
  obtain ⟨v, vs, h1, h2, h3, h4, h5⟩ := h.out
  exact (blk_cell h4 0).trans rfl
theorem Bfs.came {w0 : World} {l D bx tb bt B bo : Nat} {rec : LoopState → Option Code → Loop} {L : List Ins} {root : Int} {s pre : List Int} {W : World} (h : Bfs w0 l D bx tb bt B bo rec L root s pre W) :
    Came L root s ∧ Below w0.heap.size w0 W ∧ B ≤ W.heap.size := by
  obtain ⟨v, vs, h1, h2, h3, h4, h5⟩ := h.out
  exact ⟨h5.1, h2.below, h5.2⟩
theorem Bfs.drewN {w0 : World} {l D bx tb bt B bo : Nat} {rec : LoopState → Option Code → Loop} {L : List Ins} {root : Int} {s pre : List Int} {W : World} (h : Bfs w0 l D bx tb bt B bo rec L root s pre W) (n : Nat) : Bfs w0 l D bx tb bt B bo rec L root s pre (W.drewN n) := by
  obtain ⟨v, vs, h1, h2, h3, h4, h5⟩ := h.out
  exact ⟨v, vs, h1.below (pw_below_drewN (Below.refl _ _) n), ⟨pw_below_drewN h2.below n, h2.loop, h2.mark, h2.box, Kd.R_drewN h2.row n⟩, h3, h4, h5.1, h5.2⟩
set_option maxRecDepth 100000 in
set_option maxHeartbeats 1000000 in
theorem iter_in (n : Nat) (w0 : World) (l D bx rb tb bt : Nat) (rec : LoopState → Option Code → Loop) (L : List Ins) (root : Int) (hT : TabR w0 bt L) (hL : L.length ≤ 12) (hneeds : ∀ x ∈ L, x.needs.length ≤ 1000 ∧ ∀ y ∈ x.needs, 1 ≤ y ∧ y ≤ L.length) (hr : (Lit.int .i64 root).wf = true)
    (hY : ∀ pre v W b id x, GInv w0 l D bx rec pre v W → InsR W b id x → pre.length ≤ 20 → YieldAt Fence.wide (n - 1) Try.prog l #[.pointer (some ⟨b, 0, none⟩)] W fun e W' => e = .returned (.bool true) ∧ ∃ v', GInv w0 l D bx rec (pre ++ [id]) v' W' ∧ RoundStep l bx W W' v v')
    (W : World) (v0 : Value) (h0 : GInv w0 l D bx rec [] v0 W) (hv0 : v0.ownBlock = none) (hrb : W.heap[rb]? = some (.cells #[.int .i64 root] 3 (0, 0))) (htb : W.heap[tb]? = some (.cells #[.pointer (some ⟨bt, 0, none⟩)] 24 (0, 0))) (h1 : bx < l) (h2 : D < l) (h3 : tb < l) (h4 : rb < l) (h5 : tb ≠ bx) :
    CallsIn Fence.wide n Try.prog 40 #[.func (.yield l) #[] #[], .pointer (some ⟨rb, 0, none⟩), .pointer (some ⟨tb, 0, none⟩)] W fun e W' => (∃ v, e = .returned v) ∧ ∃ v, GInv w0 l D bx rec (groupOf L root) v W' := by
  have hlW := heap_lt_of h0.loop
  have HT := Aside0.mk hT
  have HY := Aside0.mk hY
  have HN := Aside0.mk hneeds
  have HB0 := Aside0.mk h0.below
  have hbz : w0.heap.size ≤ W.heap.size := h0.below.size
  obtain ⟨w1, hw1⟩ : ∃ w1, w1 = W.alloc (.cells #[.slice none 0 0, .map none] 105) := ⟨_, rfl⟩
  have HW1 := Aside0.mk hw1
  have hone : OnceV W.heap.size w1 W.heap.size (.slice none 0 0) [] := by rw [hw1]; exact OnceV.new W W (Below.refl _ _)
  have hcame : Came L root ([] : List Int) := ⟨by simp, by simp⟩
  have hstart : Calls Try.prog 33 #[.pointer (some ⟨W.heap.size, 0, none⟩), .int .i64 root] w1 fun e W' => (∃ b, e = .returned (.bool b)) ∧ Bfs w0 l D bx tb bt W.heap.size W.heap.size rec L root [root] [] W' := by
    have hbw : Below W.heap.size W w1 := by rw [hw1]; exact below_alloc (Below.refl _ _) _
    refine (add_calls W w1 W.heap.size _ [] root hone hbw hr (by simp)).mono ?_
    rintro e W' ⟨rfl, vs', g1, g2, g3⟩
    have hgi : GInv w0 l D bx rec [] v0 w1 := by
      rw [hw1]
      exact ⟨h0.below.alloc h0.below.size _, (Below.heap_alloc _ _ _ hlW).trans h0.loop, (Below.heap_alloc _ _ _ (by omega)).trans h0.mark, (Below.heap_alloc _ _ _ (by omega)).trans h0.box, Kd.R_alloc h0.row _⟩
    have hB : ∀ k, k < W.heap.size → W'.heap[k]? = w1.heap[k]? := fun k hk => (g3.block k hk).trans (hbw.block k hk).symm
    obtain ⟨mv, m1, _⟩ := hone.out
    obtain ⟨i1, i2⟩ := hgi.add g2 hB ⟨g3.os.trans hbw.os.symm, g3.tape.trans hbw.tape.symm, g3.output.trans hbw.output.symm⟩ hlW (by omega) (by omega) hbz m1 (fun k hk => by rw [hv0] at hk; cases hk)
    exact ⟨⟨_, rfl⟩, ⟨v0, vs', g1, i1, i2, (g3.block tb (by omega)).trans htb, ⟨by simp, by simp⟩, g3.size⟩⟩
  have HS := Aside0.mk hstart
  have hcr : w1.cell? ⟨rb, 0, none⟩ = some (.int .i64 root) := by rw [hw1]; exact (blk_cell ((Below.heap_alloc _ _ _ (by omega)).trans hrb) 0).trans rfl
  clear hstart hT hY hneeds hone hcame hrb htb h0 hv0
  refine callsIn_of_wp Try.func40 rfl trivial ?_ rfl
  simp only [Try.ntmps40, List.size_toArray, List.length_cons, List.length_nil, Nat.reduceAdd, Nat.reduceSub, Array.replicate_succ, Array.replicate_zero, List.push_toArray, List.append_toArray, List.nil_append, List.cons_append]
  rw [hw1] at hcr
  clear hw1
  have hS := HS.out
  rw [HW1.out] at hS
  have HS1 := Aside0.mk hS
  clear HS hS
  gi_wp2_with fail
  refine ⟨trivial, fun h => (by cases h), ?_⟩
  refine (callsIn_wide.2 HS1.out).mono ?_
  rintro e w2 ⟨⟨r, rfl⟩, hbfs⟩
  have HF := Aside0.mk hbfs
  clear hbfs HS1 HW1 w1
  gi_wp2_with fail
  gi_loopw [5] (fun v5 wr => ∃ (at_ : Nat) (s pre : List Int), v5 = .int .i64 at_ ∧ at_ ≤ s.length ∧ pre.length ≤ at_ ∧ Aside0 (pre ++ bfsGo L (L.length + 2 - at_) s at_ = groupOf L root) ∧ Aside0 (Bfs w0 l D bx tb bt W.heap.size W.heap.size rec L root s pre wr)) (fun v5 _ => L.length + 2 - (intOf v5).toNat)
  case atStart => exact ⟨0, [root], [], rfl, by simp, by simp, ⟨rfl⟩, HF⟩
  case round =>
    obtain ⟨at_, s, pre, rfl, hat, hpre, HG, HF2⟩ := hrel
    obtain ⟨hcm, hbw, hBsz⟩ := HF2.out.came
    have hlen := hcm.len
    obtain ⟨A, c, mv, hob, hC⟩ := HF2.out.once
    have htc := HF2.out.tabcell
    have ho0 : wr.cell? ⟨W.heap.size, 0, none⟩ = some (.slice A s.length c) := (blk_cell hob 0).trans rfl
    by_cases hlt : (at_ : Int) < s.length
    · have hin : at_ < s.length := by omega
      obtain ⟨ad, rfl, hp⟩ := int_at hC at_ hin
      obtain ⟨id, hid⟩ : ∃ id, s[at_] = id := ⟨_, rfl⟩
      have hwid := hcm.wf (by omega) hr (List.getElem_mem hin)
      rw [hid] at hp hwid
      obtain ⟨v, hget, hcase⟩ := get_D w0 wr bt L id HT.out hbw hwid
      have HCASE := Aside0.mk hcase
      have HGET := Aside0.mk hget
      have HID := Aside0.mk hid
      have HBW := Aside0.mk hbw
      have HCM := Aside0.mk hcm
      clear hcase hget hid hob hC hbw hcm
      gi_wp2_with fail
      refine wpIn_wide.2 ?_
      go_quiet ((go_at_call 22; exact Calls.quiet_of_same (HGET.out _)))
      obtain ⟨w3, hw3⟩ : ∃ w3, w3 = wr.drewN nq := ⟨_, rfl⟩
      have HF3 := Aside0.mk (hw3 ▸ HF2.out.drewN nq)
      rw [← hw3]
      clear hw3 HF2 HGET ho0 hp htc HBW HCM
      have hG := HG.out
      rw [show L.length + 2 - at_ = (L.length + 1 - at_) + 1 by omega, bfsGo, List.getElem?_eq_getElem hin, HID.out] at hG
      simp only at hG
      rcases HCASE.out with ⟨b, x, rfl, hx, hxm, hI⟩ | ⟨rfl, hx⟩
      · rw [hx] at hG
        simp only at hG
        have HG3 := Aside0.mk hG
        have HI := Aside0.mk hI
        have hnx := HN.out x hxm
        have hnxl := hnx.1
        have HNX := Aside0.mk hnx.2
        obtain ⟨v1, vs, g1, g2, g3, g4, g5, g6⟩ := HF3.out.out
        obtain ⟨fn, tmps, assign, body, hy, hR⟩ := HY.out pre v1 w3 b id x g2 (hI.below g2.below) (by omega)
        have HR := Aside0.mk hR
        have HF4 : Aside0 (∀ (e : Ending) (W3 : World), (e = Ending.returned (.bool true) ∧ ∃ v', GInv w0 l D bx rec (pre ++ [id]) v' W3 ∧ RoundStep l bx w3 W3 v1 v') → e = Ending.returned (.bool true) ∧ Bfs w0 l D bx tb bt W.heap.size W.heap.size rec L root s (pre ++ [id]) W3) := ⟨fun e W3 h => by
          obtain ⟨h, v2, q1, q2⟩ := h
          exact ⟨h, Bfs.round g1 g2 g3 g4 g5 g6 q1 q2 hlW h1 h3 h5⟩⟩
        clear hG HG hx hxm hI hnx hR g1 g2 g3 g4 g5 g6 HCASE HID HF3
        gi_wp2_with fail
        refine ⟨fun h => (by cases h), ?_⟩
        refine HR.out.mono ?_
        intro e W3 hpost
        obtain ⟨rfl, hF5⟩ := HF4.out e W3 hpost
        have HF5 := Aside0.mk hF5
        obtain ⟨hcm5, hbw5, hBsz5⟩ := hF5.came
        obtain ⟨nA, nc, hn67, hnC⟩ := HI.out.needs
        replace hn67 := (hbw5.cell (World.block_lt_of_cell? w0 _ hn67)).trans hn67
        have HNC := Aside0.mk hnC
        clear hpost HF4 HR hF5 hcm5 hbw5 hnC hy
        gi_wp2_with fail
        gi_loopw [43] (fun v43 wr2 => ∃ j : Nat, j ≤ x.needs.length ∧ v43 = .int .i64 j ∧ Aside0 (Bfs w0 l D bx tb bt W.heap.size W.heap.size rec L root (addAll s (x.needs.take j)) (pre ++ [id]) wr2)) (fun v43 _ => x.needs.length - (intOf v43).toNat)
        case atStart => exact ⟨0, by omega, rfl, ⟨by simpa [addAll] using HF5.out⟩⟩
        case round =>
          obtain ⟨j, hj, rfl, HF6⟩ := hrel
          obtain ⟨hcm6, hbw6, hBsz6⟩ := HF6.out.came
          by_cases hlt2 : (j : Int) < x.needs.length
          · have hjn : j < x.needs.length := by omega
            obtain ⟨nd, rfl, hq⟩ := int_at HNC.out j hjn
            have hny := HNX.out _ (List.getElem_mem hjn)
            replace hq := (hbw6.cell (World.block_lt_of_cell? w0 _ hq)).trans hq
            have hsn := addAll_snoc s (x.needs.take j) x.needs[j]
            rw [← List.take_succ_eq_append_getElem hjn] at hsn
            have hadd := HF6.out.add hlW (by omega) (by omega) (by omega) hbz hny (by omega)
            rw [← hsn] at hadd
            obtain ⟨y, hy⟩ : ∃ y, x.needs[j] = y := ⟨_, rfl⟩
            rw [hy] at hq hadd
            have HADD := Aside0.mk hadd
            clear hadd hsn hny hy hcm6 hbw6
            gi_wp2_with fail
            refine ⟨trivial, fun h => (by cases h), ?_⟩
            refine (callsIn_wide.2 HADD.out).mono ?_
            rintro e w5 ⟨⟨r2, rfl⟩, hF7, _⟩
            have HF7 := Aside0.mk hF7
            clear hF7 HADD HF6 hq
            gi_wp2_with fail
            refine ⟨⟨j + 1, by omega, by simp, HF7⟩, ?_⟩
            simp only [intOf]
            omega
          · obtain rfl : j = x.needs.length := by omega
            have hF6 := HF6.out
            rw [List.take_length] at hF6
            have HF7 := Aside0.mk hF6
            obtain ⟨t, ht⟩ := addAll_prefix s x.needs
            have hle : s.length ≤ (addAll s x.needs).length := by rw [ht, List.length_append]; omega
            have hG4 : (pre ++ [id]) ++ bfsGo L (L.length + 2 - (at_ + 1)) (addAll s x.needs) (at_ + 1) = groupOf L root := by
              rw [← HG3.out, show L.length + 2 - (at_ + 1) = L.length + 1 - at_ by omega, List.append_assoc]
              rfl
            have HG4 := Aside0.mk hG4
            clear hF6 HF6 ht hG4 HG3 hcm6 hbw6
            gi_wp2_with fail
            refine ⟨⟨at_ + 1, addAll s x.needs, pre ++ [id], by simp, by omega, by rw [List.length_append]; simp only [List.length_singleton]; omega, HG4, HF7⟩, ?_⟩
            simp only [intOf]
            omega
      · rw [hx] at hG
        simp only at hG
        have HG3 := Aside0.mk hG
        clear hG HG hx HCASE HID
        gi_wp2_with fail
        refine ⟨⟨at_ + 1, s, pre, by simp, by omega, by omega, ⟨by rw [show L.length + 2 - (at_ + 1) = L.length + 1 - at_ by omega]; exact HG3.out⟩, HF3⟩, ?_⟩
        simp only [intOf]
        omega
    · obtain rfl : at_ = s.length := by omega
      have hG := HG.out
      rw [show L.length + 2 - s.length = (L.length + 1 - s.length) + 1 by omega, bfsGo, List.getElem?_eq_none (Nat.le_refl _)] at hG
      simp only [List.append_nil] at hG
      subst hG
      obtain ⟨v1, vs, g1, g2, g3⟩ := HF2.out.out
      have HG2 := Aside0.mk g2
      clear g1 g2 g3 HG hob hC hcm hbw htc
      gi_wp2_with fail
      go_end0
      exact ⟨⟨_, rfl⟩, v1, HG2.out⟩
end Go.Proofs.Ytmcihkfbgcfccaa.H
