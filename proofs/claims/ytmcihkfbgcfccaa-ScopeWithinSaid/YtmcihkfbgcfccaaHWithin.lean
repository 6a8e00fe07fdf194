/- ScopeWithin. -/
import Derived.Test.YtmcihkfbgcfccaaHFacts
import Derived.Test.YtmcihkfbgcfccaaHGrq
import Derived.Deep.Cut
import Derived.Deep.Cut
namespace Go.Proofs.Ytmcihkfbgcfccaa.H
open Go.RowKit Go.Proofs.Ytmcihkfbgcfccaa.Z Go.Proofs.YtmcihkfbgcfccaaW.PrintWords Go.Proofs.YtmcihkfbgcfccaaW.PrintLast Go.Proofs.YtmcihkfbgcfccaaW.PrintMore
set_option linter.unusedVariables false
set_option linter.unusedSimpArgs false
noncomputable def within_T9 : Bool × List (List Nat × List Nat) := rtab .any (opsOf Try.f5 9)
theorem within_tab9 : rtab .any (opsOf Try.f5 9) = within_T9 := rfl
def within_B9 : List Nat := [0, 0, 2, 7, 0, 0, 32, 127, 255, 511]
theorem within_bits9 : waitsOk within_T9.2 within_B9 = true := by kernel_rfl
noncomputable def within_T13 : Bool × List (List Nat × List Nat) := rtab .any (opsOf Try.f5 13)
theorem within_tab13 : rtab .any (opsOf Try.f5 13) = within_T13 := rfl
def within_B13 : List Nat := [0, 1, 3, 7, 15, 31, 63, 127, 7, 263, 1023, 2047, 4095, 8191, 16383]
theorem within_bits13 : waitsOk within_T13.2 within_B13 = true := by kernel_rfl
noncomputable def within_T15 : Bool × List (List Nat × List Nat) := rtab .any (opsOf Try.f5 15)
theorem within_tab15 : rtab .any (opsOf Try.f5 15) = within_T15 := rfl
def within_B15 : List Nat := [0, 1, 3, 3, 11, 27, 59, 127, 3, 259, 1023, 2047, 4095, 8191, 8191, 24575, 65535, 8191, 139263, 524287, 1048575, 2097151, 4194303, 8388607, 16777215]
theorem within_bits15 : waitsOk within_T15.2 within_B15 = true := by kernel_rfl
set_option maxRecDepth 100000 in
set_option maxHeartbeats 20000000 in
theorem within_walk (w : World) (x : Array Value) (l : List S81) (id root sym : Int) (nm ver : ByteArray) (ids : List Int) (h : AskR w x l id root sym nm ver ids) :
    Calls Try.prog 5 #[.agg x] w fun e w' => e = .returned (.bool true) ∧ Below w.heap.size w w' := by
  obtain ⟨⟨A, c, A6, c6, rfl, hc, hc6, hm6, hC, hC6⟩, hwn, hid, hroot, hsym, hids⟩ := h
  obtain ⟨g, hg, hsm⟩ := great_f l
  obtain ⟨wb, hwb⟩ : ∃ wb, wb = w.alloc (.cells #[.slice A l.length c, .int .i64 id, .int .i64 root, .int .i64 sym, .string nm, .string ver, .slice A6 ids.length c6] 39) := ⟨_, rfl⟩
  have hbl : wb.heap[w.heap.size]? = some (.cells #[.slice A l.length c, .int .i64 id, .int .i64 root, .int .i64 sym, .string nm, .string ver, .slice A6 ids.length c6] 39 (0, 0)) := by rw [hwb]; exact heap_alloc_new w _
  have HBL := Aside0.mk hbl
  have HBW := Aside0.mk (show Below w.heap.size w wb by rw [hwb]; exact below_alloc (Below.refl _ _) _)
  have HWB := Aside0.mk hwb
  have HC := Aside0.mk (Kd.C_below hC HBW.out)
  have HG := Aside0.mk (messuagelaw23_great.calls fuel A c l g wb HC.out hc hg)
  have hy0 : wb.cell? ⟨w.heap.size, 0, none⟩ = some (.slice A l.length c) := (blk_cell hbl 0).trans rfl
  clear hbl hwb hC hC6 hwn hids hg
  go_enter Try.func5, Try.ntmps5
  go_wp2_with fail
  rw [← HWB.out]
  refine HG.out.mono ?_
  rintro e w1 ⟨rfl, hdr⟩
  have hb1 := hdr.below
  have hbl1 := (hb1.block _ (heap_lt_of HBL.out)).trans HBL.out
  have HBL1 := Aside0.mk hbl1
  have HBW1 := Aside0.mk (below_then HBW.out HBW.out.size hb1)
  have HC1 := Aside0.mk (Kd.C_below HC.out hb1)
  clear hb1 hdr hbl1 hy0 HC HG HBL HBW HWB
  cases g with
  | true =>
    go_wp2
    go_ret
    exact ⟨rfl, HBW1.out⟩
  | false =>
    obtain ⟨hl12, hl40⟩ := hsm rfl
    have HMC := Aside0.mk (made_calls w1 A c l HC1.out hl12 hl40)
    have hsmall := netOf_small hl12 hl40
    have HSM := Aside0.mk hsmall
    have hy0 : w1.cell? ⟨w.heap.size, 0, none⟩ = some (.slice A l.length c) := (blk_cell HBL1.out 0).trans rfl
    clear hsm hsmall HC1
    go_wp2_with fail
    refine HMC.out.mono ?_
    rintro e w2 ⟨bt, rA, rc, rs, S, rfl, q1, q2, q3⟩
    have HBW2 := Aside0.mk (below_then HBW1.out HBW1.out.size q3)
    have HBL2 := Aside0.mk ((q3.block _ (heap_lt_of HBL1.out)).trans HBL1.out)
    have HT2 := Aside0.mk q1
    clear q1 q2 q3 hy0 HMC HBL1 HBW1 hl12 hl40
    obtain ⟨L, HLL⟩ : ∃ L, Aside0 (netOf l = L) := ⟨_, ⟨rfl⟩⟩
    rw [HLL.out] at HT2 HSM
    go_upto_region 4 with (fail)
    obtain ⟨w3, hw3⟩ : ∃ w3, w3 = w2.alloc (.cells #[.int .i64 12, .int .i64 ((l.length : Int) + 1), .slice rA l.length rc] 27) := ⟨_, rfl⟩
    rw [← hw3]
    have hb3 : Below w2.heap.size w2 w3 := by rw [hw3]; exact below_alloc (Below.refl _ _) _
    have HT := Aside0.mk (HT2.out.below hb3)
    have HBL := Aside0.mk ((hb3.block _ (heap_lt_of HBL2.out)).trans HBL2.out)
    have HBW := Aside0.mk (below_then HBW2.out HBW2.out.size hb3)
    clear hw3 hb3 HT2 HBL2 HBW2
    have hy1 : w3.cell? ⟨w.heap.size, 1, none⟩ = some (.int .i64 id) := (blk_cell HBL.out 1).trans rfl
    have hy2 : w3.cell? ⟨w.heap.size, 2, none⟩ = some (.int .i64 root) := (blk_cell HBL.out 2).trans rfl
    have hy3 : w3.cell? ⟨w.heap.size, 3, none⟩ = some (.int .i64 sym) := (blk_cell HBL.out 3).trans rfl
    rcases hres : resTot L id root sym with ⟨h1, h2, found, e⟩
    have hres' := resOf_tot HSM.out id root sym
    rw [hres] at hres'
    have HRC := Aside0.mk (resolve_calls fuel w3 bt L id root sym h1 h2 found e HT.out HSM.out.len HSM.out.needs hid hroot hres')
    have HRES := Aside0.mk hres
    clear hres hres'
    go_wp2_with fail
    refine HRC.out.mono ?_
    rintro _ w4 ⟨rfl, hb4⟩
    obtain ⟨w5, hw5⟩ : ∃ w5, w5 = w4.alloc (.cells #[.int .i64 h1, .int .i64 h2] 41) := ⟨_, rfl⟩
    have hb45 : Below w4.heap.size w4 w5 := by rw [hw5]; exact below_alloc (Below.refl _ _) _
    have hb5 := below_then hb4 hb4.size hb45
    have HT5 := Aside0.mk (HT.out.below hb5)
    have HBL5 := Aside0.mk ((hb5.block _ (heap_lt_of HBL.out)).trans HBL.out)
    have HBW5 := Aside0.mk (below_then HBW.out HBW.out.size hb5)
    have HH5 := Aside0.mk (show w5.heap[w4.heap.size]? = some (.cells #[.int .i64 h1, .int .i64 h2] 41 (0, 0)) by rw [hw5]; exact heap_alloc_new w4 _)
    clear hb4 hb45 hb5 HT HBL HBW HRC hy1 hy2 hy3
    go_upto_region 7 with (fail)
    rw [← hw5]
    clear hw5
    obtain ⟨hg, hhg⟩ : ∃ hg, hg = w4.heap.size := ⟨_, rfl⟩
    rw [← hhg] at HH5 ⊢
    clear hhg
    cases found with
    | false =>
      by_cases he : e = 0
      · subst he
        go_wp2_with fail
        refine (alive_calls w5).mono ?_
        rintro _ we ⟨rfl, hbe⟩
        have HBE := Aside0.mk (below_then HBW5.out HBW5.out.size hbe)
        clear hbe
        go_wp2
        go_ret
        exact ⟨rfl, HBE.out⟩
      · have heb : (e == 0) = false := beq_eq_false_iff_ne.mpr he
        go_wp2_with fail
        refine (alive_calls w5).mono ?_
        rintro _ we ⟨rfl, hbe⟩
        have HBE := Aside0.mk (below_then HBW5.out HBW5.out.size hbe)
        clear hbe
        go_wp2
        go_ret
        exact ⟨rfl, HBE.out⟩
    | true =>
      have he : e = 0 := by
        by_cases he : e = 0
        · exact he
        · exact absurd (res_not HRES.out he) (by simp)
      subst he
      obtain ⟨x, o, hx, ho, hs0, hs1, hn0, hn1, hnm, hdf, hwh⟩ := res_within HRES.out
      have hwd1 : (Lit.int .i64 h1).wf = true := by
        have := insAt_bd ho
        have := HSM.out.len
        exact wf_small (by omega) (by omega)
      obtain ⟨vi, hgi, hci⟩ := get_D w5 w5 bt L id HT5.out (Below.refl _ _) hid
      rcases hci with ⟨b, x', rfl, hx', _, hI⟩ | ⟨_, hx'⟩
      case inr => rw [hx] at hx'; cases hx'
      rw [hx] at hx'
      injection hx' with hx'
      subst hx'
      obtain ⟨vo, hgo, hco⟩ := get_D w5 w5 bt L h1 HT5.out (Below.refl _ _) hwd1
      rcases hco with ⟨ob, o', rfl, ho', _, hJ⟩ | ⟨_, ho'⟩
      case inr => rw [ho] at ho'; cases ho'
      rw [ho] at ho'
      injection ho' with ho'
      subst ho'
      have HGI := Aside0.mk hgi
      have HGO := Aside0.mk hgo
      obtain ⟨sA, sc, nA, nc, i1, i2, i3, i4, i5⟩ := hI.out
      obtain ⟨tA, tc, mA, mc, j1, j2, j3, j4, j5⟩ := hJ.out
      have hs62 : w5.cell? ⟨b, 62, none⟩ = some (.slice sA x.syms.length sc) := (blk_cell i1 62).trans rfl
      have ht62 : w5.cell? ⟨ob, 62, none⟩ = some (.slice tA o.syms.length tc) := (blk_cell j1 62).trans rfl
      have HII := Aside0.mk i1
      have HJJ := Aside0.mk j1
      obtain ⟨ad, e0, hx0, _⟩ := at_T76 i2 sym hs0 hs1
      obtain ⟨ae, e1, hz0, hz1, hz2, hz3, hz4, hz5, hz6⟩ := at_T76 j2 h2 hn0 hn1
      subst e0 e1
      obtain ⟨s, HS0⟩ : ∃ s, Aside0 (rd_T76 x.syms sym = s) := ⟨_, ⟨rfl⟩⟩
      obtain ⟨u, HU0⟩ : ∃ u, Aside0 (rd_T76 o.syms h2 = u) := ⟨_, ⟨rfl⟩⟩
      rw [HS0.out] at hx0 hnm
      rw [HU0.out] at hz0 hz1 hz2 hz3 hz4 hz5 hz6 hnm hdf hwh
      rw [hdf] at hz4
      have HWH := Aside0.mk hwh
      clear hI hJ i1 i2 i3 i4 i5 j1 j2 j3 j4 j5 hgi hgo hwh
      have hy1 : w5.cell? ⟨w.heap.size, 1, none⟩ = some (.int .i64 id) := (blk_cell HBL5.out 1).trans rfl
      have hy3 : w5.cell? ⟨w.heap.size, 3, none⟩ = some (.int .i64 sym) := (blk_cell HBL5.out 3).trans rfl
      have hh0 : w5.cell? ⟨hg, 0, none⟩ = some (.int .i64 h1) := (blk_cell HH5.out 0).trans rfl
      have hh1 : w5.cell? ⟨hg, 1, none⟩ = some (.int .i64 h2) := (blk_cell HH5.out 1).trans rfl
      have d1 : decide (h2 < 0) = false := decide_eq_false (by omega)
      have d2 : decide ((o.syms.length : Int) ≤ h2) = false := decide_eq_false (by omega)
      have d3 : (u.f0.toList != s.f0.toList) = false := by simp [hnm]
      go_upto_region 9 with (fail)
      have hBd : Below w5.heap.size w5 w5.drew := below_drew1 (Below.refl _ _)
      refine start_ (n := 10) (S := fun w' => Below w5.heap.size w5 w') (ds := []) #[false, false, false, false, false, false, false, false, false, false] (by kernel_rfl) rfl rfl hBd (fun hHeld => ?_); refine with_tabW within_tab9 within_bits9 (fun HT_ HW_ => ?_)
      have HGIa : Aside0 (Calls Try.prog 22 #[.pointer (some ⟨bt, 0, none⟩), .int .i64 id] w5.drew fun e w' => e = .returned (.pointer (some ⟨b, 0, none⟩)) ∧ w' = w5.drew) := ⟨HGI.out 1⟩
      have HGOa : Aside0 (Calls Try.prog 22 #[.pointer (some ⟨bt, 0, none⟩), .int .i64 h1] w5.drew fun e w' => e = .returned (.pointer (some ⟨ob, 0, none⟩)) ∧ w' = w5.drew) := ⟨HGO.out 1⟩
      refine pure_ (i := 0) (N := some 47) (v := ?_) (a' := ?_) #[true, false, false, false, false, false, false, false, false, false] rfl rfl (any_of HT_.out (by kernel_rfl)) (fun _ _ _ h => h) (Or.inl ⟨by rfl, ?_⟩) ?_ ?_
      rotate_left
      · intro w'
        go_simp
        with_reducible rfl
      rotate_left
      · simp only [Act.put, List.setIfInBounds_toArray, List.set_cons_zero, List.set_cons_succ, i64_w, i32_w]
        rfl
      refine pure_ (i := 1) (N := some 48) (v := ?_) (a' := ?_) #[true, true, false, false, false, false, false, false, false, false] rfl rfl (any_of HT_.out (by kernel_rfl)) (fun _ _ _ h => h) (Or.inl ⟨by rfl, ?_⟩) ?_ ?_
      rotate_left
      · intro w'
        go_simp
        with_reducible rfl
      rotate_left
      · simp only [Act.put, List.setIfInBounds_toArray, List.set_cons_zero, List.set_cons_succ, i64_w, i32_w]
        rfl
      refine take_ (i := 2) (N := some 49) (v := ?_) (a' := ?_) #[true, true, true, false, false, false, false, false, false, false] rfl rfl (take_ofW HT_.out HW_.out (by kernel_rfl)) (fun _ _ _ h => h) (Or.inl ⟨by rfl, ?_⟩) hHeld ?_ ?_
      rotate_left
      · intro w' s0
        have q0 : w'.cell? ⟨w.heap.size, 1, none⟩ = some (.int .i64 id) := (s0.cell (p := ⟨w.heap.size, 1, none⟩) (heap_lt_of HBL5.out)).trans ((blk_cell HBL5.out 1).trans rfl)
        clear s0
        go_simp
        with_reducible rfl
      rotate_left
      · simp only [Act.put, List.setIfInBounds_toArray, List.set_cons_zero, List.set_cons_succ, i64_w, i32_w]
        rfl
      refine pure_ (i := 4) (N := some 51) (v := ?_) (a' := ?_) #[true, true, true, false, true, false, false, false, false, false] rfl rfl (any_of HT_.out (by kernel_rfl)) (fun _ _ _ h => h) (Or.inl ⟨by rfl, ?_⟩) ?_ ?_
      rotate_left
      · intro w'
        go_simp
        with_reducible rfl
      rotate_left
      · simp only [Act.put, List.setIfInBounds_toArray, List.set_cons_zero, List.set_cons_succ, i64_w, i32_w]
        rfl
      refine pure_ (i := 5) (N := some 52) (v := ?_) (a' := ?_) #[true, true, true, false, true, true, false, false, false, false] rfl rfl (any_of HT_.out (by kernel_rfl)) (fun _ _ _ h => h) (Or.inl ⟨by rfl, ?_⟩) ?_ ?_
      rotate_left
      · intro w'
        go_simp
        with_reducible rfl
      rotate_left
      · simp only [Act.put, List.setIfInBounds_toArray, List.set_cons_zero, List.set_cons_succ, i64_w, i32_w]
        rfl
      refine take_ (i := 6) (N := some 53) (v := ?_) (a' := ?_) #[true, true, true, false, true, true, true, false, false, false] rfl rfl (take_ofW HT_.out HW_.out (by kernel_rfl)) (fun _ _ _ h => h) (Or.inl ⟨by rfl, ?_⟩) hHeld ?_ ?_
      rotate_left
      · intro w' s0
        have q0 : w'.cell? ⟨hg, 0, none⟩ = some (.int .i64 h1) := (s0.cell (p := ⟨hg, 0, none⟩) (heap_lt_of HH5.out)).trans ((blk_cell HH5.out 0).trans rfl)
        clear s0
        go_simp
        with_reducible rfl
      rotate_left
      · simp only [Act.put, List.setIfInBounds_toArray, List.set_cons_zero, List.set_cons_succ, i64_w, i32_w]
        rfl
      refine one_ (i := 3) (N := some 50) #[true, true, true, true, true, true, true, false, false, false] rfl rfl (one_of HT_.out (by kernel_rfl)) (by decide) (fun K hK => ?_)
      refine goes_ Try.func22 (by kernel_rfl) rfl #[.pointer (some ⟨bt, 0, none⟩), .int .i64 id] (by rfl) rfl rfl (by (try simp only [List.map_toArray, List.map_cons, List.map_nil]); first | done | rfl) ?_
      refine (HGIa.out).mono ?_
      rintro _ w_1 ⟨rfl, rfl⟩
      refine ⟨_, rfl, ?_⟩
      refine hK.out _ _ hBd (fun hHeld_1 => ?_)
      clear hK K
      refine norm_ (a' := ?_) ?_ ?_
      rotate_left
      · show Act.put _ (some 50) _ = _
        simp only [Act.put, List.setIfInBounds_toArray, List.set_cons_zero, List.set_cons_succ, i64_w, i32_w]
        rfl
      refine one_ (i := 7) (N := some 54) #[true, true, true, true, true, true, true, true, false, false] rfl rfl (one_of HT_.out (by kernel_rfl)) (by decide) (fun K hK => ?_)
      refine goes_ Try.func22 (by kernel_rfl) rfl #[.pointer (some ⟨bt, 0, none⟩), .int .i64 h1] (by rfl) rfl rfl (by (try simp only [List.map_toArray, List.map_cons, List.map_nil]); first | done | rfl) ?_
      refine (HGOa.out).mono ?_
      rintro _ w_2 ⟨rfl, rfl⟩
      refine ⟨_, rfl, ?_⟩
      refine hK.out _ _ hBd (fun hHeld_2 => ?_)
      clear hK K
      refine norm_ (a' := ?_) ?_ ?_
      rotate_left
      · show Act.put _ (some 54) _ = _
        simp only [Act.put, List.setIfInBounds_toArray, List.set_cons_zero, List.set_cons_succ, i64_w, i32_w]
        rfl
      refine pure_ (i := 8) (N := some 9) (v := ?_) (a' := ?_) #[true, true, true, true, true, true, true, true, true, false] rfl rfl (any_of HT_.out (by kernel_rfl)) (fun _ _ _ h => h) (Or.inl ⟨by rfl, ?_⟩) ?_ ?_
      rotate_left
      · intro w'
        go_simp
        with_reducible rfl
      rotate_left
      · simp only [Act.put, List.setIfInBounds_toArray, List.set_cons_zero, List.set_cons_succ, i64_w, i32_w]
        rfl
      refine pure_ (i := 9) (N := some 10) (v := ?_) (a' := ?_) #[true, true, true, true, true, true, true, true, true, true] rfl rfl (any_of HT_.out (by kernel_rfl)) (fun _ _ _ h => h) (Or.inl ⟨by rfl, ?_⟩) ?_ ?_
      rotate_left
      · intro w'
        go_simp
        with_reducible rfl
      rotate_left
      · simp only [Act.put, List.setIfInBounds_toArray, List.set_cons_zero, List.set_cons_succ, i64_w, i32_w]
        rfl
      refine done_ (done_of HT_.out (by kernel_rfl)) ?_
      go_upto_region 10 with (fail)
      go_quiet ((fail))
      go_upto_region 12 with (fail)
      obtain ⟨w6, HW6⟩ : ∃ w6, Aside0 (w6 = (w5.drew).drewN nq) := ⟨_, ⟨rfl⟩⟩
      rw [← HW6.out]
      have hb6 : Below w5.heap.size w5 w6 := by rw [HW6.out]; exact pw_below_drewN (below_drew1 (Below.refl _ _)) nq
      have HT := Aside0.mk (HT5.out.below hb6)
      have HBL := Aside0.mk ((hb6.block _ (heap_lt_of HBL5.out)).trans HBL5.out)
      have HBW := Aside0.mk (below_then HBW5.out HBW5.out.size hb6)
      have HII6 := Aside0.mk ((hb6.block _ (heap_lt_of HII.out)).trans HII.out)
      have HJJ6 := Aside0.mk ((hb6.block _ (heap_lt_of HJJ.out)).trans HJJ.out)
      have HH := Aside0.mk ((hb6.block _ (heap_lt_of HH5.out)).trans HH5.out)
      have hz0 := (hb6.cell (World.block_lt_of_cell? w5 _ hz0)).trans hz0
      have hz1 := (hb6.cell (World.block_lt_of_cell? w5 _ hz1)).trans hz1
      have hz2 := (hb6.cell (World.block_lt_of_cell? w5 _ hz2)).trans hz2
      have hz3 := (hb6.cell (World.block_lt_of_cell? w5 _ hz3)).trans hz3
      have hz4 := (hb6.cell (World.block_lt_of_cell? w5 _ hz4)).trans hz4
      have hz5 := (hb6.cell (World.block_lt_of_cell? w5 _ hz5)).trans hz5
      have hz6 := (hb6.cell (World.block_lt_of_cell? w5 _ hz6)).trans hz6
      clear hb6 HW6 HT5 HBL5 HBW5 HII HJJ HH5 hy1 hy3 hh0 hh1 hs62 ht62 hx0 d1 d2 d3 HGI HGO
      have HII := Aside0.mk HII6.out
      have HJJ := Aside0.mk HJJ6.out
      clear HII6 HJJ6
      have hy1 : w6.cell? ⟨w.heap.size, 1, none⟩ = some (.int .i64 id) := (blk_cell HBL.out 1).trans rfl
      have hh0 : w6.cell? ⟨hg, 0, none⟩ = some (.int .i64 h1) := (blk_cell HH.out 0).trans rfl
      go_cut [11] from 12 (fun v wx => Value.bool (h1 == id) = v ∧ w6 = wx)
      case first =>
        go_wp2_with fail
        go_meet
        case rel => exact ⟨rfl, rfl⟩
      case rest =>
        obtain ⟨rfl, rfl⟩ := hcut
        by_cases hown : h1 = id
        · have hob : (h1 == id) = true := beq_iff_eq.mpr hown
          rw [hob]
          clear HWH
          go_upto_region 13 with (fail)
          go_quiet ((fail))
          go_upto_region 15 with (fail)
          obtain ⟨w7, HW7⟩ : ∃ w7, Aside0 (w7 = w6.drewN nq) := ⟨_, ⟨rfl⟩⟩
          rw [← HW7.out]
          have hb7 : Below w6.heap.size w6 w7 := by rw [HW7.out]; exact pw_below_drewN (Below.refl _ _) nq
          have HBW := Aside0.mk (below_then HBW.out HBW.out.size hb7)
          clear hb7 HW7
          have hBd : Below w7.heap.size w7 w7.drew := below_drew1 (Below.refl _ _)
          refine start_ (n := 25) (S := fun w' => Below w7.heap.size w7 w') (ds := []) #[false, false, false, false, false, false, false, false, false, false, false, false, false, false, false, false, false, false, false, false, false, false, false, false, false] (by kernel_rfl) rfl rfl hBd (fun hHeld => ?_); refine with_tabW within_tab15 within_bits15 (fun HT_ HW_ => ?_)
          refine pure_ (i := 0) (N := some 133) (v := ?_) (a' := ?_) #[true, false, false, false, false, false, false, false, false, false, false, false, false, false, false, false, false, false, false, false, false, false, false, false, false] rfl rfl (any_of HT_.out (by kernel_rfl)) (fun _ _ _ h => h) (Or.inl ⟨by rfl, ?_⟩) ?_ ?_
          rotate_left
          · intro w'
            go_simp
            with_reducible rfl
          rotate_left
          · simp only [Act.put, List.setIfInBounds_toArray, List.set_cons_zero, List.set_cons_succ, i64_w, i32_w]
            rfl
          refine pure_ (i := 1) (N := some 134) (v := ?_) (a' := ?_) #[true, true, false, false, false, false, false, false, false, false, false, false, false, false, false, false, false, false, false, false, false, false, false, false, false] rfl rfl (any_of HT_.out (by kernel_rfl)) (fun _ _ _ h => h) (Or.inl ⟨by rfl, ?_⟩) ?_ ?_
          rotate_left
          · intro w'
            go_simp
            with_reducible rfl
          rotate_left
          · simp only [Act.put, List.setIfInBounds_toArray, List.set_cons_zero, List.set_cons_succ, i64_w, i32_w]
            rfl
          refine pure_ (i := 2) (N := some 135) (v := undef) (a' := ?_) #[true, true, true, false, false, false, false, false, false, false, false, false, false, false, false, false, false, false, false, false, false, false, false, false, false] rfl rfl (any_of HT_.out (by kernel_rfl)) (fun _ _ _ h => h) (Or.inr ⟨by rfl, rfl⟩) ?_ ?_
          rotate_left
          · simp only [Act.put, List.setIfInBounds_toArray, List.set_cons_zero, List.set_cons_succ, i64_w, i32_w]
            rfl
          refine pure_ (i := 3) (N := some 136) (v := undef) (a' := ?_) #[true, true, true, true, false, false, false, false, false, false, false, false, false, false, false, false, false, false, false, false, false, false, false, false, false] rfl rfl (any_of HT_.out (by kernel_rfl)) (fun _ _ _ h => h) (Or.inr ⟨by rfl, rfl⟩) ?_ ?_
          rotate_left
          · simp only [Act.put, List.setIfInBounds_toArray, List.set_cons_zero, List.set_cons_succ, i64_w, i32_w]
            rfl
          refine pure_ (i := 4) (N := some 137) (v := undef) (a' := ?_) #[true, true, true, true, true, false, false, false, false, false, false, false, false, false, false, false, false, false, false, false, false, false, false, false, false] rfl rfl (any_of HT_.out (by kernel_rfl)) (fun _ _ _ h => h) (Or.inr ⟨by rfl, rfl⟩) ?_ ?_
          rotate_left
          · simp only [Act.put, List.setIfInBounds_toArray, List.set_cons_zero, List.set_cons_succ, i64_w, i32_w]
            rfl
          refine pure_ (i := 5) (N := some 138) (v := undef) (a' := ?_) #[true, true, true, true, true, true, false, false, false, false, false, false, false, false, false, false, false, false, false, false, false, false, false, false, false] rfl rfl (any_of HT_.out (by kernel_rfl)) (fun _ _ _ h => h) (Or.inr ⟨by rfl, rfl⟩) ?_ ?_
          rotate_left
          · simp only [Act.put, List.setIfInBounds_toArray, List.set_cons_zero, List.set_cons_succ, i64_w, i32_w]
            rfl
          refine pure_ (i := 6) (N := some 139) (v := undef) (a' := ?_) #[true, true, true, true, true, true, true, false, false, false, false, false, false, false, false, false, false, false, false, false, false, false, false, false, false] rfl rfl (any_of HT_.out (by kernel_rfl)) (fun _ _ _ h => h) (Or.inr ⟨by rfl, rfl⟩) ?_ ?_
          rotate_left
          · simp only [Act.put, List.setIfInBounds_toArray, List.set_cons_zero, List.set_cons_succ, i64_w, i32_w]
            rfl
          refine pure_ (i := 7) (N := some 140) (v := undef) (a' := ?_) #[true, true, true, true, true, true, true, true, false, false, false, false, false, false, false, false, false, false, false, false, false, false, false, false, false] rfl rfl (any_of HT_.out (by kernel_rfl)) (fun _ _ _ h => h) (Or.inr ⟨by rfl, rfl⟩) ?_ ?_
          rotate_left
          · simp only [Act.put, List.setIfInBounds_toArray, List.set_cons_zero, List.set_cons_succ, i64_w, i32_w]
            rfl
          refine pure_ (i := 8) (N := some 141) (v := undef) (a' := ?_) #[true, true, true, true, true, true, true, true, true, false, false, false, false, false, false, false, false, false, false, false, false, false, false, false, false] rfl rfl (any_of HT_.out (by kernel_rfl)) (fun _ _ _ h => h) (Or.inr ⟨by rfl, rfl⟩) ?_ ?_
          rotate_left
          · simp only [Act.put, List.setIfInBounds_toArray, List.set_cons_zero, List.set_cons_succ, i64_w, i32_w]
            rfl
          refine pure_ (i := 9) (N := some 142) (v := undef) (a' := ?_) #[true, true, true, true, true, true, true, true, true, true, false, false, false, false, false, false, false, false, false, false, false, false, false, false, false] rfl rfl (any_of HT_.out (by kernel_rfl)) (fun _ _ _ h => h) (Or.inr ⟨by rfl, rfl⟩) ?_ ?_
          rotate_left
          · simp only [Act.put, List.setIfInBounds_toArray, List.set_cons_zero, List.set_cons_succ, i64_w, i32_w]
            rfl
          refine pure_ (i := 10) (N := some 143) (v := undef) (a' := ?_) #[true, true, true, true, true, true, true, true, true, true, true, false, false, false, false, false, false, false, false, false, false, false, false, false, false] rfl rfl (any_of HT_.out (by kernel_rfl)) (fun _ _ _ h => h) (Or.inr ⟨by rfl, rfl⟩) ?_ ?_
          rotate_left
          · simp only [Act.put, List.setIfInBounds_toArray, List.set_cons_zero, List.set_cons_succ, i64_w, i32_w]
            rfl
          refine pure_ (i := 11) (N := some 144) (v := ?_) (a' := ?_) #[true, true, true, true, true, true, true, true, true, true, true, true, false, false, false, false, false, false, false, false, false, false, false, false, false] rfl rfl (any_of HT_.out (by kernel_rfl)) (fun _ _ _ h => h) (Or.inl ⟨by rfl, ?_⟩) ?_ ?_
          rotate_left
          · intro w'
            go_simp
            with_reducible rfl
          rotate_left
          · simp only [Act.put, List.setIfInBounds_toArray, List.set_cons_zero, List.set_cons_succ, i64_w, i32_w]
            rfl
          refine pure_ (i := 12) (N := some 145) (v := ?_) (a' := ?_) #[true, true, true, true, true, true, true, true, true, true, true, true, true, false, false, false, false, false, false, false, false, false, false, false, false] rfl rfl (any_of HT_.out (by kernel_rfl)) (fun _ _ _ h => h) (Or.inl ⟨by rfl, ?_⟩) ?_ ?_
          rotate_left
          · intro w'
            go_simp
            with_reducible rfl
          rotate_left
          · simp only [Act.put, List.setIfInBounds_toArray, List.set_cons_zero, List.set_cons_succ, i64_w, i32_w]
            rfl
          refine pure_ (i := 13) (N := some 146) (v := undef) (a' := ?_) #[true, true, true, true, true, true, true, true, true, true, true, true, true, true, false, false, false, false, false, false, false, false, false, false, false] rfl rfl (any_of HT_.out (by kernel_rfl)) (fun _ _ _ h => h) (Or.inr ⟨by rfl, rfl⟩) ?_ ?_
          rotate_left
          · simp only [Act.put, List.setIfInBounds_toArray, List.set_cons_zero, List.set_cons_succ, i64_w, i32_w]
            rfl
          refine pure_ (i := 14) (N := some 147) (v := undef) (a' := ?_) #[true, true, true, true, true, true, true, true, true, true, true, true, true, true, true, false, false, false, false, false, false, false, false, false, false] rfl rfl (any_of HT_.out (by kernel_rfl)) (fun _ _ _ h => h) (Or.inr ⟨by rfl, rfl⟩) ?_ ?_
          rotate_left
          · simp only [Act.put, List.setIfInBounds_toArray, List.set_cons_zero, List.set_cons_succ, i64_w, i32_w]
            rfl
          refine pure_ (i := 15) (N := some 148) (v := undef) (a' := ?_) #[true, true, true, true, true, true, true, true, true, true, true, true, true, true, true, true, false, false, false, false, false, false, false, false, false] rfl rfl (any_of HT_.out (by kernel_rfl)) (fun _ _ _ h => h) (Or.inr ⟨by rfl, rfl⟩) ?_ ?_
          rotate_left
          · simp only [Act.put, List.setIfInBounds_toArray, List.set_cons_zero, List.set_cons_succ, i64_w, i32_w]
            rfl
          refine pure_ (i := 16) (N := some 149) (v := undef) (a' := ?_) #[true, true, true, true, true, true, true, true, true, true, true, true, true, true, true, true, true, false, false, false, false, false, false, false, false] rfl rfl (any_of HT_.out (by kernel_rfl)) (fun _ _ _ h => h) (Or.inr ⟨by rfl, rfl⟩) ?_ ?_
          rotate_left
          · simp only [Act.put, List.setIfInBounds_toArray, List.set_cons_zero, List.set_cons_succ, i64_w, i32_w]
            rfl
          refine pure_ (i := 17) (N := some 150) (v := undef) (a' := ?_) #[true, true, true, true, true, true, true, true, true, true, true, true, true, true, true, true, true, true, false, false, false, false, false, false, false] rfl rfl (any_of HT_.out (by kernel_rfl)) (fun _ _ _ h => h) (Or.inr ⟨by rfl, rfl⟩) ?_ ?_
          rotate_left
          · simp only [Act.put, List.setIfInBounds_toArray, List.set_cons_zero, List.set_cons_succ, i64_w, i32_w]
            rfl
          refine pure_ (i := 18) (N := some 151) (v := undef) (a' := ?_) #[true, true, true, true, true, true, true, true, true, true, true, true, true, true, true, true, true, true, true, false, false, false, false, false, false] rfl rfl (any_of HT_.out (by kernel_rfl)) (fun _ _ _ h => h) (Or.inr ⟨by rfl, rfl⟩) ?_ ?_
          rotate_left
          · simp only [Act.put, List.setIfInBounds_toArray, List.set_cons_zero, List.set_cons_succ, i64_w, i32_w]
            rfl
          refine pure_ (i := 19) (N := some 152) (v := undef) (a' := ?_) #[true, true, true, true, true, true, true, true, true, true, true, true, true, true, true, true, true, true, true, true, false, false, false, false, false] rfl rfl (any_of HT_.out (by kernel_rfl)) (fun _ _ _ h => h) (Or.inr ⟨by rfl, rfl⟩) ?_ ?_
          rotate_left
          · simp only [Act.put, List.setIfInBounds_toArray, List.set_cons_zero, List.set_cons_succ, i64_w, i32_w]
            rfl
          refine pure_ (i := 20) (N := some 153) (v := ?_) (a' := ?_) #[true, true, true, true, true, true, true, true, true, true, true, true, true, true, true, true, true, true, true, true, true, false, false, false, false] rfl rfl (any_of HT_.out (by kernel_rfl)) (fun _ _ _ h => h) (Or.inl ⟨by rfl, ?_⟩) ?_ ?_
          rotate_left
          · intro w'
            go_simp
            with_reducible rfl
          rotate_left
          · simp only [Act.put, List.setIfInBounds_toArray, List.set_cons_zero, List.set_cons_succ, i64_w, i32_w]
            rfl
          refine pure_ (i := 21) (N := some 154) (v := ?_) (a' := ?_) #[true, true, true, true, true, true, true, true, true, true, true, true, true, true, true, true, true, true, true, true, true, true, false, false, false] rfl rfl (any_of HT_.out (by kernel_rfl)) (fun _ _ _ h => h) (Or.inl ⟨by rfl, ?_⟩) ?_ ?_
          rotate_left
          · intro w'
            go_simp
            with_reducible rfl
          rotate_left
          · simp only [Act.put, List.setIfInBounds_toArray, List.set_cons_zero, List.set_cons_succ, i64_w, i32_w]
            rfl
          refine one_ (i := 22) (N := some 155) #[true, true, true, true, true, true, true, true, true, true, true, true, true, true, true, true, true, true, true, true, true, true, true, false, false] rfl rfl (one_of HT_.out (by kernel_rfl)) (by decide) (fun K hK => ?_)
          refine goes_ Try.func17 (by kernel_rfl) rfl #[] (by rfl) rfl rfl (by (try simp only [List.map_toArray, List.map_cons, List.map_nil]); first | done | rfl) ?_
          refine (alive_calls (w7.drew)).mono ?_
          rintro _ w_1 ⟨rfl, hb_1⟩
          have HB_1 := Aside0.mk (below_then (hBd) (hBd).size hb_1)
          refine ⟨_, rfl, ?_⟩
          refine hK.out _ _ HB_1.out (fun hHeld_1 => ?_)
          clear hb_1
          clear hK K
          refine norm_ (a' := ?_) ?_ ?_
          rotate_left
          · show Act.put _ (some 155) _ = _
            simp only [Act.put, List.setIfInBounds_toArray, List.set_cons_zero, List.set_cons_succ, i64_w, i32_w]
            rfl
          refine pure_ (i := 23) (N := some 156) (v := ?_) (a' := ?_) #[true, true, true, true, true, true, true, true, true, true, true, true, true, true, true, true, true, true, true, true, true, true, true, true, false] rfl rfl (any_of HT_.out (by kernel_rfl)) (fun _ _ _ h => h) (Or.inl ⟨by rfl, ?_⟩) ?_ ?_
          rotate_left
          · intro w'
            go_simp
            with_reducible rfl
          rotate_left
          · simp only [Act.put, List.setIfInBounds_toArray, List.set_cons_zero, List.set_cons_succ, i64_w, i32_w]
            rfl
          refine pure_ (i := 24) (N := some 2) (v := ?_) (a' := ?_) #[true, true, true, true, true, true, true, true, true, true, true, true, true, true, true, true, true, true, true, true, true, true, true, true, true] rfl rfl (any_of HT_.out (by kernel_rfl)) (fun _ _ _ h => h) (Or.inl ⟨by rfl, ?_⟩) ?_ ?_
          rotate_left
          · intro w'
            go_simp
            with_reducible rfl
          rotate_left
          · simp only [Act.put, List.setIfInBounds_toArray, List.set_cons_zero, List.set_cons_succ, i64_w, i32_w]
            rfl
          refine done_ (done_of HT_.out (by kernel_rfl)) ?_
          have HBE := Aside0.mk (below_then HBW.out HBW.out.size (HB_1.out))
          go_wp2
          go_ret
          exact ⟨rfl, HBE.out⟩
        · have hob : (h1 == id) = false := beq_eq_false_iff_ne.mpr hown
          rw [hob]
          have hf3 : (u.f3 != 0) = true := by
            rcases HWH.out with h | h
            · exact absurd h hown
            · simpa using h.1
          have hwh : h1 ∈ globsOf L x.sp L.length ∨ h1 ∈ groupOf L root := by
            rcases HWH.out with h | h
            · exact absurd h hown
            · exact h.2
          clear HWH
          go_upto_region 13 with (fail)
          have hBd : Below w6.heap.size w6 w6.drew := below_drew1 (Below.refl _ _)
          refine start_ (n := 15) (S := fun w' => Below w6.heap.size w6 w') (ds := []) #[false, false, false, false, false, false, false, false, false, false, false, false, false, false, false] (by kernel_rfl) rfl rfl hBd (fun hHeld => ?_); refine with_tabW within_tab13 within_bits13 (fun HT_ HW_ => ?_)
          refine pure_ (i := 0) (N := some 118) (v := ?_) (a' := ?_) #[true, false, false, false, false, false, false, false, false, false, false, false, false, false, false] rfl rfl (any_of HT_.out (by kernel_rfl)) (fun _ _ _ h => h) (Or.inl ⟨by rfl, ?_⟩) ?_ ?_
          rotate_left
          · intro w'
            go_simp
            with_reducible rfl
          rotate_left
          · simp only [Act.put, List.setIfInBounds_toArray, List.set_cons_zero, List.set_cons_succ, i64_w, i32_w]
            rfl
          refine pure_ (i := 1) (N := some 119) (v := ?_) (a' := ?_) #[true, true, false, false, false, false, false, false, false, false, false, false, false, false, false] rfl rfl (any_of HT_.out (by kernel_rfl)) (fun _ _ _ h => h) (Or.inl ⟨by rfl, ?_⟩) ?_ ?_
          rotate_left
          · intro w'
            go_simp
            with_reducible rfl
          rotate_left
          · simp only [Act.put, List.setIfInBounds_toArray, List.set_cons_zero, List.set_cons_succ, i64_w, i32_w]
            rfl
          refine pure_ (i := 2) (N := some 120) (v := ?_) (a' := ?_) #[true, true, true, false, false, false, false, false, false, false, false, false, false, false, false] rfl rfl (any_of HT_.out (by kernel_rfl)) (fun _ _ _ h => h) (Or.inl ⟨by rfl, ?_⟩) ?_ ?_
          rotate_left
          · intro w'
            go_simp
            with_reducible rfl
          rotate_left
          · simp only [Act.put, List.setIfInBounds_toArray, List.set_cons_zero, List.set_cons_succ, i64_w, i32_w]
            rfl
          refine pure_ (i := 3) (N := some 121) (v := ?_) (a' := ?_) #[true, true, true, true, false, false, false, false, false, false, false, false, false, false, false] rfl rfl (any_of HT_.out (by kernel_rfl)) (fun _ _ _ h => h) (Or.inl ⟨by rfl, ?_⟩) ?_ ?_
          rotate_left
          · intro w'
            go_simp
            with_reducible rfl
          rotate_left
          · simp only [Act.put, List.setIfInBounds_toArray, List.set_cons_zero, List.set_cons_succ, i64_w, i32_w]
            rfl
          refine pure_ (i := 4) (N := some 122) (v := ?_) (a' := ?_) #[true, true, true, true, true, false, false, false, false, false, false, false, false, false, false] rfl rfl (any_of HT_.out (by kernel_rfl)) (fun _ _ _ h => h) (Or.inl ⟨by rfl, ?_⟩) ?_ ?_
          rotate_left
          · intro w'
            go_simp
            with_reducible rfl
          rotate_left
          · simp only [Act.put, List.setIfInBounds_toArray, List.set_cons_zero, List.set_cons_succ, i64_w, i32_w]
            rfl
          refine pure_ (i := 5) (N := some 123) (v := ?_) (a' := ?_) #[true, true, true, true, true, true, false, false, false, false, false, false, false, false, false] rfl rfl (any_of HT_.out (by kernel_rfl)) (fun _ _ _ h => h) (Or.inl ⟨by rfl, ?_⟩) ?_ ?_
          rotate_left
          · intro w'
            go_simp
            with_reducible rfl
          rotate_left
          · simp only [Act.put, List.setIfInBounds_toArray, List.set_cons_zero, List.set_cons_succ, i64_w, i32_w]
            rfl
          refine pure_ (i := 6) (N := some 124) (v := ?_) (a' := ?_) #[true, true, true, true, true, true, true, false, false, false, false, false, false, false, false] rfl rfl (any_of HT_.out (by kernel_rfl)) (fun _ _ _ h => h) (Or.inl ⟨by rfl, ?_⟩) ?_ ?_
          rotate_left
          · intro w'
            go_simp
            with_reducible rfl
          rotate_left
          · simp only [Act.put, List.setIfInBounds_toArray, List.set_cons_zero, List.set_cons_succ, i64_w, i32_w]
            rfl
          refine take_ (i := 7) (N := some 125) (v := ?_) (a' := ?_) #[true, true, true, true, true, true, true, true, false, false, false, false, false, false, false] rfl rfl (take_ofW HT_.out HW_.out (by kernel_rfl)) (fun _ _ _ h => h) (Or.inl ⟨by rfl, ?_⟩) hHeld ?_ ?_
          rotate_left
          · intro w' s0
            have q0 : w'.cell? ⟨ob, 62, none⟩ = some (.slice (some ae) o.syms.length tc) := (s0.cell (p := ⟨ob, 62, none⟩) (heap_lt_of HJJ.out)).trans ((blk_cell HJJ.out 62).trans rfl)
            clear s0
            go_simp
            with_reducible rfl
          rotate_left
          · simp only [Act.put, List.setIfInBounds_toArray, List.set_cons_zero, List.set_cons_succ, i64_w, i32_w]
            rfl
          refine pure_ (i := 8) (N := some 126) (v := ?_) (a' := ?_) #[true, true, true, true, true, true, true, true, true, false, false, false, false, false, false] rfl rfl (any_of HT_.out (by kernel_rfl)) (fun _ _ _ h => h) (Or.inl ⟨by rfl, ?_⟩) ?_ ?_
          rotate_left
          · intro w'
            go_simp
            with_reducible rfl
          rotate_left
          · simp only [Act.put, List.setIfInBounds_toArray, List.set_cons_zero, List.set_cons_succ, i64_w, i32_w]
            rfl
          refine take_ (i := 9) (N := some 127) (v := ?_) (a' := ?_) #[true, true, true, true, true, true, true, true, true, true, false, false, false, false, false] rfl rfl (take_ofW HT_.out HW_.out (by kernel_rfl)) (fun _ _ _ h => h) (Or.inl ⟨by rfl, ?_⟩) hHeld ?_ ?_
          rotate_left
          · intro w' s0
            have q0 : w'.cell? ⟨hg, 1, none⟩ = some (.int .i64 h2) := (s0.cell (p := ⟨hg, 1, none⟩) (heap_lt_of HH.out)).trans ((blk_cell HH.out 1).trans rfl)
            clear s0
            go_simp
            with_reducible rfl
          rotate_left
          · simp only [Act.put, List.setIfInBounds_toArray, List.set_cons_zero, List.set_cons_succ, i64_w, i32_w]
            rfl
          refine pure_ (i := 10) (N := some 128) (v := ?_) (a' := ?_) #[true, true, true, true, true, true, true, true, true, true, true, false, false, false, false] rfl rfl (any_of HT_.out (by kernel_rfl)) (fun _ _ _ h => h) (Or.inl ⟨by rfl, ?_⟩) ?_ ?_
          rotate_left
          · intro w'
            go_simp
            with_reducible rfl
          rotate_left
          · simp only [Act.put, List.setIfInBounds_toArray, List.set_cons_zero, List.set_cons_succ, i64_w, i32_w]
            rfl
          refine take_ (i := 11) (N := some 129) (v := ?_) (a' := ?_) #[true, true, true, true, true, true, true, true, true, true, true, true, false, false, false] rfl rfl (take_ofW HT_.out HW_.out (by kernel_rfl)) (fun _ _ _ h => h) (Or.inl ⟨by rfl, ?_⟩) hHeld ?_ ?_
          rotate_left
          · intro w' s0
            have q0 := (s0.cell (World.block_lt_of_cell? _ _ hz0)).trans hz0
            have q1 := (s0.cell (World.block_lt_of_cell? _ _ hz1)).trans hz1
            have q2 := (s0.cell (World.block_lt_of_cell? _ _ hz2)).trans hz2
            have q3 := (s0.cell (World.block_lt_of_cell? _ _ hz3)).trans hz3
            have q4 := (s0.cell (World.block_lt_of_cell? _ _ hz4)).trans hz4
            have q5 := (s0.cell (World.block_lt_of_cell? _ _ hz5)).trans hz5
            have q6 := (s0.cell (World.block_lt_of_cell? _ _ hz6)).trans hz6
            clear s0
            go_simp
            with_reducible rfl
          rotate_left
          · simp only [Act.put, List.setIfInBounds_toArray, List.set_cons_zero, List.set_cons_succ, i64_w, i32_w]
            rfl
          refine one_ (i := 12) (N := some 130) #[true, true, true, true, true, true, true, true, true, true, true, true, true, false, false] rfl rfl (one_of HT_.out (by kernel_rfl)) (by decide) (fun K hK => ?_)
          refine goes_ Try.func23 (by kernel_rfl) rfl #[.agg #[.string u.f0, .string u.f1, .bool u.f2, .int .i64 u.f3, .bool true, .int .u64 u.f5, .int .u64 u.f6]] (by rfl) rfl rfl (by (try simp only [List.map_toArray, List.map_cons, List.map_nil]); first | done | rfl) ?_
          refine (syms_Exported.calls u.f0 u.f1 u.f2 u.f3 true u.f5 u.f6 true (w6.drew) (by simp [syms_Exported.f, hf3])).mono ?_
          rintro _ w_1 ⟨rfl, hb_1⟩
          have HB_1 := Aside0.mk (below_then (hBd) (hBd).size hb_1)
          refine ⟨_, rfl, ?_⟩
          refine hK.out _ _ HB_1.out (fun hHeld_1 => ?_)
          clear hb_1
          clear hK K
          refine norm_ (a' := ?_) ?_ ?_
          rotate_left
          · show Act.put _ (some 130) _ = _
            simp only [Act.put, List.setIfInBounds_toArray, List.set_cons_zero, List.set_cons_succ, i64_w, i32_w]
            rfl
          refine pure_ (i := 13) (N := some 131) (v := ?_) (a' := ?_) #[true, true, true, true, true, true, true, true, true, true, true, true, true, true, false] rfl rfl (any_of HT_.out (by kernel_rfl)) (fun _ _ _ h => h) (Or.inl ⟨by rfl, ?_⟩) ?_ ?_
          rotate_left
          · intro w'
            go_simp
            with_reducible rfl
          rotate_left
          · simp only [Act.put, List.setIfInBounds_toArray, List.set_cons_zero, List.set_cons_succ, i64_w, i32_w]
            rfl
          refine pure_ (i := 14) (N := some 132) (v := ?_) (a' := ?_) #[true, true, true, true, true, true, true, true, true, true, true, true, true, true, true] rfl rfl (any_of HT_.out (by kernel_rfl)) (fun _ _ _ h => h) (Or.inl ⟨by rfl, ?_⟩) ?_ ?_
          rotate_left
          · intro w'
            go_simp
            with_reducible rfl
          rotate_left
          · simp only [Act.put, List.setIfInBounds_toArray, List.set_cons_zero, List.set_cons_succ, i64_w, i32_w]
            rfl
          refine done_ (done_of HT_.out (by kernel_rfl)) ?_
          have HT7 := Aside0.mk (HT.out.below HB_1.out)
          have HBL7 := Aside0.mk ((HB_1.out.block _ (heap_lt_of HBL.out)).trans HBL.out)
          have HBW7 := Aside0.mk (below_then HBW.out HBW.out.size HB_1.out)
          have HII7 := Aside0.mk ((HB_1.out.block _ (heap_lt_of HII.out)).trans HII.out)
          have HH7 := Aside0.mk ((HB_1.out.block _ (heap_lt_of HH.out)).trans HH.out)
          clear HT HBL HBW HII HH HJJ hz0 hz1 hz2 hz3 hz4 hz5 hz6 HT_ HW_ hy1 hh0
          have HT := Aside0.mk HT7.out
          have HBL := Aside0.mk HBL7.out
          have HBW := Aside0.mk HBW7.out
          have HII := Aside0.mk HII7.out
          have HH := Aside0.mk HH7.out
          clear HT7 HBL7 HBW7 HII7 HH7
          obtain ⟨w7, HW7⟩ : ∃ w7, Aside0 (w_1 = w7) := ⟨_, ⟨rfl⟩⟩
          rw [HW7.out] at HT HBL HBW HII HH ⊢
          go_upto_region 15 with (fail)
          by_cases hmem : h1 ∈ globsOf L x.sp L.length
          · have hBd : Below w7.heap.size w7 w7.drew := below_drew1 (Below.refl _ _)
            refine start_ (n := 25) (S := fun w' => Below w7.heap.size w7 w') (ds := []) #[false, false, false, false, false, false, false, false, false, false, false, false, false, false, false, false, false, false, false, false, false, false, false, false, false] (by kernel_rfl) rfl rfl hBd (fun hHeld => ?_); refine with_tabW within_tab15 within_bits15 (fun HT_ HW_ => ?_)
            refine pure_ (i := 0) (N := some 133) (v := ?_) (a' := ?_) #[true, false, false, false, false, false, false, false, false, false, false, false, false, false, false, false, false, false, false, false, false, false, false, false, false] rfl rfl (any_of HT_.out (by kernel_rfl)) (fun _ _ _ h => h) (Or.inl ⟨by rfl, ?_⟩) ?_ ?_
            rotate_left
            · intro w'
              go_simp
              with_reducible rfl
            rotate_left
            · simp only [Act.put, List.setIfInBounds_toArray, List.set_cons_zero, List.set_cons_succ, i64_w, i32_w]
              rfl
            refine pure_ (i := 1) (N := some 134) (v := ?_) (a' := ?_) #[true, true, false, false, false, false, false, false, false, false, false, false, false, false, false, false, false, false, false, false, false, false, false, false, false] rfl rfl (any_of HT_.out (by kernel_rfl)) (fun _ _ _ h => h) (Or.inl ⟨by rfl, ?_⟩) ?_ ?_
            rotate_left
            · intro w'
              go_simp
              with_reducible rfl
            rotate_left
            · simp only [Act.put, List.setIfInBounds_toArray, List.set_cons_zero, List.set_cons_succ, i64_w, i32_w]
              rfl
            refine pure_ (i := 2) (N := some 135) (v := ?_) (a' := ?_) #[true, true, true, false, false, false, false, false, false, false, false, false, false, false, false, false, false, false, false, false, false, false, false, false, false] rfl rfl (any_of HT_.out (by kernel_rfl)) (fun _ _ _ h => h) (Or.inl ⟨by rfl, ?_⟩) ?_ ?_
            rotate_left
            · intro w'
              go_simp
              with_reducible rfl
            rotate_left
            · simp only [Act.put, List.setIfInBounds_toArray, List.set_cons_zero, List.set_cons_succ, i64_w, i32_w]
              rfl
            refine pure_ (i := 3) (N := some 136) (v := ?_) (a' := ?_) #[true, true, true, true, false, false, false, false, false, false, false, false, false, false, false, false, false, false, false, false, false, false, false, false, false] rfl rfl (any_of HT_.out (by kernel_rfl)) (fun _ _ _ h => h) (Or.inl ⟨by rfl, ?_⟩) ?_ ?_
            rotate_left
            · intro w'
              go_simp
              with_reducible rfl
            rotate_left
            · simp only [Act.put, List.setIfInBounds_toArray, List.set_cons_zero, List.set_cons_succ, i64_w, i32_w]
              rfl
            refine pure_ (i := 4) (N := some 137) (v := ?_) (a' := ?_) #[true, true, true, true, true, false, false, false, false, false, false, false, false, false, false, false, false, false, false, false, false, false, false, false, false] rfl rfl (any_of HT_.out (by kernel_rfl)) (fun _ _ _ h => h) (Or.inl ⟨by rfl, ?_⟩) ?_ ?_
            rotate_left
            · intro w'
              go_simp
              with_reducible rfl
            rotate_left
            · simp only [Act.put, List.setIfInBounds_toArray, List.set_cons_zero, List.set_cons_succ, i64_w, i32_w]
              rfl
            refine pure_ (i := 5) (N := some 138) (v := ?_) (a' := ?_) #[true, true, true, true, true, true, false, false, false, false, false, false, false, false, false, false, false, false, false, false, false, false, false, false, false] rfl rfl (any_of HT_.out (by kernel_rfl)) (fun _ _ _ h => h) (Or.inl ⟨by rfl, ?_⟩) ?_ ?_
            rotate_left
            · intro w'
              go_simp
              with_reducible rfl
            rotate_left
            · simp only [Act.put, List.setIfInBounds_toArray, List.set_cons_zero, List.set_cons_succ, i64_w, i32_w]
              rfl
            refine take_ (i := 6) (N := some 139) (v := ?_) (a' := ?_) #[true, true, true, true, true, true, true, false, false, false, false, false, false, false, false, false, false, false, false, false, false, false, false, false, false] rfl rfl (take_ofW HT_.out HW_.out (by kernel_rfl)) (fun _ _ _ h => h) (Or.inl ⟨by rfl, ?_⟩) hHeld ?_ ?_
            rotate_left
            · intro w' s0
              have q0 : w'.cell? ⟨b, 1, none⟩ = some (.int .i64 x.sp) := (s0.cell (p := ⟨b, 1, none⟩) (heap_lt_of HII.out)).trans ((blk_cell HII.out 1).trans rfl)
              clear s0
              go_simp
              with_reducible rfl
            rotate_left
            · simp only [Act.put, List.setIfInBounds_toArray, List.set_cons_zero, List.set_cons_succ, i64_w, i32_w]
              rfl
            refine pure_ (i := 8) (N := some 141) (v := ?_) (a' := ?_) #[true, true, true, true, true, true, true, false, true, false, false, false, false, false, false, false, false, false, false, false, false, false, false, false, false] rfl rfl (any_of HT_.out (by kernel_rfl)) (fun _ _ _ h => h) (Or.inl ⟨by rfl, ?_⟩) ?_ ?_
            rotate_left
            · intro w'
              go_simp
              with_reducible rfl
            rotate_left
            · simp only [Act.put, List.setIfInBounds_toArray, List.set_cons_zero, List.set_cons_succ, i64_w, i32_w]
              rfl
            refine take_ (i := 9) (N := some 142) (v := ?_) (a' := ?_) #[true, true, true, true, true, true, true, false, true, true, false, false, false, false, false, false, false, false, false, false, false, false, false, false, false] rfl rfl (take_ofW HT_.out HW_.out (by kernel_rfl)) (fun _ _ _ h => h) (Or.inl ⟨by rfl, ?_⟩) hHeld ?_ ?_
            rotate_left
            · intro w' s0
              have q0 : w'.cell? ⟨hg, 0, none⟩ = some (.int .i64 h1) := (s0.cell (p := ⟨hg, 0, none⟩) (heap_lt_of HH.out)).trans ((blk_cell HH.out 0).trans rfl)
              clear s0
              go_simp
              with_reducible rfl
            rotate_left
            · simp only [Act.put, List.setIfInBounds_toArray, List.set_cons_zero, List.set_cons_succ, i64_w, i32_w]
              rfl
            refine one_ (i := 7) (N := some 140) #[true, true, true, true, true, true, true, true, true, true, false, false, false, false, false, false, false, false, false, false, false, false, false, false, false] rfl rfl (one_of HT_.out (by kernel_rfl)) (by decide) (fun K hK => ?_)
            refine goes_ Try.func15 (by kernel_rfl) rfl #[.pointer (some ⟨bt, 0, none⟩), .int .i64 x.sp] (by rfl) rfl rfl (by (try simp only [List.map_toArray, List.map_cons, List.map_nil]); first | done | rfl) ?_
            refine (globals_calls (w7.drew) bt L x.sp (HT.out.below hBd) (by have := HSM.out.len; omega)).mono ?_
            rintro _ w_1 ⟨vG, rfl, hvG, hb_1⟩
            obtain ⟨AG, cG, rfl⟩ := Kd.R_slice hvG
            have HCG := Aside0.mk (Kd.R_reads' hvG).2
            have HB_1 := Aside0.mk (below_then (hBd) (hBd).size hb_1)
            clear hvG
            refine ⟨_, rfl, ?_⟩
            refine hK.out _ _ HB_1.out (fun hHeld_1 => ?_)
            clear hb_1
            clear hK K
            refine norm_ (a' := ?_) ?_ ?_
            rotate_left
            · show Act.put _ (some 140) _ = _
              simp only [Act.put, List.setIfInBounds_toArray, List.set_cons_zero, List.set_cons_succ, i64_w, i32_w]
              rfl
            refine one_ (i := 10) (N := some 143) #[true, true, true, true, true, true, true, true, true, true, true, false, false, false, false, false, false, false, false, false, false, false, false, false, false] rfl rfl (one_of HT_.out (by kernel_rfl)) (by decide) (fun K hK => ?_)
            refine goes_ Try.func24 (by kernel_rfl) rfl #[.slice AG (globsOf L x.sp L.length).length cG, .int .i64 h1] (by rfl) rfl rfl (by (try simp only [List.map_toArray, List.map_cons, List.map_nil]); first | done | rfl) ?_
            refine (messuageref22_Has.calls fuel AG cG (globsOf L x.sp L.length) h1 true (w_1) (HCG.out.2) HCG.out.1 (by rw [has_f _ _ (by have := globsOf_len L x.sp L.length; have := HSM.out.len; omega)]; simp [hmem])).mono ?_
            rintro _ w_2 ⟨rfl, hd_2⟩
            have hb_2 := hd_2.below
            have HB_2 := Aside0.mk (below_then (HB_1.out) (HB_1.out).size hb_2)
            clear hd_2
            refine ⟨_, rfl, ?_⟩
            refine hK.out _ _ HB_2.out (fun hHeld_2 => ?_)
            clear hb_2
            clear hK K
            refine norm_ (a' := ?_) ?_ ?_
            rotate_left
            · show Act.put _ (some 143) _ = _
              simp only [Act.put, List.setIfInBounds_toArray, List.set_cons_zero, List.set_cons_succ, i64_w, i32_w]
              rfl
            refine pure_ (i := 11) (N := some 144) (v := ?_) (a' := ?_) #[true, true, true, true, true, true, true, true, true, true, true, true, false, false, false, false, false, false, false, false, false, false, false, false, false] rfl rfl (any_of HT_.out (by kernel_rfl)) (fun _ _ _ h => h) (Or.inl ⟨by rfl, ?_⟩) ?_ ?_
            rotate_left
            · intro w'
              go_simp
              with_reducible rfl
            rotate_left
            · simp only [Act.put, List.setIfInBounds_toArray, List.set_cons_zero, List.set_cons_succ, i64_w, i32_w]
              rfl
            refine pure_ (i := 12) (N := some 145) (v := ?_) (a' := ?_) #[true, true, true, true, true, true, true, true, true, true, true, true, true, false, false, false, false, false, false, false, false, false, false, false, false] rfl rfl (any_of HT_.out (by kernel_rfl)) (fun _ _ _ h => h) (Or.inl ⟨by rfl, ?_⟩) ?_ ?_
            rotate_left
            · intro w'
              go_simp
              with_reducible rfl
            rotate_left
            · simp only [Act.put, List.setIfInBounds_toArray, List.set_cons_zero, List.set_cons_succ, i64_w, i32_w]
              rfl
            refine pure_ (i := 13) (N := some 146) (v := undef) (a' := ?_) #[true, true, true, true, true, true, true, true, true, true, true, true, true, true, false, false, false, false, false, false, false, false, false, false, false] rfl rfl (any_of HT_.out (by kernel_rfl)) (fun _ _ _ h => h) (Or.inr ⟨by rfl, rfl⟩) ?_ ?_
            rotate_left
            · simp only [Act.put, List.setIfInBounds_toArray, List.set_cons_zero, List.set_cons_succ, i64_w, i32_w]
              rfl
            refine pure_ (i := 14) (N := some 147) (v := undef) (a' := ?_) #[true, true, true, true, true, true, true, true, true, true, true, true, true, true, true, false, false, false, false, false, false, false, false, false, false] rfl rfl (any_of HT_.out (by kernel_rfl)) (fun _ _ _ h => h) (Or.inr ⟨by rfl, rfl⟩) ?_ ?_
            rotate_left
            · simp only [Act.put, List.setIfInBounds_toArray, List.set_cons_zero, List.set_cons_succ, i64_w, i32_w]
              rfl
            refine pure_ (i := 15) (N := some 148) (v := undef) (a' := ?_) #[true, true, true, true, true, true, true, true, true, true, true, true, true, true, true, true, false, false, false, false, false, false, false, false, false] rfl rfl (any_of HT_.out (by kernel_rfl)) (fun _ _ _ h => h) (Or.inr ⟨by rfl, rfl⟩) ?_ ?_
            rotate_left
            · simp only [Act.put, List.setIfInBounds_toArray, List.set_cons_zero, List.set_cons_succ, i64_w, i32_w]
              rfl
            refine pure_ (i := 16) (N := some 149) (v := undef) (a' := ?_) #[true, true, true, true, true, true, true, true, true, true, true, true, true, true, true, true, true, false, false, false, false, false, false, false, false] rfl rfl (any_of HT_.out (by kernel_rfl)) (fun _ _ _ h => h) (Or.inr ⟨by rfl, rfl⟩) ?_ ?_
            rotate_left
            · simp only [Act.put, List.setIfInBounds_toArray, List.set_cons_zero, List.set_cons_succ, i64_w, i32_w]
              rfl
            refine pure_ (i := 17) (N := some 150) (v := undef) (a' := ?_) #[true, true, true, true, true, true, true, true, true, true, true, true, true, true, true, true, true, true, false, false, false, false, false, false, false] rfl rfl (any_of HT_.out (by kernel_rfl)) (fun _ _ _ h => h) (Or.inr ⟨by rfl, rfl⟩) ?_ ?_
            rotate_left
            · simp only [Act.put, List.setIfInBounds_toArray, List.set_cons_zero, List.set_cons_succ, i64_w, i32_w]
              rfl
            refine pure_ (i := 18) (N := some 151) (v := undef) (a' := ?_) #[true, true, true, true, true, true, true, true, true, true, true, true, true, true, true, true, true, true, true, false, false, false, false, false, false] rfl rfl (any_of HT_.out (by kernel_rfl)) (fun _ _ _ h => h) (Or.inr ⟨by rfl, rfl⟩) ?_ ?_
            rotate_left
            · simp only [Act.put, List.setIfInBounds_toArray, List.set_cons_zero, List.set_cons_succ, i64_w, i32_w]
              rfl
            refine pure_ (i := 19) (N := some 152) (v := undef) (a' := ?_) #[true, true, true, true, true, true, true, true, true, true, true, true, true, true, true, true, true, true, true, true, false, false, false, false, false] rfl rfl (any_of HT_.out (by kernel_rfl)) (fun _ _ _ h => h) (Or.inr ⟨by rfl, rfl⟩) ?_ ?_
            rotate_left
            · simp only [Act.put, List.setIfInBounds_toArray, List.set_cons_zero, List.set_cons_succ, i64_w, i32_w]
              rfl
            refine pure_ (i := 20) (N := some 153) (v := ?_) (a' := ?_) #[true, true, true, true, true, true, true, true, true, true, true, true, true, true, true, true, true, true, true, true, true, false, false, false, false] rfl rfl (any_of HT_.out (by kernel_rfl)) (fun _ _ _ h => h) (Or.inl ⟨by rfl, ?_⟩) ?_ ?_
            rotate_left
            · intro w'
              go_simp
              with_reducible rfl
            rotate_left
            · simp only [Act.put, List.setIfInBounds_toArray, List.set_cons_zero, List.set_cons_succ, i64_w, i32_w]
              rfl
            refine pure_ (i := 21) (N := some 154) (v := ?_) (a' := ?_) #[true, true, true, true, true, true, true, true, true, true, true, true, true, true, true, true, true, true, true, true, true, true, false, false, false] rfl rfl (any_of HT_.out (by kernel_rfl)) (fun _ _ _ h => h) (Or.inl ⟨by rfl, ?_⟩) ?_ ?_
            rotate_left
            · intro w'
              go_simp
              with_reducible rfl
            rotate_left
            · simp only [Act.put, List.setIfInBounds_toArray, List.set_cons_zero, List.set_cons_succ, i64_w, i32_w]
              rfl
            refine one_ (i := 22) (N := some 155) #[true, true, true, true, true, true, true, true, true, true, true, true, true, true, true, true, true, true, true, true, true, true, true, false, false] rfl rfl (one_of HT_.out (by kernel_rfl)) (by decide) (fun K hK => ?_)
            refine goes_ Try.func17 (by kernel_rfl) rfl #[] (by rfl) rfl rfl (by (try simp only [List.map_toArray, List.map_cons, List.map_nil]); first | done | rfl) ?_
            refine (alive_calls (w_2)).mono ?_
            rintro _ w_3 ⟨rfl, hb_3⟩
            have HB_3 := Aside0.mk (below_then (HB_2.out) (HB_2.out).size hb_3)
            refine ⟨_, rfl, ?_⟩
            refine hK.out _ _ HB_3.out (fun hHeld_3 => ?_)
            clear hb_3
            clear hK K
            refine norm_ (a' := ?_) ?_ ?_
            rotate_left
            · show Act.put _ (some 155) _ = _
              simp only [Act.put, List.setIfInBounds_toArray, List.set_cons_zero, List.set_cons_succ, i64_w, i32_w]
              rfl
            refine pure_ (i := 23) (N := some 156) (v := ?_) (a' := ?_) #[true, true, true, true, true, true, true, true, true, true, true, true, true, true, true, true, true, true, true, true, true, true, true, true, false] rfl rfl (any_of HT_.out (by kernel_rfl)) (fun _ _ _ h => h) (Or.inl ⟨by rfl, ?_⟩) ?_ ?_
            rotate_left
            · intro w'
              go_simp
              with_reducible rfl
            rotate_left
            · simp only [Act.put, List.setIfInBounds_toArray, List.set_cons_zero, List.set_cons_succ, i64_w, i32_w]
              rfl
            refine pure_ (i := 24) (N := some 2) (v := ?_) (a' := ?_) #[true, true, true, true, true, true, true, true, true, true, true, true, true, true, true, true, true, true, true, true, true, true, true, true, true] rfl rfl (any_of HT_.out (by kernel_rfl)) (fun _ _ _ h => h) (Or.inl ⟨by rfl, ?_⟩) ?_ ?_
            rotate_left
            · intro w'
              go_simp
              with_reducible rfl
            rotate_left
            · simp only [Act.put, List.setIfInBounds_toArray, List.set_cons_zero, List.set_cons_succ, i64_w, i32_w]
              rfl
            refine done_ (done_of HT_.out (by kernel_rfl)) ?_
            have HBE := Aside0.mk (below_then HBW.out HBW.out.size (HB_3.out))
            go_wp2
            go_ret
            exact ⟨rfl, HBE.out⟩
          · have hmem2 : h1 ∈ groupOf L root := hwh.resolve_left hmem
            have hBd : Below w7.heap.size w7 w7.drew := below_drew1 (Below.refl _ _)
            refine start_ (n := 25) (S := fun w' => Below w7.heap.size w7 w') (ds := []) #[false, false, false, false, false, false, false, false, false, false, false, false, false, false, false, false, false, false, false, false, false, false, false, false, false] (by kernel_rfl) rfl rfl hBd (fun hHeld => ?_); refine with_tabW within_tab15 within_bits15 (fun HT_ HW_ => ?_)
            refine pure_ (i := 0) (N := some 133) (v := ?_) (a' := ?_) #[true, false, false, false, false, false, false, false, false, false, false, false, false, false, false, false, false, false, false, false, false, false, false, false, false] rfl rfl (any_of HT_.out (by kernel_rfl)) (fun _ _ _ h => h) (Or.inl ⟨by rfl, ?_⟩) ?_ ?_
            rotate_left
            · intro w'
              go_simp
              with_reducible rfl
            rotate_left
            · simp only [Act.put, List.setIfInBounds_toArray, List.set_cons_zero, List.set_cons_succ, i64_w, i32_w]
              rfl
            refine pure_ (i := 1) (N := some 134) (v := ?_) (a' := ?_) #[true, true, false, false, false, false, false, false, false, false, false, false, false, false, false, false, false, false, false, false, false, false, false, false, false] rfl rfl (any_of HT_.out (by kernel_rfl)) (fun _ _ _ h => h) (Or.inl ⟨by rfl, ?_⟩) ?_ ?_
            rotate_left
            · intro w'
              go_simp
              with_reducible rfl
            rotate_left
            · simp only [Act.put, List.setIfInBounds_toArray, List.set_cons_zero, List.set_cons_succ, i64_w, i32_w]
              rfl
            refine pure_ (i := 2) (N := some 135) (v := ?_) (a' := ?_) #[true, true, true, false, false, false, false, false, false, false, false, false, false, false, false, false, false, false, false, false, false, false, false, false, false] rfl rfl (any_of HT_.out (by kernel_rfl)) (fun _ _ _ h => h) (Or.inl ⟨by rfl, ?_⟩) ?_ ?_
            rotate_left
            · intro w'
              go_simp
              with_reducible rfl
            rotate_left
            · simp only [Act.put, List.setIfInBounds_toArray, List.set_cons_zero, List.set_cons_succ, i64_w, i32_w]
              rfl
            refine pure_ (i := 3) (N := some 136) (v := ?_) (a' := ?_) #[true, true, true, true, false, false, false, false, false, false, false, false, false, false, false, false, false, false, false, false, false, false, false, false, false] rfl rfl (any_of HT_.out (by kernel_rfl)) (fun _ _ _ h => h) (Or.inl ⟨by rfl, ?_⟩) ?_ ?_
            rotate_left
            · intro w'
              go_simp
              with_reducible rfl
            rotate_left
            · simp only [Act.put, List.setIfInBounds_toArray, List.set_cons_zero, List.set_cons_succ, i64_w, i32_w]
              rfl
            refine pure_ (i := 4) (N := some 137) (v := ?_) (a' := ?_) #[true, true, true, true, true, false, false, false, false, false, false, false, false, false, false, false, false, false, false, false, false, false, false, false, false] rfl rfl (any_of HT_.out (by kernel_rfl)) (fun _ _ _ h => h) (Or.inl ⟨by rfl, ?_⟩) ?_ ?_
            rotate_left
            · intro w'
              go_simp
              with_reducible rfl
            rotate_left
            · simp only [Act.put, List.setIfInBounds_toArray, List.set_cons_zero, List.set_cons_succ, i64_w, i32_w]
              rfl
            refine pure_ (i := 5) (N := some 138) (v := ?_) (a' := ?_) #[true, true, true, true, true, true, false, false, false, false, false, false, false, false, false, false, false, false, false, false, false, false, false, false, false] rfl rfl (any_of HT_.out (by kernel_rfl)) (fun _ _ _ h => h) (Or.inl ⟨by rfl, ?_⟩) ?_ ?_
            rotate_left
            · intro w'
              go_simp
              with_reducible rfl
            rotate_left
            · simp only [Act.put, List.setIfInBounds_toArray, List.set_cons_zero, List.set_cons_succ, i64_w, i32_w]
              rfl
            refine take_ (i := 6) (N := some 139) (v := ?_) (a' := ?_) #[true, true, true, true, true, true, true, false, false, false, false, false, false, false, false, false, false, false, false, false, false, false, false, false, false] rfl rfl (take_ofW HT_.out HW_.out (by kernel_rfl)) (fun _ _ _ h => h) (Or.inl ⟨by rfl, ?_⟩) hHeld ?_ ?_
            rotate_left
            · intro w' s0
              have q0 : w'.cell? ⟨b, 1, none⟩ = some (.int .i64 x.sp) := (s0.cell (p := ⟨b, 1, none⟩) (heap_lt_of HII.out)).trans ((blk_cell HII.out 1).trans rfl)
              clear s0
              go_simp
              with_reducible rfl
            rotate_left
            · simp only [Act.put, List.setIfInBounds_toArray, List.set_cons_zero, List.set_cons_succ, i64_w, i32_w]
              rfl
            refine pure_ (i := 8) (N := some 141) (v := ?_) (a' := ?_) #[true, true, true, true, true, true, true, false, true, false, false, false, false, false, false, false, false, false, false, false, false, false, false, false, false] rfl rfl (any_of HT_.out (by kernel_rfl)) (fun _ _ _ h => h) (Or.inl ⟨by rfl, ?_⟩) ?_ ?_
            rotate_left
            · intro w'
              go_simp
              with_reducible rfl
            rotate_left
            · simp only [Act.put, List.setIfInBounds_toArray, List.set_cons_zero, List.set_cons_succ, i64_w, i32_w]
              rfl
            refine take_ (i := 9) (N := some 142) (v := ?_) (a' := ?_) #[true, true, true, true, true, true, true, false, true, true, false, false, false, false, false, false, false, false, false, false, false, false, false, false, false] rfl rfl (take_ofW HT_.out HW_.out (by kernel_rfl)) (fun _ _ _ h => h) (Or.inl ⟨by rfl, ?_⟩) hHeld ?_ ?_
            rotate_left
            · intro w' s0
              have q0 : w'.cell? ⟨hg, 0, none⟩ = some (.int .i64 h1) := (s0.cell (p := ⟨hg, 0, none⟩) (heap_lt_of HH.out)).trans ((blk_cell HH.out 0).trans rfl)
              clear s0
              go_simp
              with_reducible rfl
            rotate_left
            · simp only [Act.put, List.setIfInBounds_toArray, List.set_cons_zero, List.set_cons_succ, i64_w, i32_w]
              rfl
            refine one_ (i := 7) (N := some 140) #[true, true, true, true, true, true, true, true, true, true, false, false, false, false, false, false, false, false, false, false, false, false, false, false, false] rfl rfl (one_of HT_.out (by kernel_rfl)) (by decide) (fun K hK => ?_)
            refine goes_ Try.func15 (by kernel_rfl) rfl #[.pointer (some ⟨bt, 0, none⟩), .int .i64 x.sp] (by rfl) rfl rfl (by (try simp only [List.map_toArray, List.map_cons, List.map_nil]); first | done | rfl) ?_
            refine (globals_calls (w7.drew) bt L x.sp (HT.out.below hBd) (by have := HSM.out.len; omega)).mono ?_
            rintro _ w_1 ⟨vG, rfl, hvG, hb_1⟩
            obtain ⟨AG, cG, rfl⟩ := Kd.R_slice hvG
            have HCG := Aside0.mk (Kd.R_reads' hvG).2
            have HB_1 := Aside0.mk (below_then (hBd) (hBd).size hb_1)
            clear hvG
            refine ⟨_, rfl, ?_⟩
            refine hK.out _ _ HB_1.out (fun hHeld_1 => ?_)
            clear hb_1
            clear hK K
            refine norm_ (a' := ?_) ?_ ?_
            rotate_left
            · show Act.put _ (some 140) _ = _
              simp only [Act.put, List.setIfInBounds_toArray, List.set_cons_zero, List.set_cons_succ, i64_w, i32_w]
              rfl
            refine one_ (i := 10) (N := some 143) #[true, true, true, true, true, true, true, true, true, true, true, false, false, false, false, false, false, false, false, false, false, false, false, false, false] rfl rfl (one_of HT_.out (by kernel_rfl)) (by decide) (fun K hK => ?_)
            refine goes_ Try.func24 (by kernel_rfl) rfl #[.slice AG (globsOf L x.sp L.length).length cG, .int .i64 h1] (by rfl) rfl rfl (by (try simp only [List.map_toArray, List.map_cons, List.map_nil]); first | done | rfl) ?_
            refine (messuageref22_Has.calls fuel AG cG (globsOf L x.sp L.length) h1 false (w_1) (HCG.out.2) HCG.out.1 (by rw [has_f _ _ (by have := globsOf_len L x.sp L.length; have := HSM.out.len; omega)]; simp [hmem])).mono ?_
            rintro _ w_2 ⟨rfl, hd_2⟩
            have hb_2 := hd_2.below
            have HB_2 := Aside0.mk (below_then (HB_1.out) (HB_1.out).size hb_2)
            clear hd_2
            refine ⟨_, rfl, ?_⟩
            refine hK.out _ _ HB_2.out (fun hHeld_2 => ?_)
            clear hb_2
            clear hK K
            refine norm_ (a' := ?_) ?_ ?_
            rotate_left
            · show Act.put _ (some 143) _ = _
              simp only [Act.put, List.setIfInBounds_toArray, List.set_cons_zero, List.set_cons_succ, i64_w, i32_w]
              rfl
            refine pure_ (i := 11) (N := some 144) (v := ?_) (a' := ?_) #[true, true, true, true, true, true, true, true, true, true, true, true, false, false, false, false, false, false, false, false, false, false, false, false, false] rfl rfl (any_of HT_.out (by kernel_rfl)) (fun _ _ _ h => h) (Or.inl ⟨by rfl, ?_⟩) ?_ ?_
            rotate_left
            · intro w'
              go_simp
              with_reducible rfl
            rotate_left
            · simp only [Act.put, List.setIfInBounds_toArray, List.set_cons_zero, List.set_cons_succ, i64_w, i32_w]
              rfl
            refine pure_ (i := 12) (N := some 145) (v := ?_) (a' := ?_) #[true, true, true, true, true, true, true, true, true, true, true, true, true, false, false, false, false, false, false, false, false, false, false, false, false] rfl rfl (any_of HT_.out (by kernel_rfl)) (fun _ _ _ h => h) (Or.inl ⟨by rfl, ?_⟩) ?_ ?_
            rotate_left
            · intro w'
              go_simp
              with_reducible rfl
            rotate_left
            · simp only [Act.put, List.setIfInBounds_toArray, List.set_cons_zero, List.set_cons_succ, i64_w, i32_w]
              rfl
            refine pure_ (i := 13) (N := some 146) (v := ?_) (a' := ?_) #[true, true, true, true, true, true, true, true, true, true, true, true, true, true, false, false, false, false, false, false, false, false, false, false, false] rfl rfl (any_of HT_.out (by kernel_rfl)) (fun _ _ _ h => h) (Or.inl ⟨by rfl, ?_⟩) ?_ ?_
            rotate_left
            · intro w'
              go_simp
              with_reducible rfl
            rotate_left
            · simp only [Act.put, List.setIfInBounds_toArray, List.set_cons_zero, List.set_cons_succ, i64_w, i32_w]
              rfl
            refine pure_ (i := 14) (N := some 147) (v := ?_) (a' := ?_) #[true, true, true, true, true, true, true, true, true, true, true, true, true, true, true, false, false, false, false, false, false, false, false, false, false] rfl rfl (any_of HT_.out (by kernel_rfl)) (fun _ _ _ h => h) (Or.inl ⟨by rfl, ?_⟩) ?_ ?_
            rotate_left
            · intro w'
              go_simp
              with_reducible rfl
            rotate_left
            · simp only [Act.put, List.setIfInBounds_toArray, List.set_cons_zero, List.set_cons_succ, i64_w, i32_w]
              rfl
            refine take_ (i := 15) (N := some 148) (v := ?_) (a' := ?_) #[true, true, true, true, true, true, true, true, true, true, true, true, true, true, true, true, false, false, false, false, false, false, false, false, false] rfl rfl (take_ofW HT_.out HW_.out (by kernel_rfl)) (fun _ _ _ h => h) (Or.inl ⟨by rfl, ?_⟩) hHeld_2 ?_ ?_
            rotate_left
            · intro w' s0
              have q0 : w'.cell? ⟨w.heap.size, 2, none⟩ = some (.int .i64 root) := (s0.cell (p := ⟨w.heap.size, 2, none⟩) (heap_lt_of HBL.out)).trans ((blk_cell HBL.out 2).trans rfl)
              clear s0
              go_simp
              with_reducible rfl
            rotate_left
            · simp only [Act.put, List.setIfInBounds_toArray, List.set_cons_zero, List.set_cons_succ, i64_w, i32_w]
              rfl
            refine pure_ (i := 17) (N := some 150) (v := ?_) (a' := ?_) #[true, true, true, true, true, true, true, true, true, true, true, true, true, true, true, true, false, true, false, false, false, false, false, false, false] rfl rfl (any_of HT_.out (by kernel_rfl)) (fun _ _ _ h => h) (Or.inl ⟨by rfl, ?_⟩) ?_ ?_
            rotate_left
            · intro w'
              go_simp
              with_reducible rfl
            rotate_left
            · simp only [Act.put, List.setIfInBounds_toArray, List.set_cons_zero, List.set_cons_succ, i64_w, i32_w]
              rfl
            refine take_ (i := 18) (N := some 151) (v := ?_) (a' := ?_) #[true, true, true, true, true, true, true, true, true, true, true, true, true, true, true, true, false, true, true, false, false, false, false, false, false] rfl rfl (take_ofW HT_.out HW_.out (by kernel_rfl)) (fun _ _ _ h => h) (Or.inl ⟨by rfl, ?_⟩) hHeld_2 ?_ ?_
            rotate_left
            · intro w' s0
              have q0 : w'.cell? ⟨hg, 0, none⟩ = some (.int .i64 h1) := (s0.cell (p := ⟨hg, 0, none⟩) (heap_lt_of HH.out)).trans ((blk_cell HH.out 0).trans rfl)
              clear s0
              go_simp
              with_reducible rfl
            rotate_left
            · simp only [Act.put, List.setIfInBounds_toArray, List.set_cons_zero, List.set_cons_succ, i64_w, i32_w]
              rfl
            refine one_ (i := 16) (N := some 149) #[true, true, true, true, true, true, true, true, true, true, true, true, true, true, true, true, true, true, true, false, false, false, false, false, false] rfl rfl (one_of HT_.out (by kernel_rfl)) (by decide) (fun K hK => ?_)
            refine goes_ Try.func11 (by kernel_rfl) rfl #[.pointer (some ⟨bt, 0, none⟩), .int .i64 root] (by rfl) rfl rfl (by (try simp only [List.map_toArray, List.map_cons, List.map_nil]); first | done | rfl) ?_
            refine (group_calls (w_2) bt L root (HT.out.below HB_2.out) HSM.out.len HSM.out.needs hroot).mono ?_
            rintro _ w_3 ⟨vR, rfl, hvR, hb_3⟩
            obtain ⟨AR, cR, rfl⟩ := Kd.R_slice hvR
            have HCR := Aside0.mk (Kd.R_reads' hvR).2
            have HB_3 := Aside0.mk (below_then (HB_2.out) (HB_2.out).size hb_3)
            clear hvR
            refine ⟨_, rfl, ?_⟩
            refine hK.out _ _ HB_3.out (fun hHeld_3 => ?_)
            clear hb_3
            clear hK K
            refine norm_ (a' := ?_) ?_ ?_
            rotate_left
            · show Act.put _ (some 149) _ = _
              simp only [Act.put, List.setIfInBounds_toArray, List.set_cons_zero, List.set_cons_succ, i64_w, i32_w]
              rfl
            refine one_ (i := 19) (N := some 152) #[true, true, true, true, true, true, true, true, true, true, true, true, true, true, true, true, true, true, true, true, false, false, false, false, false] rfl rfl (one_of HT_.out (by kernel_rfl)) (by decide) (fun K hK => ?_)
            refine goes_ Try.func24 (by kernel_rfl) rfl #[.slice AR (groupOf L root).length cR, .int .i64 h1] (by rfl) rfl rfl (by (try simp only [List.map_toArray, List.map_cons, List.map_nil]); first | done | rfl) ?_
            refine (messuageref22_Has.calls fuel AR cR (groupOf L root) h1 true (w_3) (HCR.out.2) HCR.out.1 (by rw [has_f _ _ (by have : (groupOf L root).length ≤ L.length + 2 := bfsGo_len L (L.length + 2) [root] 0; have := HSM.out.len; omega)]; simp [hmem2])).mono ?_
            rintro _ w_4 ⟨rfl, hd_4⟩
            have hb_4 := hd_4.below
            have HB_4 := Aside0.mk (below_then (HB_3.out) (HB_3.out).size hb_4)
            clear hd_4
            refine ⟨_, rfl, ?_⟩
            refine hK.out _ _ HB_4.out (fun hHeld_4 => ?_)
            clear hb_4
            clear hK K
            refine norm_ (a' := ?_) ?_ ?_
            rotate_left
            · show Act.put _ (some 152) _ = _
              simp only [Act.put, List.setIfInBounds_toArray, List.set_cons_zero, List.set_cons_succ, i64_w, i32_w]
              rfl
            refine pure_ (i := 20) (N := some 153) (v := ?_) (a' := ?_) #[true, true, true, true, true, true, true, true, true, true, true, true, true, true, true, true, true, true, true, true, true, false, false, false, false] rfl rfl (any_of HT_.out (by kernel_rfl)) (fun _ _ _ h => h) (Or.inl ⟨by rfl, ?_⟩) ?_ ?_
            rotate_left
            · intro w'
              go_simp
              with_reducible rfl
            rotate_left
            · simp only [Act.put, List.setIfInBounds_toArray, List.set_cons_zero, List.set_cons_succ, i64_w, i32_w]
              rfl
            refine pure_ (i := 21) (N := some 154) (v := ?_) (a' := ?_) #[true, true, true, true, true, true, true, true, true, true, true, true, true, true, true, true, true, true, true, true, true, true, false, false, false] rfl rfl (any_of HT_.out (by kernel_rfl)) (fun _ _ _ h => h) (Or.inl ⟨by rfl, ?_⟩) ?_ ?_
            rotate_left
            · intro w'
              go_simp
              with_reducible rfl
            rotate_left
            · simp only [Act.put, List.setIfInBounds_toArray, List.set_cons_zero, List.set_cons_succ, i64_w, i32_w]
              rfl
            refine one_ (i := 22) (N := some 155) #[true, true, true, true, true, true, true, true, true, true, true, true, true, true, true, true, true, true, true, true, true, true, true, false, false] rfl rfl (one_of HT_.out (by kernel_rfl)) (by decide) (fun K hK => ?_)
            refine goes_ Try.func17 (by kernel_rfl) rfl #[] (by rfl) rfl rfl (by (try simp only [List.map_toArray, List.map_cons, List.map_nil]); first | done | rfl) ?_
            refine (alive_calls (w_4)).mono ?_
            rintro _ w_5 ⟨rfl, hb_5⟩
            have HB_5 := Aside0.mk (below_then (HB_4.out) (HB_4.out).size hb_5)
            refine ⟨_, rfl, ?_⟩
            refine hK.out _ _ HB_5.out (fun hHeld_5 => ?_)
            clear hb_5
            clear hK K
            refine norm_ (a' := ?_) ?_ ?_
            rotate_left
            · show Act.put _ (some 155) _ = _
              simp only [Act.put, List.setIfInBounds_toArray, List.set_cons_zero, List.set_cons_succ, i64_w, i32_w]
              rfl
            refine pure_ (i := 23) (N := some 156) (v := ?_) (a' := ?_) #[true, true, true, true, true, true, true, true, true, true, true, true, true, true, true, true, true, true, true, true, true, true, true, true, false] rfl rfl (any_of HT_.out (by kernel_rfl)) (fun _ _ _ h => h) (Or.inl ⟨by rfl, ?_⟩) ?_ ?_
            rotate_left
            · intro w'
              go_simp
              with_reducible rfl
            rotate_left
            · simp only [Act.put, List.setIfInBounds_toArray, List.set_cons_zero, List.set_cons_succ, i64_w, i32_w]
              rfl
            refine pure_ (i := 24) (N := some 2) (v := ?_) (a' := ?_) #[true, true, true, true, true, true, true, true, true, true, true, true, true, true, true, true, true, true, true, true, true, true, true, true, true] rfl rfl (any_of HT_.out (by kernel_rfl)) (fun _ _ _ h => h) (Or.inl ⟨by rfl, ?_⟩) ?_ ?_
            rotate_left
            · intro w'
              go_simp
              with_reducible rfl
            rotate_left
            · simp only [Act.put, List.setIfInBounds_toArray, List.set_cons_zero, List.set_cons_succ, i64_w, i32_w]
              rfl
            refine done_ (done_of HT_.out (by kernel_rfl)) ?_
            have HBE := Aside0.mk (below_then HBW.out HBW.out.size (HB_5.out))
            go_wp2
            go_ret
            exact ⟨rfl, HBE.out⟩
end Go.Proofs.Ytmcihkfbgcfccaa.H
