/- image.Versions; scope.In. -/
import Derived.Test.YtmcihkfbgcfccaaHGlob
import Derived.Test.YtmcihkfbgcfccaaZ5
import Derived.Deep.MidRow
import Derived.Deep.RegionHeld3
namespace Go.Proofs.Ytmcihkfbgcfccaa.H
open Go.RowKit Go.Proofs.Ytmcihkfbgcfccaa.Z Go.Proofs.YtmcihkfbgcfccaaW.PrintWords Go.Proofs.YtmcihkfbgcfccaaW.PrintLast Go.Proofs.YtmcihkfbgcfccaaW.PrintMore
set_option linter.unusedVariables false
set_option linter.unusedSimpArgs false
set_option maxRecDepth 100000 in
set_option maxHeartbeats 1000000 in
theorem versions_calls (w : World) (sy : Bool) (vd : Int) (sv : Value) : Calls Try.prog 36 #[.agg (libC sy vd sv)] w fun e w' => e = .returned (.bool (vd != 0)) ∧ Below w.heap.size w w' := by
  have hz : (w.alloc (.cells (libC sy vd sv) 70)).cell? ⟨w.heap.size, 29, none⟩ = some (.int .u64 vd) := (blk_cell (heap_alloc_new w _) 29).trans rfl
  obtain ⟨L, hL⟩ : ∃ L, libC sy vd sv = L := ⟨_, rfl⟩
  rw [hL] at hz ⊢
  clear hL
  go_enter Try.func36, Try.ntmps36
  go_wp2
  go_ret
  exact ⟨rfl, below_alloc (Below.refl _ _) _⟩
/-- The library of an instance lies in its block. -/
theorem InsR.lib {W : World} {b : Nat} {id : Int} {x : Ins} (h : InsR W b id x) : ∃ sA sc, W.rangeAt b 6 (libC x.sy x.vd (.slice sA x.syms.length sc)).toList ∧ W.cell? ⟨b, 62, none⟩ = some (.slice sA x.syms.length sc) ∧ Kd.C k76 W sA x.syms.length x.syms ∧ x.syms.length ≤ sc := by
  obtain ⟨sA, sc, nA, nc, h1, h2, h3, _⟩ := h.out
  refine ⟨sA, sc, fun j v hj => ?_, (blk_cell h1 62).trans rfl, h2, h3⟩
  have hl : j < 60 := by
    have := (List.getElem?_eq_some_iff.1 hj).1
    simpa [libC] using this
  rw [blk_cell h1 (6 + j), ← hj, ← Array.getElem?_toList]
  have e : (instT id x.sp x.sy x.vd (.slice sA x.syms.length sc) (.slice nA x.needs.length nc) x.gl).toList = [.int .i64 id, .int .i64 x.sp, .int .i64 0, .int .u64 0, .int .u64 0, .string ⟨#[]⟩] ++ ((libC x.sy x.vd (.slice sA x.syms.length sc)).toList ++
      [.int .u64 0, .slice nA x.needs.length nc, .slice none 0 0, .int .i64 0, .int .i64 0, .bool x.gl, .bool false]) := rfl
  rw [e, List.getElem?_append_right (by simp), show 6 + j - [Value.int .i64 id, .int .i64 x.sp, .int .i64 0, .int .u64 0, .int .u64 0, .string ⟨#[]⟩].length = j by simp, List.getElem?_append_left (by simpa [libC] using hl)]
theorem rangeAt_below {W W1 : World} {b o : Nat} {cs : List Value} (h : W.rangeAt b o cs) (hb : Below W.heap.size W W1) : W1.rangeAt b o cs := fun j v hj => (hb.cell (World.block_lt_of_cell? W _ (h j v hj))).trans (h j v hj)
/-- The first symbol of a name and a version in these instances. -/
def inGo (k : Nat) (l : List Ins) (nm ver : ByteArray) : List Int → Option (Int × Int × Bool)
  | [] => some (0, 0, false)
  | id :: ids => match insAt l id with
    | none => inGo k l nm ver ids
    | some x => (syms_Find.f k x.syms (x.vd != 0) nm ver).bind fun n => if n ≥ 0 then some (id, n, true) else inGo k l nm ver ids
theorem in_results (tmps : Array Value) (W : World) (g : Nat) (c0 c1 : Value) (r : Value) (hp : tmps[8]? = some (.pointer (some ⟨g, 0, none⟩))) (hr : tmps[9]? = some r) (hg : W.heap[g]? = some (.cells #[c0, c1] 41 (0, 0))) :
    (results Try.f20 tmps).run Try.prog W = .ok (.tuple #[.agg #[c0, c1], r]) W := by
  have h : Try.f20.results = #[.cell 8 41, .tmp 9] := rfl
  have hl := run_loadVar_row (P := Try.prog) W g 41 41 #[c0, c1] (0, 0) _ hg Try.underlying41 rfl (by kernel_rfl)
  simp [results, h, hp, hr, asAddr, hl]
noncomputable def in_T6 : Bool × List (List Nat × List Nat) := rtab .any (opsOf Try.f20 6)
theorem in_tab6 : rtab .any (opsOf Try.f20 6) = in_T6 := rfl
def in_B6 : List Nat := [0, 1, 3, 7, 15, 0, 32, 96, 224, 480, 0, 0, 4095, 8191]
theorem in_bits6 : waitsOk in_T6.2 in_B6 = true := by kernel_rfl
set_option maxRecDepth 100000 in
set_option maxHeartbeats 1000000 in
theorem in_calls (k : Nat) (w : World) (bt : Nat) (l : List Ins) (A : Option Addr) (c : Nat) (ids : List Int) (nm ver : ByteArray) (r1 r2 : Int) (r3 : Bool) (h : TabR w bt l) (hi : (Kd.int .i64).C w A ids.length ids) (hc0 : ids.length ≤ c) (hwf : ∀ x ∈ ids, (Lit.int .i64 x).wf = true) (hl : ids.length ≤ 1000000)
    (hr : inGo k l nm ver ids = some (r1, r2, r3)) :
    Calls Try.prog 20 #[.pointer (some ⟨bt, 0, none⟩), .slice A ids.length c, .string nm, .string ver] w fun e w' => e = .returned (.tuple #[.agg #[.int .i64 r1, .int .i64 r2], .bool r3]) ∧ Below w.heap.size w w' := by
  have HT := Aside0.mk h
  have HI := Aside0.mk hi
  have HR := Aside0.mk hr
  clear h hi hr
  obtain ⟨wb, hwb⟩ : ∃ wb, wb = w.alloc (.cells #[.int .i64 0, .int .i64 0] 41) := ⟨_, rfl⟩
  have hbl : wb.heap[w.heap.size]? = some (.cells #[.int .i64 0, .int .i64 0] 41 (0, 0)) := by rw [hwb]; exact heap_alloc_new w _
  have HBL := Aside0.mk hbl
  have HBW := Aside0.mk (show Below w.heap.size w wb by rw [hwb]; exact below_alloc (Below.refl _ _) _)
  have HWB := Aside0.mk hwb
  clear hbl hwb
  go_enter Try.func20, Try.ntmps20
  go_wp2
  rw [← HWB.out]
  go_loopw [16] (fun v16 wr => ∃ i : Nat, i ≤ ids.length ∧ v16 = .int .i64 i ∧ Aside0 (inGo k l nm ver (ids.drop i) = some (r1, r2, r3)) ∧ Aside0 (Below wb.heap.size wb wr)) (fun v16 _ => ids.length - (intOf v16).toNat)
  case atStart => exact ⟨0, by omega, rfl, ⟨by simpa using HR.out⟩, ⟨Below.refl _ _⟩⟩
  case round =>
    obtain ⟨i, hi, rfl, HG, HB⟩ := hrel
    by_cases hlt : (i : Int) < ids.length
    · have hin : i < ids.length := by omega
      obtain ⟨ad, rfl, hp⟩ := int_at HI.out i hin
      replace hp := (HBW.out.cell (World.block_lt_of_cell? w _ hp)).trans hp
      replace hp := (HB.out.cell (World.block_lt_of_cell? wb _ hp)).trans hp
      obtain ⟨id, hid⟩ : ∃ id, ids[i] = id := ⟨_, rfl⟩
      rw [hid] at hp
      have hw1 : (Lit.int .i64 id).wf = true := hid ▸ hwf _ (List.getElem_mem hin)
      have hG := HG.out
      rw [List.drop_eq_getElem_cons hin, hid, inGo] at hG
      have HG2 := Aside0.mk hG
      clear hG HG hid
      go_wp2_with fail
      refine (get_T wr bt l id ((HT.out.below HBW.out).below HB.out) hw1).mono ?_
      rintro e w2 ⟨rfl, ⟨b, x, rfl, hx, hI⟩ | ⟨rfl, hx⟩⟩
      · have hG := HG2.out
        rw [hx] at hG
        simp only at hG
        obtain ⟨n, hn, hG⟩ := Option.bind_eq_some_iff.mp hG
        obtain ⟨sA, sc, hlib, hs62, hsC, hsc⟩ := hI.lib
        have HLIB := Aside0.mk hlib
        have HSC := Aside0.mk hsC
        have HN := Aside0.mk hn
        have HG3 := Aside0.mk hG
        clear hG HG2 hlib hsC hn hI hp
        have hu70 := Try.underlying70
        have hlib := HLIB.out
        have hln : (libC x.sy x.vd (.slice sA x.syms.length sc)).toList.length = 60 := rfl
        have hone : ∀ v ∈ (libC x.sy x.vd (.slice sA x.syms.length sc)).toList, v.oneCell' = true := by
          intro v hv
          simp only [libC, List.mem_cons, List.not_mem_nil, or_false] at hv
          rcases hv with h | h | h | h | h | h | h | h | h | h | h | h | h | h | h | h | h | h | h | h | h | h | h | h | h | h | h | h | h | h | h | h | h | h | h | h | h | h | h | h | h | h | h | h | h | h | h | h | h | h | h | h | h | h | h | h | h | h | h | h <;> subst h <;> rfl
        obtain ⟨L, hL⟩ : ∃ L, (libC x.sy x.vd (.slice sA x.syms.length sc)).toList = L := ⟨_, rfl⟩
        have hL2 : L.toArray = libC x.sy x.vd (.slice sA x.syms.length sc) := by rw [← hL, Array.toArray_toList]
        have hi70 : (Try.prog.info? 70).map (·.size) = some L.length := by rw [← hL]; kernel_rfl
        rw [hL] at hlib hln hone
        go_wp2_with fail
        refine start_ (n := 14) (S := fun w' => w'.rangeAt b 6 L ∧ w'.cell? ⟨b, 62, none⟩ = some (.slice sA x.syms.length sc)) (ds := []) #[false, false, false, false, false, false, false, false, false, false, false, false, false, false] (by kernel_rfl) rfl rfl ⟨hlib, hs62⟩ (fun hHeld => ?_); refine with_tabW in_tab6 in_bits6 (fun HT_ HW_ => ?_)
        obtain ⟨w3, hW3⟩ : ∃ w3, w3 = w2.drew := ⟨_, rfl⟩
        rw [← hW3] at hHeld ⊢
        refine pure_ (i := 0) (N := some 25) (v := ?_) (a' := ?_) #[true, false, false, false, false, false, false, false, false, false, false, false, false, false] rfl rfl (any_of HT_.out (by kernel_rfl)) (fun _ _ _ h => h) (Or.inl ⟨by rfl, ?_⟩) ?_ ?_
        rotate_left
        · intro w'
          go_simp
          with_reducible rfl
        rotate_left
        · simp only [Act.put, List.setIfInBounds_toArray, List.set_cons_zero, List.set_cons_succ, i64_w, i32_w]
          rfl
        refine pure_ (i := 1) (N := some 26) (v := ?_) (a' := ?_) #[true, true, false, false, false, false, false, false, false, false, false, false, false, false] rfl rfl (any_of HT_.out (by kernel_rfl)) (fun _ _ _ h => h) (Or.inl ⟨by rfl, ?_⟩) ?_ ?_
        rotate_left
        · intro w'
          go_simp
          with_reducible rfl
        rotate_left
        · simp only [Act.put, List.setIfInBounds_toArray, List.set_cons_zero, List.set_cons_succ, i64_w, i32_w]
          rfl
        refine pure_ (i := 2) (N := some 27) (v := ?_) (a' := ?_) #[true, true, true, false, false, false, false, false, false, false, false, false, false, false] rfl rfl (any_of HT_.out (by kernel_rfl)) (fun _ _ _ h => h) (Or.inl ⟨by rfl, ?_⟩) ?_ ?_
        rotate_left
        · intro w'
          go_simp
          with_reducible rfl
        rotate_left
        · simp only [Act.put, List.setIfInBounds_toArray, List.set_cons_zero, List.set_cons_succ, i64_w, i32_w]
          rfl
        refine pure_ (i := 3) (N := some 28) (v := ?_) (a' := ?_) #[true, true, true, true, false, false, false, false, false, false, false, false, false, false] rfl rfl (any_of HT_.out (by kernel_rfl)) (fun _ _ _ h => h) (Or.inl ⟨by rfl, ?_⟩) ?_ ?_
        rotate_left
        · intro w'
          go_simp
          with_reducible rfl
        rotate_left
        · simp only [Act.put, List.setIfInBounds_toArray, List.set_cons_zero, List.set_cons_succ, i64_w, i32_w]
          rfl
        refine take_ (i := 4) (N := some 29) (v := ?_) (a' := ?_) #[true, true, true, true, true, false, false, false, false, false, false, false, false, false] rfl rfl (take_ofW HT_.out HW_.out (by kernel_rfl)) (fun _ _ _ h => h) (Or.inl ⟨by rfl, ?_⟩) hHeld ?_ ?_
        rotate_left
        · rintro w' ⟨s0, s1⟩
          go_simp
          with_reducible rfl
        rotate_left
        · simp only [Act.put, List.setIfInBounds_toArray, List.set_cons_zero, List.set_cons_succ, i64_w, i32_w]
          rfl
        refine pure_ (i := 5) (N := some 30) (v := ?_) (a' := ?_) #[true, true, true, true, true, true, false, false, false, false, false, false, false, false] rfl rfl (any_of HT_.out (by kernel_rfl)) (fun _ _ _ h => h) (Or.inl ⟨by rfl, ?_⟩) ?_ ?_
        rotate_left
        · intro w'
          go_simp
          with_reducible rfl
        rotate_left
        · simp only [Act.put, List.setIfInBounds_toArray, List.set_cons_zero, List.set_cons_succ, i64_w, i32_w]
          rfl
        refine pure_ (i := 6) (N := some 31) (v := ?_) (a' := ?_) #[true, true, true, true, true, true, true, false, false, false, false, false, false, false] rfl rfl (any_of HT_.out (by kernel_rfl)) (fun _ _ _ h => h) (Or.inl ⟨by rfl, ?_⟩) ?_ ?_
        rotate_left
        · intro w'
          go_simp
          with_reducible rfl
        rotate_left
        · simp only [Act.put, List.setIfInBounds_toArray, List.set_cons_zero, List.set_cons_succ, i64_w, i32_w]
          rfl
        refine pure_ (i := 7) (N := some 32) (v := ?_) (a' := ?_) #[true, true, true, true, true, true, true, true, false, false, false, false, false, false] rfl rfl (any_of HT_.out (by kernel_rfl)) (fun _ _ _ h => h) (Or.inl ⟨by rfl, ?_⟩) ?_ ?_
        rotate_left
        · intro w'
          go_simp
          with_reducible rfl
        rotate_left
        · simp only [Act.put, List.setIfInBounds_toArray, List.set_cons_zero, List.set_cons_succ, i64_w, i32_w]
          rfl
        refine take_ (i := 8) (N := some 33) (a' := ?_) #[true, true, true, true, true, true, true, true, true, false, false, false, false, false] rfl rfl (take_ofW HT_.out HW_.out (by kernel_rfl)) (fun _ _ _ h => h) (yieldsIf_load_mid (by rfl) 70 (.tmp 32) rfl b 6 rfl L _ (fun w hS => hS.1) hu70 rfl hi70) hHeld ?_ ?_
        rotate_left
        · simp only [Act.put, List.setIfInBounds_toArray, List.set_cons_zero, List.set_cons_succ, i64_w, i32_w]
          rfl
        refine pure_ (i := 10) (N := some 35) (v := ?_) (a' := ?_) #[true, true, true, true, true, true, true, true, true, false, true, false, false, false] rfl rfl (any_of HT_.out (by kernel_rfl)) (fun _ _ _ h => h) (Or.inl ⟨by rfl, ?_⟩) ?_ ?_
        rotate_left
        · intro w'
          go_simp
          with_reducible rfl
        rotate_left
        · simp only [Act.put, List.setIfInBounds_toArray, List.set_cons_zero, List.set_cons_succ, i64_w, i32_w]
          rfl
        refine pure_ (i := 11) (N := some 36) (v := ?_) (a' := ?_) #[true, true, true, true, true, true, true, true, true, false, true, true, false, false] rfl rfl (any_of HT_.out (by kernel_rfl)) (fun _ _ _ h => h) (Or.inl ⟨by rfl, ?_⟩) ?_ ?_
        rotate_left
        · intro w'
          go_simp
          with_reducible rfl
        rotate_left
        · simp only [Act.put, List.setIfInBounds_toArray, List.set_cons_zero, List.set_cons_succ, i64_w, i32_w]
          rfl
        refine one_ (i := 9) (N := some 34) #[true, true, true, true, true, true, true, true, true, true, true, true, false, false] rfl rfl (one_of HT_.out (by kernel_rfl)) (by decide) (fun K hK => ?_)
        refine goes_ Try.func36 (by kernel_rfl) rfl #[.agg L.toArray] (by rfl) rfl rfl (by (try simp only [List.map_toArray, List.map_cons, List.map_nil]); first | done | rfl) ?_
        rw [hL2]
        refine (versions_calls w3 x.sy x.vd _).mono ?_
        rintro e w4 ⟨rfl, hb4⟩
        refine ⟨_, rfl, ?_⟩
        have HB4 := Aside0.mk hb4
        refine hK.out _ _ ⟨rangeAt_below hHeld.1 hb4, (hb4.cell (World.block_lt_of_cell? w3 _ hHeld.2)).trans hHeld.2⟩ (fun hHeld4 => ?_)
        clear hb4
        clear hK K
        refine norm_ (a' := ?_) ?_ ?_
        rotate_left
        · show Act.put _ (some 34) _ = _
          simp only [Act.put, List.setIfInBounds_toArray, List.set_cons_zero, List.set_cons_succ, i64_w, i32_w]
          rfl
        refine one_ (i := 12) (N := some 37) #[true, true, true, true, true, true, true, true, true, true, true, true, true, false] rfl rfl (one_of HT_.out (by kernel_rfl)) (by decide) (fun K hK => ?_)
        refine goes_ Try.func35 (by kernel_rfl) rfl #[.slice sA x.syms.length sc, .bool (x.vd != 0), .string nm, .string ver] (by rfl) rfl rfl (by (try simp only [List.map_toArray, List.map_cons, List.map_nil]); first | done | rfl) ?_
        refine (syms_Find.calls k sA sc x.syms (x.vd != 0) nm ver n w4 (Kd.C_below (Kd.C_drew HSC.out |> fun z => hW3 ▸ z) HB4.out) hsc HN.out).mono ?_
        rintro e w5 ⟨rfl, hb5⟩
        refine ⟨_, rfl, ?_⟩
        have HB5 := Aside0.mk hb5
        refine hK.out _ _ ⟨rangeAt_below hHeld4.1 hb5, (hb5.cell (World.block_lt_of_cell? w4 _ hHeld4.2)).trans hHeld4.2⟩ (fun hHeld5 => ?_)
        clear hb5
        clear hK K
        refine norm_ (a' := ?_) ?_ ?_
        rotate_left
        · show Act.put _ (some 37) _ = _
          simp only [Act.put, List.setIfInBounds_toArray, List.set_cons_zero, List.set_cons_succ, i64_w, i32_w]
          rfl
        refine pure_ (i := 13) (N := some 13) (v := ?_) (a' := ?_) #[true, true, true, true, true, true, true, true, true, true, true, true, true, true] rfl rfl (any_of HT_.out (by kernel_rfl)) (fun _ _ _ h => h) (Or.inl ⟨by rfl, ?_⟩) ?_ ?_
        rotate_left
        · intro w'
          go_simp
          with_reducible rfl
        rotate_left
        · simp only [Act.put, List.setIfInBounds_toArray, List.set_cons_zero, List.set_cons_succ, i64_w, i32_w]
          rfl
        refine done_ (done_of HT_.out (by kernel_rfl)) ?_
        have hB3 : Below wb.heap.size wb w3 := by rw [hW3]; exact below_drew1 HB.out
        have HBE := Aside0.mk (below_then (below_then hB3 hB3.size HB4.out) (below_then hB3 hB3.size HB4.out).size HB5.out)
        have hblk := (HBE.out.block w.heap.size (heap_lt_of HBL.out)).trans HBL.out
        have hG := HG3.out
        have hy0 := (blk_cell hblk 0).trans rfl
        have hy1 := (blk_cell hblk 1).trans rfl
        have hf0 := blk_frozen hblk 0
        have hf1 := blk_frozen hblk 1
        have HBLK := Aside0.mk hblk
        clear hHeld hHeld4 hHeld5 HT_ HW_ hlib hu70 hi70 hone hln HB4 HB5 HB hB3 hs62 hblk HG3
        by_cases hn0 : n ≥ 0
        · rw [if_pos hn0] at hG
          simp only [Option.some.injEq, Prod.mk.injEq] at hG
          obtain ⟨rfl, rfl, rfl⟩ := hG
          go_wp2
          have hs := blk_set (blk_set HBLK.out 0 (.int .i64 id)) 1 (.int .i64 n)
          refine bodyPost_ret (in_results _ _ w.heap.size (.int .i64 id) (.int .i64 n) _ rfl rfl (by simpa using hs)) rfl ⟨rfl, ?_⟩
          exact ((below_then HBW.out HBW.out.size HBE.out).setCell (p := ⟨w.heap.size, 0, none⟩) (Nat.le_refl _) _).setCell (p := ⟨w.heap.size, 1, none⟩) (Nat.le_refl _) _
        · rw [if_neg hn0] at hG
          have HG4 := Aside0.mk hG
          clear hG hy0 hy1 hf0 hf1
          go_wp2
          refine ⟨⟨i + 1, by omega, by simp, HG4, HBE⟩, ?_⟩
          simp only [intOf]
          omega
      · have hG := HG2.out
        rw [hx] at hG
        have HG3 := Aside0.mk hG
        clear hG HG2 hx
        go_wp2
        refine ⟨⟨i + 1, by omega, by simp, HG3, HB⟩, ?_⟩
        simp only [intOf]
        omega
    · obtain rfl : i = ids.length := by omega
      have hG := HG.out
      rw [List.drop_of_length_le (Nat.le_refl _), inGo] at hG
      simp only [Option.some.injEq, Prod.mk.injEq] at hG
      obtain ⟨rfl, rfl, rfl⟩ := hG
      have hblk := (HB.out.block w.heap.size (heap_lt_of HBL.out)).trans HBL.out
      have hy0 := (blk_cell hblk 0).trans rfl
      have hy1 := (blk_cell hblk 1).trans rfl
      have hf0 := blk_frozen hblk 0
      have hf1 := blk_frozen hblk 1
      have HBLK := Aside0.mk hblk
      clear hblk
      go_wp2
      have hs := blk_set (blk_set HBLK.out 0 (.int .i64 0)) 1 (.int .i64 0)
      refine bodyPost_ret (in_results _ _ w.heap.size (.int .i64 0) (.int .i64 0) _ rfl rfl (by simpa using hs)) rfl ⟨rfl, ?_⟩
      exact ((below_then HBW.out HBW.out.size HB.out).setCell (p := ⟨w.heap.size, 0, none⟩) (Nat.le_refl _) _).setCell (p := ⟨w.heap.size, 1, none⟩) (Nat.le_refl _) _
end Go.Proofs.Ytmcihkfbgcfccaa.H
