/- messuagelaw23.made. -/
import Derived.Test.YtmcihkfbgcfccaaHMInv
namespace Go.Proofs.Ytmcihkfbgcfccaa.H
open Go.RowKit Go.Proofs.Ytmcihkfbgcfccaa.Z Go.Proofs.YtmcihkfbgcfccaaW.PrintWords Go.Proofs.YtmcihkfbgcfccaaW.PrintLast Go.Proofs.YtmcihkfbgcfccaaW.PrintMore
set_option linter.unusedVariables false
set_option linter.unusedSimpArgs false
/-- A dynamic part that says whether it is symbolic. -/
def dynC (sy : Bool) : Array Value := (libC sy 0 (.slice none 0 0)).extract 16 56
theorem built66 (sy : Bool) : Try.prog.built 66 [(3, .bool sy)] = some (dynC sy) := by kernel_rfl
theorem built70' (sy : Bool) (A : Option Addr) (n c : Nat) : Try.prog.built 70 [(2, .slice A n c), (1, .agg (dynC sy))] = some (libC sy 0 (.slice A n c)) := by kernel_rfl
theorem built74 (sp : Int) (sy : Bool) (vd : Int) (A : Option Addr) (n c : Nat) (gl : Bool) : Try.prog.built 74 [(1, .int .i64 sp), (3, .agg (libC sy vd (.slice A n c))), (9, .bool gl)] = some (instT 0 sp sy vd (.slice A n c) (.slice none 0 0) gl) := by kernel_rfl
theorem built94 (sp : Int) (sy : Bool) (vd : Int) (A : Option Addr) (n c : Nat) (gl : Bool) : Try.prog.built 94 [(1, .int .i64 sp), (3, .agg (libC sy vd (.slice A n c))), (8, .bool gl)] = some (instR 0 sp sy vd (.slice A n c) (.slice none 0 0) gl) := by kernel_rfl
theorem wpList_built {P : Program} {ops : Array Oper} {rest : List Oper} {o : Oper} {a : Act} {w : World} {Q : Exit → Act → World → Prop} (hg : o.guard = none) (t : TypeId) (parts : Array (Nat × Operand)) (ho : o.op = .build t parts) (l : List (Nat × Value)) (hl : (parts.map fun (i, x) => (i, a.eval x)).toList = l) (cells : Array Value) (hb : P.built t l = some cells)
    (h : wpList P ops Q rest (a.put o.dst (.agg cells)) w) : wpList P ops Q (o :: rest) a w := by
  refine wpList_build hg t parts ho ?_ ?_
  · rw [hl, hb]; rfl
  · rw [hl, hb]; exact h
set_option maxRecDepth 100000 in
theorem newR_calls (w : World) : Calls Try.prog 26 #[.int .i64 12] w fun e w' => e = .returned (.tuple #[.agg #[.int .i64 12, .int .i64 1, .slice none 0 0], .int .i64 0]) ∧ Below w.heap.size w w' := by
  go_enter Try.func26, Try.ntmps26
  go_wp2
  refine bodyPost_ret (v := .tuple #[.agg #[.int .i64 12, .int .i64 1, .slice none 0 0], .int .i64 0]) (by simp [results, Try.results26, go_sem]) rfl ⟨rfl, ?_⟩
  exact below_alloc (Below.refl _ _) _
theorem size70 : (Try.prog.info? 70).map (·.size) = some 60 := by kernel_rfl
theorem libC_one (sy : Bool) (vd : Int) (A : Option Addr) (n c : Nat) : (libC sy vd (.slice A n c)).all (·.oneCell') = true := by
  simp [libC, Value.oneCell']
theorem made_results (tmps : Array Value) (W : World) (g : Nat) (c0 c1 c2 : Value) (r e : Value) (hp : tmps[3]? = some (.pointer (some ⟨g, 0, none⟩))) (hr : tmps[2]? = some r) (he : tmps[4]? = some e) (hg : W.heap[g]? = some (.cells #[c0, c1, c2] 27 (0, 0))) :
    (results Try.f9 tmps).run Try.prog W = .ok (.tuple #[r, .agg #[c0, c1, c2], e]) W := by
  have h : Try.f9.results = #[.tmp 2, .cell 3 27, .tmp 4] := rfl
  have hl := run_loadVar_row (P := Try.prog) W g 27 27 #[c0, c1, c2] (0, 0) _ hg Try.underlying27 rfl (by kernel_rfl)
  simp [results, h, hp, hr, he, asAddr, hl]
/-- What made hands back. -/
def MadePost (w : World) (l : List S81) (e : Ending) (w' : World) : Prop := ∃ (bt : Nat) (A : Option Addr) (c : Nat) (rs : List Raw) (S : Nat → Prop), e = .returned (.tuple #[.pointer (some ⟨bt, 0, none⟩), .agg #[.int .i64 12, .int .i64 ((l.length : Int) + 1), .slice A l.length c], .bool true]) ∧ TabR w' bt (netOf l) ∧ RefF w w' S (netOf l) A rs ∧ Below w.heap.size w w'
noncomputable def made_T24 : Bool × List (List Nat × List Nat) := rtab .any (opsOf Try.f9 24)
theorem made_tab24 : rtab .any (opsOf Try.f9 24) = made_T24 := rfl
def made_B24 : List Nat := [0, 0, 1, 7, 15]
theorem made_bits24 : waitsOk made_T24.2 made_B24 = true := by kernel_rfl
set_option maxRecDepth 100000 in
set_option maxHeartbeats 4000000 in
theorem made_calls (w : World) (A0 : Option Addr) (c0 : Nat) (l : List S81) (hC : k81.C w A0 l.length l) (hl : l.length ≤ 12) (hn : ∀ x ∈ l, x.f4.length ≤ 40 ∧ x.f5.length ≤ 12) :
    Calls Try.prog 9 #[.slice A0 l.length c0] w (MadePost w l) := by
  have HC := Aside0.mk hC
  have HN := Aside0.mk hn
  clear hC hn
  obtain ⟨w1, hw1⟩ : ∃ w1, w1 = w.alloc (.cells #[.int .i64 0, .int .i64 0, .slice none 0 0] 27) := ⟨_, rfl⟩
  have hb3 : w1.heap[w.heap.size]? = some (.cells #[.int .i64 0, .int .i64 0, .slice none 0 0] 27 (0, 0)) := by rw [hw1]; exact heap_alloc_new w _
  have hB1 : Below w.heap.size w w1 := by rw [hw1]; exact below_alloc (Below.refl _ _) _
  have HW1 := Aside0.mk hw1
  have HB3 := Aside0.mk hb3
  have HB1 := Aside0.mk hB1
  clear hw1 hb3 hB1
  go_enter Try.func9, Try.ntmps9
  go_upto_region 1 with (fail)
  rw [← HW1.out]
  go_upto_region 2 with (go_at_call 25; refine (new_calls _).mono ?_; rintro e w2 ⟨rfl, hw2⟩; have HW2 := Aside0.mk hw2; clear hw2)
  have hT2 : TabO w w2 (w1.heap.size + 1) [] (fun _ => (none, 0)) (fun k => k = w1.heap.size + 1 ∨ k = w1.heap.size) := by rw [HW2.out]; exact TabO.made w w1 HB1.out
  have hb2 : Below w1.heap.size w1 w2 := by rw [HW2.out]; exact ((Below.refl _ w1).alloc (Nat.le_refl _) _).alloc (by simp) _
  obtain ⟨bt, hbt⟩ : ∃ bt, w1.heap.size + 1 = bt := ⟨_, rfl⟩
  rw [hbt] at hT2 ⊢
  have HT2 := Aside0.mk hT2
  have HB2 := Aside0.mk hb2
  clear HW2 hT2 hb2 hbt
  go_upto_region 3 with (go_at_call 26; refine (newR_calls _).mono ?_; rintro e w3 ⟨rfl, hb⟩; have HB33 := Aside0.mk hb; clear hb)
  obtain ⟨w4, hw4⟩ : ∃ w4, w4 = w3.alloc (.cells #[.int .i64 12, .int .i64 1, .slice none 0 0] 27) := ⟨_, rfl⟩
  obtain ⟨p7, hp7⟩ : ∃ p7, w3.heap.size = p7 := ⟨_, rfl⟩
  have h7 : w4.heap[p7]? = some (.cells #[.int .i64 12, .int .i64 1, .slice none 0 0] 27 (0, 0)) := by rw [hw4, ← hp7]; exact heap_alloc_new w3 _
  have hb23 : Below w2.heap.size w2 w4 := by rw [hw4]; exact HB33.out.alloc HB33.out.size _
  have hle : w.heap.size ≤ p7 := by have := HB1.out.size; have := HB2.out.size; have := HB33.out.size; omega
  have hne : w.heap.size ≠ p7 := by have := heap_lt_of HB3.out; have := HB2.out.size; have := HB33.out.size; omega
  have hM0 : MInv w w4 bt w.heap.size p7 [] := by
    refine ⟨_, _, [], none, 0, HT2.out.kept (below_then HT2.out.below HT2.out.below.size hb23) (fun k hk => hb23.block k (HT2.out.typed hk).2.1), h7, ?_, ⟨rfl, fun h => absurd rfl h, fun W' _ => Kd.C_nil _ _, fun k x r hx => by simp at hx⟩, hle, hne⟩
    have h3 := (HB2.out.block _ (heap_lt_of HB3.out)).trans HB3.out
    exact (hb23.block _ (heap_lt_of h3)).trans h3
  have HM0 := Aside0.mk hM0
  have HNE := Aside0.mk hne
  rw [hp7, ← hw4]
  clear hw4 hp7 h7 hb23 HT2 HB2 HB33 HB3 HB1 HW1 hM0 hne
  go_upto_block 0 with (fail)
  go_wp2_with fail
  go_loopw [9] (fun v9 wr => ∃ i : Nat, i ≤ l.length ∧ v9 = .int .i64 i ∧ Aside0 (MInv w wr bt w.heap.size p7 ((l.take i).map fun x => insOf x []))) (fun v9 _ => l.length - (intOf v9).toNat)
  case atStart => exact ⟨0, by omega, rfl, ⟨by simpa using HM0.out⟩⟩
  case round =>
    obtain ⟨i, hi, rfl, HM⟩ := hrel
    by_cases hlt : (i : Int) < l.length
    · have hin : i < l.length := by omega
      have hbw := HM.out.tab
      obtain ⟨ad, A4, c4, A5, c5, hA, e0, e1, e2, e3, e4, e5, l4, g4, l5, g5⟩ := at_T81 HC.out (i : Int) (by omega) hlt
      subst hA
      simp only [Int.toNat_natCast] at e0 e1 e2 e3 e4 e5
      have hx : rd_T81 l (i : Int) = l[i] := by simp [rd_T81, hin]
      rw [hx] at e0 e1 e2 e3 e4 e5 l4 g4 l5 g5
      have hmem := HN.out _ (List.getElem_mem hin)
      have hnx : (l.take (i + 1)).map (fun x => insOf x []) = (l.take i).map (fun x => insOf x []) ++ [insOf l[i] []] := by rw [List.take_succ_eq_append_getElem hin, List.map_append]; rfl
      obtain ⟨x, hxx⟩ : ∃ x, l[i] = x := ⟨_, rfl⟩
      rw [hxx] at e0 e1 e2 e3 e4 e5 l4 g4 l5 g5 hmem hnx
      replace e0 := (hbw.cell (World.block_lt_of_cell? w _ e0)).trans e0
      replace e1 := (hbw.cell (World.block_lt_of_cell? w _ e1)).trans e1
      replace e2 := (hbw.cell (World.block_lt_of_cell? w _ e2)).trans e2
      replace e3 := (hbw.cell (World.block_lt_of_cell? w _ e3)).trans e3
      replace e4 := (hbw.cell (World.block_lt_of_cell? w _ e4)).trans e4
      replace e5 := (hbw.cell (World.block_lt_of_cell? w _ e5)).trans e5
      have HNX := Aside0.mk hnx
      have H4 := Aside0.mk (And.intro l4 g4)
      have hLl : ((l.take i).map fun x => insOf x []).length = i := by rw [List.length_map, List.length_take]; omega
      obtain ⟨L, hL⟩ : ∃ L, (l.take i).map (fun x => insOf x []) = L := ⟨_, rfl⟩
      rw [hL] at HM HNX hLl
      have HLL := Aside0.mk hLl
      have hLi : L.length < 12 := by omega
      clear hx hxx hnx l4 g4 l5 g5 hL hLl hmem
      go_upto_region 9 with (fail)
      obtain ⟨wa, hwa⟩ : ∃ wa, wa = wr.alloc (.cells #[.int .i64 x.f0, .bool x.f1, .bool x.f2, .bool x.f3, .slice A4 x.f4.length c4, .slice A5 x.f5.length c5] 81) := ⟨_, rfl⟩
      rw [← hwa]
      have hk10 : wa.heap[wr.heap.size]? = some (.cells #[.int .i64 x.f0, .bool x.f1, .bool x.f2, .bool x.f3, .slice A4 x.f4.length c4, .slice A5 x.f5.length c5] 81 (0, 0)) := by rw [hwa]; exact heap_alloc_new wr _
      have hba : Below wr.heap.size wr wa := by rw [hwa]; exact below_alloc (Below.refl _ _) _
      have a1 : wa.cell? ⟨wr.heap.size, 1, none⟩ = some (.bool x.f1) := (blk_cell hk10 1).trans rfl
      have a4 : wa.cell? ⟨wr.heap.size, 4, none⟩ = some (.slice A4 x.f4.length c4) := (blk_cell hk10 4).trans rfl
      have HK10a := Aside0.mk hk10
      have HBa := Aside0.mk hba
      have hla := heap_lt_of hk10
      have hb66 := built66 x.f1
      have hb70 := built70' x.f1 A4 x.f4.length c4
      obtain ⟨XD, hXD⟩ : ∃ XD, dynC x.f1 = XD := ⟨_, rfl⟩
      rw [hXD] at hb66 hb70
      have hsz0 : (libC x.f1 0 (.slice A4 x.f4.length c4)).size = 60 := rfl
      have hone0 := libC_one x.f1 0 A4 x.f4.length c4
      have hc29 : (libC x.f1 0 (.slice A4 x.f4.length c4))[29]? = some (.int .u64 0) := rfl
      have HC29 := Aside0.mk hc29
      obtain ⟨XL0, hXL0⟩ : ∃ XL0, libC x.f1 0 (.slice A4 x.f4.length c4) = XL0 := ⟨_, rfl⟩
      rw [hXL0] at hb70 hsz0 hone0 HC29
      have HXL0 := Aside0.mk hXL0
      have HB66 := Aside0.mk hb66
      have HB70 := Aside0.mk hb70
      have HS0 := Aside0.mk hsz0
      have HO0 := Aside0.mk hone0
      clear hwa hk10 hba hb66 hb70 hXD hsz0 hone0 hXL0 hc29 e0 e1 e2 e3 e4 e5 hbw
      go_upto_region 10 with (first
        | ((with_reducible refine gate_dst (N := 44) rfl ?_); refine wpList_built ?bg 66 #[(3, .tmp 43)] ?bo [(3, .bool x.f1)] ?bl XD HB66.out ?_; (case bg => rfl); (case bo => rfl); (case bl => simp only [List.map_toArray, List.map_cons, List.map_nil]; rfl))
        | ((with_reducible refine gate_dst (N := 45) rfl ?_); refine wpList_built ?bg 70 #[(2, .tmp 41), (1, .tmp 44)] ?bo [(2, .slice A4 x.f4.length c4), (1, .agg XD)] ?bl XL0 HB70.out ?_; (case bg => rfl); (case bo => rfl); (case bl => simp only [List.map_toArray, List.map_cons, List.map_nil]; rfl))
        | ((with_reducible refine gate_dst (N := 11) rfl ?_); refine box_event ?hg (N := 11) ?hd (cs := libC false 0 (.slice none 0 0)) (t := 70) ?hr ?_; (case hd => rfl); (case hg => rfl); (case hr => first | (go_simp; done) | (go_simp; rfl)); intro g11 hg11 wb hbox hb; have HBX := Aside0.mk hbox; have HB4 := Aside0.mk hb; have HG11 := Aside0.mk hg11; clear hbox hb hg11)
        | (refine wpList_store_row rfl 70 (.tmp 11) (.tmp 45) rfl g11 XL0 ?s1 ?s2 70 (libC false 0 (.slice none 0 0)) HBX.out ?s3 ?s4 HO0.out ?_; (case s1 => rfl); (case s2 => rfl); (case s3 => rw [size70, HS0.out]); (case s4 => (show 60 = _); rw [HS0.out])))
      (try simp only [Act.put, List.setIfInBounds_toArray, List.set_cons_zero, List.set_cons_succ])
      obtain ⟨w5, hw5⟩ : ∃ w5, w5 = wb.setRow g11 XL0 := ⟨_, rfl⟩
      rw [← hw5]
      have hg11 : wa.heap.size ≤ g11 := by rw [HG11.out]; exact Nat.le_refl _
      have hk5 : w5.heap[g11]? = some (.cells (libC x.f1 0 (.slice A4 x.f4.length c4)) 70 (0, 0)) := by rw [hw5, HXL0.out]; exact blk_setRow HBX.out
      have hb5 : Below wr.heap.size wr w5 := by rw [hw5]; exact below_setRow (HBa.out.trans (HB4.out.mono (by omega))) (by omega)
      have hk105 : w5.heap[wr.heap.size]? = some (.cells #[.int .i64 x.f0, .bool x.f1, .bool x.f2, .bool x.f3, .slice A4 x.f4.length c4, .slice A5 x.f5.length c5] 81 (0, 0)) := by rw [hw5, heap_setRow (by omega)]; exact (HB4.out.block _ hla).trans HK10a.out
      have k3 : w5.cell? ⟨wr.heap.size, 3, none⟩ = some (.bool x.f3) := (blk_cell hk105 3).trans rfl
      have k29 : w5.cell? ⟨g11, 29, none⟩ = some (.int .u64 0) := (blk_cell hk5 29).trans rfl
      have f29 := blk_frozen hk5 29
      have HK5 := Aside0.mk hk5
      have HB5 := Aside0.mk hb5
      have HK10 := Aside0.mk hk105
      clear hw5 hk5 hb5 hk105 a1 a4 HK10a HBa HBX HB4 HG11
      cases hx3 : x.f3 with
      | true =>
        rw [hx3] at k3 HK10
        go_upto_region 12 with (fail)
        obtain ⟨w6, hw6⟩ : ∃ w6, w6 = w5.setCell ⟨g11, 29, none⟩ (.int .u64 8) := ⟨_, rfl⟩
        rw [← hw6]
        have hb6 : Below wr.heap.size wr w6 := by rw [hw6]; exact HB5.out.setCell (p := ⟨g11, 29, none⟩) (by show wr.heap.size ≤ g11; omega) _
        have hbk11 : w6.heap[g11]? = some (.cells (libC x.f1 8 (.slice A4 x.f4.length c4)) 70 (0, 0)) := by rw [hw6]; exact blk_set HK5.out 29 _
        have hbk106 : w6.heap[wr.heap.size]? = some (.cells #[.int .i64 x.f0, .bool x.f1, .bool x.f2, .bool true, .slice A4 x.f4.length c4, .slice A5 x.f5.length c5] 81 (0, 0)) := by rw [hw6, Below.heap_setCell _ ⟨g11, 29, none⟩ _ _ (by show wr.heap.size ≠ g11; omega)]; exact HK10.out
        have HB6 := Aside0.mk hb6
        have HBK11 := Aside0.mk hbk11
        have HBK106 := Aside0.mk hbk106
        clear hb6 hbk11 hbk106 k3 k29 f29 hw6
        have hM6 := HM.out.below HB6.out
        obtain ⟨s, S, rs, A, c, hT, h7, h3, hR, h57, hn37⟩ := hM6.out
        have hnl : L.length ≤ 12 := by omega
        have hadd := addT_calls w w6 bt L s S hT hLi x.f0 x.f1 8 x.f2 x.f4 A4 c4 H4.out.2 H4.out.1
        have HADD := Aside0.mk hadd
        have HT := Aside0.mk hT
        have H7 := Aside0.mk h7
        have H3 := Aside0.mk h3
        have HR := Aside0.mk hR
        have b0 : w6.cell? ⟨wr.heap.size, 0, none⟩ = some (.int .i64 x.f0) := (blk_cell HBK106.out 0).trans rfl
        have b2 : w6.cell? ⟨wr.heap.size, 2, none⟩ = some (.bool x.f2) := (blk_cell HBK106.out 2).trans rfl
        have hb74 := built74 x.f0 x.f1 8 A4 x.f4.length c4 x.f2
        have hb94 := built94 x.f0 x.f1 8 A4 x.f4.length c4 x.f2
        have hsz70 : (libC x.f1 8 (.slice A4 x.f4.length c4)).size = 60 := rfl
        obtain ⟨XL, hXL⟩ : ∃ XL, libC x.f1 8 (.slice A4 x.f4.length c4) = XL := ⟨_, rfl⟩
        obtain ⟨XT, hXT⟩ : ∃ XT, instT 0 x.f0 x.f1 8 (.slice A4 x.f4.length c4) (.slice none 0 0) x.f2 = XT := ⟨_, rfl⟩
        obtain ⟨r, hr⟩ : ∃ r : Raw, r = ⟨0, x.f0, x.f1, 8, (A4, x.f4.length, c4), (none, 0, 0), x.f2⟩ := ⟨_, rfl⟩
        have hrc : instR 0 x.f0 x.f1 8 (.slice A4 x.f4.length c4) (.slice none 0 0) x.f2 = r.cells := by rw [hr]; rfl
        rw [hXL] at HBK11 hb74 hb94 hsz70
        rw [hXT] at hb74 HADD
        rw [hrc] at hb94
        have HB74 := Aside0.mk hb74
        have HB94 := Aside0.mk hb94
        have HS70 := Aside0.mk hsz70
        have HRR := Aside0.mk hr
        obtain ⟨XR, hXR⟩ : ∃ XR, r.cells = XR := ⟨_, rfl⟩
        have HXR := Aside0.mk hXR
        rw [hXR] at HB94
        clear hadd hT h7 h3 hR hM6 hb74 hb94 hsz70 hXL hXT hr hrc hXR
        go_upto_region 13 with (first
          | ((with_reducible refine gate_dst (N := 53) rfl ?_); refine wpList_load_row rfl 70 (.tmp 11) rfl g11 rfl 70 XL (0, 0) _ HBK11.out Try.underlying70 rfl (by rw [size70, HS70.out]) ?_)
          | ((with_reducible refine gate_dst (N := 56) rfl ?_); refine wpList_built ?bg 74 #[(1, .tmp 52), (3, .tmp 53), (9, .tmp 55)] ?bo [(1, .int .i64 x.f0), (3, .agg XL), (9, .bool x.f2)] ?bl XT HB74.out ?_; (case bg => rfl); (case bo => rfl); (case bl => simp only [List.map_toArray, List.map_cons, List.map_nil]; rfl))
          | (go_at_call 27; refine HADD.out.mono ?_; rintro e w7 ⟨rfl, S', q1, q2, q3⟩; have HQ1 := Aside0.mk q1; have HQ2 := Aside0.mk q2; have HQ3 := Aside0.mk q3; clear q1 q2 q3))
        have k7 : ∀ k, k < w6.heap.size → ¬ S k → w7.heap[k]? = w6.heap[k]? := fun k hk hn => HQ2.out.2 k hk hn
        have g7 := (k7 _ (heap_lt_of H7.out) (HT.out.not H7.out (by decide))).trans H7.out
        have g3 := (k7 _ (heap_lt_of H3.out) (HT.out.not H3.out (by decide))).trans H3.out
        have g10 := (k7 _ (heap_lt_of HBK106.out) (HT.out.not HBK106.out (by decide))).trans HBK106.out
        have g11' := (k7 _ (heap_lt_of HBK11.out) (HT.out.not HBK11.out (by decide))).trans HBK11.out
        have hR7 := HR.out.kept (HQ2.out.mono (S' := fun k => S k ∨ k = p7 ∨ k = w.heap.size) (fun k hk => .inl hk)) (S1 := fun k => S' k ∨ k = p7 ∨ k = w.heap.size) (fun k hk => hk.elim (fun h => (HQ3.out k h).imp .inl id) (fun h => .inl (.inr h)))
        have hlen := hR7.len
        have hadd2 := addR_calls w7 A c rs r (hR7.cells w7 (Kept.refl _ _)) (by rw [hlen]; exact hLi)
        rw [hlen, HXR.out] at hadd2
        have t0 : w7.cell? ⟨p7, 0, none⟩ = some (.int .i64 12) := (blk_cell g7 0).trans rfl
        have t1 : w7.cell? ⟨p7, 1, none⟩ = some (.int .i64 ((L.length : Int) + 1)) := (blk_cell g7 1).trans rfl
        have t2 : w7.cell? ⟨p7, 2, none⟩ = some (.slice A L.length c) := (blk_cell g7 2).trans rfl
        have d0 : w7.cell? ⟨wr.heap.size, 0, none⟩ = some (.int .i64 x.f0) := (blk_cell g10 0).trans rfl
        have d2 : w7.cell? ⟨wr.heap.size, 2, none⟩ = some (.bool x.f2) := (blk_cell g10 2).trans rfl
        have G7 := Aside0.mk g7
        have G3 := Aside0.mk g3
        have G11 := Aside0.mk g11'
        have HR7 := Aside0.mk hR7
        have HA2 := Aside0.mk hadd2
        have HLEN := Aside0.mk hlen
        clear k7 g7 g3 g10 g11' hR7 hadd2 hlen b0 b2
        go_wp2_with (first
          | ((with_reducible refine gate_dst (N := 62) rfl ?_); refine wpList_load_row rfl 70 (.tmp 11) rfl g11 rfl 70 XL (0, 0) _ G11.out Try.underlying70 rfl (by rw [size70, HS70.out]) ?_)
          | ((with_reducible refine gate_dst (N := 65) rfl ?_); refine wpList_built ?bg 94 #[(1, .tmp 61), (3, .tmp 62), (8, .tmp 64)] ?bo [(1, .int .i64 x.f0), (3, .agg XL), (8, .bool x.f2)] ?bl XR HB94.out ?_; (case bg => rfl); (case bo => rfl); (case bl => simp only [List.map_toArray, List.map_cons, List.map_nil]; rfl))
          | (go_at_call 28; refine HA2.out.mono ?_; rintro e w8 ⟨v8, rfl, hv, hb⟩; obtain ⟨A8, c8, rfl⟩ := Kd.R_slice hv; have HV := Aside0.mk hv; have HB8 := Aside0.mk hb; have g78 := (hb.block _ (heap_lt_of G7.out)).trans G7.out; have t0' : w8.cell? ⟨p7, 0, none⟩ = some (.int .i64 12) := (blk_cell g78 0).trans rfl; have t1' : w8.cell? ⟨p7, 1, none⟩ = some (.int .i64 ((L.length : Int) + 1)) := (blk_cell g78 1).trans rfl; have t2' : w8.cell? ⟨p7, 2, none⟩ = some (.slice A L.length c) := (blk_cell g78 2).trans rfl; have y0 := blk_frozen g78 0; have y1 := blk_frozen g78 1; have y2 := blk_frozen g78 2; have G78 := Aside0.mk g78; clear hv hb g78))
        have hl8 : (rs ++ [({ r with id := (L.length : Int) + 1 } : Raw)]).length = L.length + 1 := by rw [List.length_append, HLEN.out]; rfl
        have hV := HV.out
        rw [hl8] at hV
        obtain ⟨w9, hw9⟩ : ∃ w9, w9 = ((w8.setCell ⟨p7, 0, none⟩ (.int .i64 12)).setCell ⟨p7, 1, none⟩ (.int .i64 ((L.length : Int) + 1 + 1))).setCell ⟨p7, 2, none⟩ (.slice A8 (L.length + 1) c8) := ⟨_, rfl⟩
        have hw9' := hw9
        have hg9 : w9.heap[p7]? = some (.cells #[.int .i64 12, .int .i64 ((L.length : Int) + 1 + 1), .slice A8 (L.length + 1) c8] 27 (0, 0)) := by rw [hw9]; simpa using blk_set (blk_set (blk_set G78.out 0 (.int .i64 12)) 1 (.int .i64 ((L.length : Int) + 1 + 1))) 2 (.slice A8 (L.length + 1) c8)
        have hk9 : ∀ k, k ≠ p7 → w9.heap[k]? = w8.heap[k]? := fun k hk => by rw [hw9, Below.heap_setCell _ ⟨p7, 2, none⟩ _ _ hk, Below.heap_setCell _ ⟨p7, 1, none⟩ _ _ hk, Below.heap_setCell _ ⟨p7, 0, none⟩ _ _ hk]
        have hs9 : w9.heap.size = w8.heap.size := by rw [hw9]; simp only [World.size_setCell]
        have hT7 := HQ1.out
        have hnS : ¬ S' p7 := hT7.not G7.out (by decide)
        have hb89 : Below w7.heap.size w7 w8 := HB8.out
        have hbw8 : Below w.heap.size w w8 := below_then hT7.below hT7.below.size hb89
        have hbw9 : Below w.heap.size w w9 := by rw [hw9]; exact ((hbw8.setCell (p := ⟨p7, 0, none⟩) hle _).setCell (p := ⟨p7, 1, none⟩) hle _).setCell (p := ⟨p7, 2, none⟩) hle _
        have hT9 : TabO w w9 bt (L ++ [insOf x []]) (fun k => if k = L.length then (A4, c4) else s k) S' := by
          have h := hT7.kept hbw9 (fun k hk => (hk9 k (fun e => hnS (e ▸ hk))).trans (hb89.block k (hT7.typed hk).2.1))
          have e : insOf x [] = ⟨x.f0, x.f1, 8, x.f2, x.f4, []⟩ := by unfold insOf; simp [hx3]
          rw [e]
          exact h
        have hR8 : RefF w w8 (fun k => S' k ∨ k = p7 ∨ k = w.heap.size) (L ++ [insOf x []]) A8 (rs ++ [({ r with id := (L.length : Int) + 1 } : Raw)]) := by
          refine ref_added (c2 := c8) HR7.out (fun k hk => hk.elim (fun h => (hT7.typed h).2.1) (fun h => h.elim (fun h => h ▸ heap_lt_of G7.out) (fun h => h ▸ heap_lt_of G3.out))) hb89 (by rw [hl8]; exact hV) ?_
          rw [HRR.out]
          exact ⟨rfl, rfl, rfl, by unfold insOf; simp [hx3], rfl, rfl, H4.out.1, H4.out.2, rfl, rfl⟩
        have hlx : (L ++ [insOf x []]).length = L.length + 1 := by simp
        have hkp9 : Kept w8 w9 (fun k => S' k ∨ k = p7 ∨ k = w.heap.size) := ⟨by omega, fun k _ hk => hk9 k (fun e => hk (.inr (.inl e)))⟩
        have hR9 := hR8.kept hkp9 (S1 := fun k => S' k ∨ k = p7 ∨ k = w.heap.size) (fun k hk => .inl hk)
        have hg39 := (hk9 _ HNE.out).trans ((hb89.block _ (heap_lt_of G3.out)).trans G3.out)
        rw [HLEN.out, ← hw9]
        have hMM : MInv w w9 bt w.heap.size p7 ((l.take (i + 1)).map fun x => insOf x []) := by
          rw [HNX.out]
          exact ⟨_, S', _, A8, c8, hT9, by rw [hlx]; exact hg9, hg39, hR9, hle, HNE.out⟩
        refine ⟨⟨i + 1, by omega, by simp, ⟨hMM⟩⟩, ?_⟩
        simp only [intOf]
        omega
      | false =>
        rw [hx3] at k3 HK10
        go_upto_region 12 with (fail)
        obtain ⟨w6, hw6⟩ : ∃ w6, w6 = w5 := ⟨_, rfl⟩
        rw [← hw6]
        have hb6 : Below wr.heap.size wr w6 := by rw [hw6]; exact HB5.out
        have hbk11 : w6.heap[g11]? = some (.cells (libC x.f1 0 (.slice A4 x.f4.length c4)) 70 (0, 0)) := by rw [hw6]; exact HK5.out
        have hbk106 : w6.heap[wr.heap.size]? = some (.cells #[.int .i64 x.f0, .bool x.f1, .bool x.f2, .bool false, .slice A4 x.f4.length c4, .slice A5 x.f5.length c5] 81 (0, 0)) := by rw [hw6]; exact HK10.out
        have HB6 := Aside0.mk hb6
        have HBK11 := Aside0.mk hbk11
        have HBK106 := Aside0.mk hbk106
        clear hb6 hbk11 hbk106 k3 k29 f29 hw6
        have hM6 := HM.out.below HB6.out
        obtain ⟨s, S, rs, A, c, hT, h7, h3, hR, h57, hn37⟩ := hM6.out
        have hnl : L.length ≤ 12 := by omega
        have hadd := addT_calls w w6 bt L s S hT hLi x.f0 x.f1 0 x.f2 x.f4 A4 c4 H4.out.2 H4.out.1
        have HADD := Aside0.mk hadd
        have HT := Aside0.mk hT
        have H7 := Aside0.mk h7
        have H3 := Aside0.mk h3
        have HR := Aside0.mk hR
        have b0 : w6.cell? ⟨wr.heap.size, 0, none⟩ = some (.int .i64 x.f0) := (blk_cell HBK106.out 0).trans rfl
        have b2 : w6.cell? ⟨wr.heap.size, 2, none⟩ = some (.bool x.f2) := (blk_cell HBK106.out 2).trans rfl
        have hb74 := built74 x.f0 x.f1 0 A4 x.f4.length c4 x.f2
        have hb94 := built94 x.f0 x.f1 0 A4 x.f4.length c4 x.f2
        have hsz70 : (libC x.f1 0 (.slice A4 x.f4.length c4)).size = 60 := rfl
        obtain ⟨XL, hXL⟩ : ∃ XL, libC x.f1 0 (.slice A4 x.f4.length c4) = XL := ⟨_, rfl⟩
        obtain ⟨XT, hXT⟩ : ∃ XT, instT 0 x.f0 x.f1 0 (.slice A4 x.f4.length c4) (.slice none 0 0) x.f2 = XT := ⟨_, rfl⟩
        obtain ⟨r, hr⟩ : ∃ r : Raw, r = ⟨0, x.f0, x.f1, 0, (A4, x.f4.length, c4), (none, 0, 0), x.f2⟩ := ⟨_, rfl⟩
        have hrc : instR 0 x.f0 x.f1 0 (.slice A4 x.f4.length c4) (.slice none 0 0) x.f2 = r.cells := by rw [hr]; rfl
        rw [hXL] at HBK11 hb74 hb94 hsz70
        rw [hXT] at hb74 HADD
        rw [hrc] at hb94
        have HB74 := Aside0.mk hb74
        have HB94 := Aside0.mk hb94
        have HS70 := Aside0.mk hsz70
        have HRR := Aside0.mk hr
        obtain ⟨XR, hXR⟩ : ∃ XR, r.cells = XR := ⟨_, rfl⟩
        have HXR := Aside0.mk hXR
        rw [hXR] at HB94
        clear hadd hT h7 h3 hR hM6 hb74 hb94 hsz70 hXL hXT hr hrc hXR
        go_upto_region 13 with (first
          | ((with_reducible refine gate_dst (N := 53) rfl ?_); refine wpList_load_row rfl 70 (.tmp 11) rfl g11 rfl 70 XL (0, 0) _ HBK11.out Try.underlying70 rfl (by rw [size70, HS70.out]) ?_)
          | ((with_reducible refine gate_dst (N := 56) rfl ?_); refine wpList_built ?bg 74 #[(1, .tmp 52), (3, .tmp 53), (9, .tmp 55)] ?bo [(1, .int .i64 x.f0), (3, .agg XL), (9, .bool x.f2)] ?bl XT HB74.out ?_; (case bg => rfl); (case bo => rfl); (case bl => simp only [List.map_toArray, List.map_cons, List.map_nil]; rfl))
          | (go_at_call 27; refine HADD.out.mono ?_; rintro e w7 ⟨rfl, S', q1, q2, q3⟩; have HQ1 := Aside0.mk q1; have HQ2 := Aside0.mk q2; have HQ3 := Aside0.mk q3; clear q1 q2 q3))
        have k7 : ∀ k, k < w6.heap.size → ¬ S k → w7.heap[k]? = w6.heap[k]? := fun k hk hn => HQ2.out.2 k hk hn
        have g7 := (k7 _ (heap_lt_of H7.out) (HT.out.not H7.out (by decide))).trans H7.out
        have g3 := (k7 _ (heap_lt_of H3.out) (HT.out.not H3.out (by decide))).trans H3.out
        have g10 := (k7 _ (heap_lt_of HBK106.out) (HT.out.not HBK106.out (by decide))).trans HBK106.out
        have g11' := (k7 _ (heap_lt_of HBK11.out) (HT.out.not HBK11.out (by decide))).trans HBK11.out
        have hR7 := HR.out.kept (HQ2.out.mono (S' := fun k => S k ∨ k = p7 ∨ k = w.heap.size) (fun k hk => .inl hk)) (S1 := fun k => S' k ∨ k = p7 ∨ k = w.heap.size) (fun k hk => hk.elim (fun h => (HQ3.out k h).imp .inl id) (fun h => .inl (.inr h)))
        have hlen := hR7.len
        have hadd2 := addR_calls w7 A c rs r (hR7.cells w7 (Kept.refl _ _)) (by rw [hlen]; exact hLi)
        rw [hlen, HXR.out] at hadd2
        have t0 : w7.cell? ⟨p7, 0, none⟩ = some (.int .i64 12) := (blk_cell g7 0).trans rfl
        have t1 : w7.cell? ⟨p7, 1, none⟩ = some (.int .i64 ((L.length : Int) + 1)) := (blk_cell g7 1).trans rfl
        have t2 : w7.cell? ⟨p7, 2, none⟩ = some (.slice A L.length c) := (blk_cell g7 2).trans rfl
        have d0 : w7.cell? ⟨wr.heap.size, 0, none⟩ = some (.int .i64 x.f0) := (blk_cell g10 0).trans rfl
        have d2 : w7.cell? ⟨wr.heap.size, 2, none⟩ = some (.bool x.f2) := (blk_cell g10 2).trans rfl
        have G7 := Aside0.mk g7
        have G3 := Aside0.mk g3
        have G11 := Aside0.mk g11'
        have HR7 := Aside0.mk hR7
        have HA2 := Aside0.mk hadd2
        have HLEN := Aside0.mk hlen
        clear k7 g7 g3 g10 g11' hR7 hadd2 hlen b0 b2
        go_wp2_with (first
          | ((with_reducible refine gate_dst (N := 62) rfl ?_); refine wpList_load_row rfl 70 (.tmp 11) rfl g11 rfl 70 XL (0, 0) _ G11.out Try.underlying70 rfl (by rw [size70, HS70.out]) ?_)
          | ((with_reducible refine gate_dst (N := 65) rfl ?_); refine wpList_built ?bg 94 #[(1, .tmp 61), (3, .tmp 62), (8, .tmp 64)] ?bo [(1, .int .i64 x.f0), (3, .agg XL), (8, .bool x.f2)] ?bl XR HB94.out ?_; (case bg => rfl); (case bo => rfl); (case bl => simp only [List.map_toArray, List.map_cons, List.map_nil]; rfl))
          | (go_at_call 28; refine HA2.out.mono ?_; rintro e w8 ⟨v8, rfl, hv, hb⟩; obtain ⟨A8, c8, rfl⟩ := Kd.R_slice hv; have HV := Aside0.mk hv; have HB8 := Aside0.mk hb; have g78 := (hb.block _ (heap_lt_of G7.out)).trans G7.out; have t0' : w8.cell? ⟨p7, 0, none⟩ = some (.int .i64 12) := (blk_cell g78 0).trans rfl; have t1' : w8.cell? ⟨p7, 1, none⟩ = some (.int .i64 ((L.length : Int) + 1)) := (blk_cell g78 1).trans rfl; have t2' : w8.cell? ⟨p7, 2, none⟩ = some (.slice A L.length c) := (blk_cell g78 2).trans rfl; have y0 := blk_frozen g78 0; have y1 := blk_frozen g78 1; have y2 := blk_frozen g78 2; have G78 := Aside0.mk g78; clear hv hb g78))
        have hl8 : (rs ++ [({ r with id := (L.length : Int) + 1 } : Raw)]).length = L.length + 1 := by rw [List.length_append, HLEN.out]; rfl
        have hV := HV.out
        rw [hl8] at hV
        obtain ⟨w9, hw9⟩ : ∃ w9, w9 = ((w8.setCell ⟨p7, 0, none⟩ (.int .i64 12)).setCell ⟨p7, 1, none⟩ (.int .i64 ((L.length : Int) + 1 + 1))).setCell ⟨p7, 2, none⟩ (.slice A8 (L.length + 1) c8) := ⟨_, rfl⟩
        have hw9' := hw9
        have hg9 : w9.heap[p7]? = some (.cells #[.int .i64 12, .int .i64 ((L.length : Int) + 1 + 1), .slice A8 (L.length + 1) c8] 27 (0, 0)) := by rw [hw9]; simpa using blk_set (blk_set (blk_set G78.out 0 (.int .i64 12)) 1 (.int .i64 ((L.length : Int) + 1 + 1))) 2 (.slice A8 (L.length + 1) c8)
        have hk9 : ∀ k, k ≠ p7 → w9.heap[k]? = w8.heap[k]? := fun k hk => by rw [hw9, Below.heap_setCell _ ⟨p7, 2, none⟩ _ _ hk, Below.heap_setCell _ ⟨p7, 1, none⟩ _ _ hk, Below.heap_setCell _ ⟨p7, 0, none⟩ _ _ hk]
        have hs9 : w9.heap.size = w8.heap.size := by rw [hw9]; simp only [World.size_setCell]
        have hT7 := HQ1.out
        have hnS : ¬ S' p7 := hT7.not G7.out (by decide)
        have hb89 : Below w7.heap.size w7 w8 := HB8.out
        have hbw8 : Below w.heap.size w w8 := below_then hT7.below hT7.below.size hb89
        have hbw9 : Below w.heap.size w w9 := by rw [hw9]; exact ((hbw8.setCell (p := ⟨p7, 0, none⟩) hle _).setCell (p := ⟨p7, 1, none⟩) hle _).setCell (p := ⟨p7, 2, none⟩) hle _
        have hT9 : TabO w w9 bt (L ++ [insOf x []]) (fun k => if k = L.length then (A4, c4) else s k) S' := by
          have h := hT7.kept hbw9 (fun k hk => (hk9 k (fun e => hnS (e ▸ hk))).trans (hb89.block k (hT7.typed hk).2.1))
          have e : insOf x [] = ⟨x.f0, x.f1, 0, x.f2, x.f4, []⟩ := by unfold insOf; simp [hx3]
          rw [e]
          exact h
        have hR8 : RefF w w8 (fun k => S' k ∨ k = p7 ∨ k = w.heap.size) (L ++ [insOf x []]) A8 (rs ++ [({ r with id := (L.length : Int) + 1 } : Raw)]) := by
          refine ref_added (c2 := c8) HR7.out (fun k hk => hk.elim (fun h => (hT7.typed h).2.1) (fun h => h.elim (fun h => h ▸ heap_lt_of G7.out) (fun h => h ▸ heap_lt_of G3.out))) hb89 (by rw [hl8]; exact hV) ?_
          rw [HRR.out]
          exact ⟨rfl, rfl, rfl, by unfold insOf; simp [hx3], rfl, rfl, H4.out.1, H4.out.2, rfl, rfl⟩
        have hlx : (L ++ [insOf x []]).length = L.length + 1 := by simp
        have hkp9 : Kept w8 w9 (fun k => S' k ∨ k = p7 ∨ k = w.heap.size) := ⟨by omega, fun k _ hk => hk9 k (fun e => hk (.inr (.inl e)))⟩
        have hR9 := hR8.kept hkp9 (S1 := fun k => S' k ∨ k = p7 ∨ k = w.heap.size) (fun k hk => .inl hk)
        have hg39 := (hk9 _ HNE.out).trans ((hb89.block _ (heap_lt_of G3.out)).trans G3.out)
        rw [HLEN.out, ← hw9]
        have hMM : MInv w w9 bt w.heap.size p7 ((l.take (i + 1)).map fun x => insOf x []) := by
          rw [HNX.out]
          exact ⟨_, S', _, A8, c8, hT9, by rw [hlx]; exact hg9, hg39, hR9, hle, HNE.out⟩
        refine ⟨⟨i + 1, by omega, by simp, ⟨hMM⟩⟩, ?_⟩
        simp only [intOf]
        omega
    · obtain rfl : i = l.length := by omega
      have hM := HM.out
      rw [List.take_length, ← netAt_zero] at hM
      have HM2 := Aside0.mk hM
      clear hM HM HM0
      go_upto_block 2 with (fail)
      go_wp2_with fail
      go_loopw [12] (fun v12 wr2 => ∃ i : Nat, i ≤ l.length ∧ v12 = .int .i64 i ∧ Aside0 (MInv w wr2 bt w.heap.size p7 (netAt l i 0))) (fun v12 _ => l.length - (intOf v12).toNat)
      case atStart => exact ⟨0, by omega, rfl, HM2⟩
      case round =>
        obtain ⟨i, hi, rfl, HM⟩ := hrel
        by_cases hlt : (i : Int) < l.length
        · have hin : i < l.length := by omega
          have hbw0 := HM.out.tab
          obtain ⟨ad, A4, c4, A5, c5, hA, e0, e1, e2, e3, e4, e5, l4, g4, l5, g5⟩ := at_T81 HC.out (i : Int) (by omega) hlt
          subst hA
          simp only [Int.toNat_natCast, rd_T81] at e5 l5 g5
          have hgd : l.getD i z81 = l[i] := by simp [hin]
          have hmem := HN.out _ (List.getElem_mem hin)
          rw [← hgd] at hmem
          obtain ⟨x, hx⟩ : ∃ x, l.getD i z81 = x := ⟨_, rfl⟩
          have HX := Aside0.mk hx
          rw [hx] at e5 l5 g5 hmem
          have E5 := Aside0.mk e5
          have G5 := Aside0.mk g5
          have hm12 := hmem.2
          clear e0 e1 e2 e3 e4 e5 l4 g4 l5 g5 hgd hmem hx hbw0
          go_upto_block 4 with (fail)
          go_wp2_with fail
          go_loopw [13] (fun v13 wr3 => ∃ k : Nat, k ≤ x.f5.length ∧ v13 = .int .i64 k ∧ Aside0 (MInv w wr3 bt w.heap.size p7 (netAt l i k))) (fun v13 _ => x.f5.length - (intOf v13).toNat)
          case atStart => exact ⟨0, by omega, rfl, HM⟩
          case round =>
            obtain ⟨k, hk, rfl, HM3⟩ := hrel
            have hbw3 := HM3.out.tab
            have e5 := (hbw3.cell (World.block_lt_of_cell? w _ E5.out)).trans E5.out
            by_cases hlt3 : (k : Int) < x.f5.length
            · have hkn : k < x.f5.length := by omega
              obtain ⟨nd, hnd, hq⟩ := int_at G5.out k hkn
              subst hnd
              replace hq := (hbw3.cell (World.block_lt_of_cell? w _ hq)).trans hq
              by_cases hin3 : 0 ≤ x.f5[k] ∧ x.f5[k] < l.length
              · obtain ⟨o, hoe⟩ : ∃ o : Nat, x.f5[k] = o := ⟨(x.f5[k]).toNat, by omega⟩
                have hol : o < l.length := by omega
                have hnet := netAt_in l i k o hin (by rw [HX.out]; exact hkn) (by simp only [HX.out]; exact hoe) hol
                have hLi : (netAt l i k)[i]? = some (insOf x (needsOf l.length (x.f5.take k))) := by
                  rw [netAt_get l i k i hin, if_neg (Nat.lt_irrefl _), if_pos rfl, HX.out]
                have hnn : (needsOf l.length (x.f5.take k)).length ≤ 1000 := by
                  unfold needsOf
                  rw [List.length_map]
                  have h1 := List.length_filter_le (fun y : Int => decide (0 ≤ y) && decide (y < (l.length : Int))) (x.f5.take k)
                  have h2 := List.length_take_le k x.f5
                  have h3 : (x.f5.take k).length ≤ 12 := by rw [List.length_take]; omega
                  omega
                have hLn := netAt_len l i k
                rw [hoe] at hq
                obtain ⟨L, hL⟩ : ∃ L, netAt l i k = L := ⟨_, rfl⟩
                rw [hL] at HM3 hnet hLi hLn
                obtain ⟨s, S, rs, A, c, hT, h7, h3, hR, h57, hn37⟩ := HM3.out.out
                have hne := needT_calls w wr bt L s S hT (by omega) i o _ hLi (by omega) hnn
                have HNEED := Aside0.mk hne
                have HT := Aside0.mk hT
                have H7 := Aside0.mk h7
                have H3 := Aside0.mk h3
                have HR := Aside0.mk hR
                have HNET := Aside0.mk hnet
                have HLI := Aside0.mk hLi
                have HNN := Aside0.mk hnn
                have HLN := Aside0.mk hLn
                have hol12 : o ≤ 12 := by omega
                clear hoe hne hT h7 h3 hR hnet hLi hnn hLn hL hin3 hbw3 HM3
                go_upto_region 23 with (go_at_call 29; refine HNEED.out.mono ?_; rintro e w7 ⟨rfl, S', q1, q2, q3⟩; have HQ1 := Aside0.mk q1; have HQ2 := Aside0.mk q2; have HQ3 := Aside0.mk q3; clear q1 q2 q3)
                have k7 : ∀ k, k < wr.heap.size → ¬ S k → w7.heap[k]? = wr.heap[k]? := fun k hk hn => HQ2.out.2 k hk hn
                have g7 := (k7 _ (heap_lt_of H7.out) (HT.out.not H7.out (by decide))).trans H7.out
                have g3 := (k7 _ (heap_lt_of H3.out) (HT.out.not H3.out (by decide))).trans H3.out
                have hR7 := HR.out.kept (HQ2.out.mono (S' := fun k => S k ∨ k = p7 ∨ k = w.heap.size) (fun k hk => .inl hk)) (S1 := fun k => S' k ∨ k = p7 ∨ k = w.heap.size) (fun k hk => hk.elim (fun h => (HQ3.out k h).imp .inl id) (fun h => .inl (.inr h)))
                have hlen := hR7.len
                have hLne : L ≠ [] := fun e => by have := HLN.out; rw [e] at this; simp at this; omega
                obtain ⟨ga, hga⟩ := hR7.row hLne
                subst hga
                have hri : rs[i]? = some (rs[i]'(by rw [hlen, HLN.out]; exact hin)) := List.getElem?_eq_getElem _
                obtain ⟨r, hrr⟩ : ∃ r, rs[i]'(by rw [hlen, HLN.out]; exact hin) = r := ⟨_, rfl⟩
                rw [hrr] at hri
                obtain ⟨_, _, _, _, _, _, _, _, n1, n2, n3⟩ := hR7.ins i _ r HLI.out hri
                have hneed2 := needR_calls w7 12 ((L.length : Int) + 1) ga c rs i o r _ hri (hR7.cells w7 (Kept.refl _ _)) (by rw [hlen, HLN.out]; omega) hR7.ids (by rw [hlen, HLN.out]; exact hol) (n3 w7 (Kept.refl _ _)) n1 HNN.out
                rw [hlen] at hneed2
                have t0 : w7.cell? ⟨p7, 0, none⟩ = some (.int .i64 12) := (blk_cell g7 0).trans rfl
                have t1 : w7.cell? ⟨p7, 1, none⟩ = some (.int .i64 ((L.length : Int) + 1)) := (blk_cell g7 1).trans rfl
                have t2 : w7.cell? ⟨p7, 2, none⟩ = some (.slice (some ⟨ga, 0, none⟩) L.length c) := (blk_cell g7 2).trans rfl
                have G7 := Aside0.mk g7
                have G3 := Aside0.mk g3
                have HR7 := Aside0.mk hR7
                have HA2 := Aside0.mk hneed2
                have HLEN := Aside0.mk hlen
                have HRI := Aside0.mk hri
                clear k7 g7 g3 hR7 hneed2 hlen hri hrr n1 n2 n3 hLne
                go_wp2_with (go_at_call 30; refine HA2.out.mono ?_; rintro e w8 ⟨v8, hd, rfl, hv, hh, hb⟩; obtain ⟨A8, c8, rfl⟩ := Kd.R_slice hv; have HV := Aside0.mk hv; have HH := Aside0.mk hh; have HB8 := Aside0.mk hb; have g78 := (hb.block _ (heap_lt_of G7.out)).trans G7.out; have t0' : w8.cell? ⟨p7, 0, none⟩ = some (.int .i64 12) := (blk_cell g78 0).trans rfl; have t1' : w8.cell? ⟨p7, 1, none⟩ = some (.int .i64 ((L.length : Int) + 1)) := (blk_cell g78 1).trans rfl; have t2' : w8.cell? ⟨p7, 2, none⟩ = some (.slice (some ⟨ga, 0, none⟩) L.length c) := (blk_cell g78 2).trans rfl; have y0 := blk_frozen g78 0; have y1 := blk_frozen g78 1; have y2 := blk_frozen g78 2; have G78 := Aside0.mk g78; clear hv hh hb g78)
                have hl8 : (rs.set i ({ r with n := hd } : Raw)).length = L.length := by rw [List.length_set, HLEN.out]
                have hV := HV.out
                rw [hl8] at hV
                obtain ⟨w9, hw9⟩ : ∃ w9, w9 = ((w8.setCell ⟨p7, 0, none⟩ (.int .i64 12)).setCell ⟨p7, 1, none⟩ (.int .i64 ((L.length : Int) + 1))).setCell ⟨p7, 2, none⟩ (.slice A8 L.length c8) := ⟨_, rfl⟩
                have hg9 : w9.heap[p7]? = some (.cells #[.int .i64 12, .int .i64 ((L.length : Int) + 1), .slice A8 L.length c8] 27 (0, 0)) := by rw [hw9]; simpa using blk_set (blk_set (blk_set G78.out 0 (.int .i64 12)) 1 (.int .i64 ((L.length : Int) + 1))) 2 (.slice A8 L.length c8)
                have hk9 : ∀ k, k ≠ p7 → w9.heap[k]? = w8.heap[k]? := fun k hk => by rw [hw9, Below.heap_setCell _ ⟨p7, 2, none⟩ _ _ hk, Below.heap_setCell _ ⟨p7, 1, none⟩ _ _ hk, Below.heap_setCell _ ⟨p7, 0, none⟩ _ _ hk]
                have hs9 : w9.heap.size = w8.heap.size := by rw [hw9]; simp only [World.size_setCell]
                have hT7 := HQ1.out
                have hnS : ¬ S' p7 := hT7.not G7.out (by decide)
                have hb89 : Below w7.heap.size w7 w8 := HB8.out
                have hbw8 : Below w.heap.size w w8 := below_then hT7.below hT7.below.size hb89
                have hbw9 : Below w.heap.size w w9 := by rw [hw9]; exact ((hbw8.setCell (p := ⟨p7, 0, none⟩) hle _).setCell (p := ⟨p7, 1, none⟩) hle _).setCell (p := ⟨p7, 2, none⟩) hle _
                have hT9 : TabO w w9 bt (moreNeed L i o) s S' := hT7.kept hbw9 (fun k hk => (hk9 k (fun e => hnS (e ▸ hk))).trans (hb89.block k (hT7.typed hk).2.1))
                have hR8 : RefF w w8 (fun k => S' k ∨ k = p7 ∨ k = w.heap.size) (moreNeed L i o) A8 (rs.set i ({ r with n := hd } : Raw)) :=
                  ref_needed (c2 := c8) HR7.out HLI.out HRI.out (fun k hk => hk.elim (fun h => (hT7.typed h).2.1) (fun h => h.elim (fun h => h ▸ heap_lt_of G7.out) (fun h => h ▸ heap_lt_of G3.out))) hb89 (by rw [hl8]; exact hV) HH.out
                have hlx : (moreNeed L i o).length = L.length := moreNeed_len L i o
                have hkp9 : Kept w8 w9 (fun k => S' k ∨ k = p7 ∨ k = w.heap.size) := ⟨by omega, fun k _ hk => hk9 k (fun e => hk (.inr (.inl e)))⟩
                have hR9 := hR8.kept hkp9 (S1 := fun k => S' k ∨ k = p7 ∨ k = w.heap.size) (fun k hk => .inl hk)
                have hg39 := (hk9 _ HNE.out).trans ((hb89.block _ (heap_lt_of G3.out)).trans G3.out)
                try rw [HLEN.out]
                rw [← hw9]
                have hMM : MInv w w9 bt w.heap.size p7 (netAt l i (k + 1)) := by
                  rw [HNET.out]
                  exact ⟨_, S', _, A8, c8, hT9, by rw [hlx]; exact hg9, hg39, hR9, hle, HNE.out⟩
                refine ⟨⟨k + 1, by omega, by simp, ⟨hMM⟩⟩, ?_⟩
                simp only [intOf]
                omega
              · have hnet := netAt_out l i k hin (by rw [HX.out]; exact hkn) (by simp only [HX.out]; exact hin3)
                have HM4 : Aside0 (MInv w wr bt w.heap.size p7 (netAt l i (k + 1))) := ⟨by rw [hnet]; exact HM3.out⟩
                obtain ⟨y, hy⟩ : ∃ y, x.f5[k] = y := ⟨_, rfl⟩
                rw [hy] at hq hin3
                clear hnet hy HM3 hbw3
                by_cases hy0 : y < 0
                · clear hin3
                  go_wp2
                  refine ⟨⟨k + 1, by omega, by simp, HM4⟩, ?_⟩
                  simp only [intOf]
                  omega
                · have hy1 : (l.length : Int) ≤ y := by omega
                  clear hin3
                  go_wp2
                  refine ⟨⟨k + 1, by omega, by simp, HM4⟩, ?_⟩
                  simp only [intOf]
                  omega
            · obtain rfl : k = x.f5.length := by omega
              have hM := HM3.out
              rw [show x.f5.length = (l.getD i z81).f5.length by rw [HX.out], netAt_next l i hin] at hM
              have HM4 := Aside0.mk hM
              clear hM HM3 hbw3
              go_wp2
              refine ⟨⟨i + 1, by omega, by simp, HM4⟩, ?_⟩
              simp only [intOf]
              omega
        · obtain rfl : i = l.length := by omega
          have hM := HM.out
          rw [netAt_done] at hM
          obtain ⟨s, S, rs, A, c, hT, h7, h3, hR, h57, hn37⟩ := hM.out
          have hLn : (netOf l).length = l.length := by simp [netOf]
          rw [hLn] at h7
          have t0 : wr.cell? ⟨p7, 0, none⟩ = some (.int .i64 12) := (blk_cell h7 0).trans rfl
          have t1 : wr.cell? ⟨p7, 1, none⟩ = some (.int .i64 ((l.length : Int) + 1)) := (blk_cell h7 1).trans rfl
          have t2 : wr.cell? ⟨p7, 2, none⟩ = some (.slice A l.length c) := (blk_cell h7 2).trans rfl
          have z0 : wr.cell? ⟨w.heap.size, 0, none⟩ = some (.int .i64 0) := (blk_cell h3 0).trans rfl
          have z1 : wr.cell? ⟨w.heap.size, 1, none⟩ = some (.int .i64 0) := (blk_cell h3 1).trans rfl
          have z2 : wr.cell? ⟨w.heap.size, 2, none⟩ = some (.slice none 0 0) := (blk_cell h3 2).trans rfl
          have y0 := blk_frozen h3 0
          have y1 := blk_frozen h3 1
          have y2 := blk_frozen h3 2
          have HT := Aside0.mk hT
          have H3 := Aside0.mk h3
          have HR := Aside0.mk hR
          clear hM HM hT h7 h3 hR hLn
          go_upto_region 24 with (fail)
          refine start_ (n := 5) (S := fun w' => w'.cell? ⟨p7, 0, none⟩ = some (.int .i64 12) ∧ w'.cell? ⟨p7, 1, none⟩ = some (.int .i64 ((l.length : Int) + 1)) ∧ w'.cell? ⟨p7, 2, none⟩ = some (.slice A l.length c)) (ds := []) #[false, false, false, false, false] (by kernel_rfl) rfl rfl ⟨t0, t1, t2⟩ (fun hHeld => ?_); refine with_tabW made_tab24 made_bits24 (fun HT_ HW_ => ?_)
          refine pure_ (i := 0) (N := some 117) (v := ?_) (a' := ?_) #[true, false, false, false, false] rfl rfl (any_of HT_.out (by kernel_rfl)) (fun _ _ _ h => h) (Or.inl ⟨by rfl, ?_⟩) ?_ ?_
          rotate_left
          · intro w'
            go_simp
            with_reducible rfl
          rotate_left
          · simp only [Act.put, List.setIfInBounds_toArray, List.set_cons_zero, List.set_cons_succ, i64_w, i32_w]
            rfl
          refine take_ (i := 1) (N := some 118) (v := ?_) (a' := ?_) #[true, true, false, false, false] rfl rfl (take_ofW HT_.out HW_.out (by kernel_rfl)) (fun _ _ _ h => h) (Or.inl ⟨by rfl, ?_⟩) hHeld ?_ ?_
          rotate_left
          · rintro w' ⟨s0, s1, s2⟩
            go_simp
            with_reducible rfl
          rotate_left
          · simp only [Act.put, List.setIfInBounds_toArray, List.set_cons_zero, List.set_cons_succ, i64_w, i32_w]
            rfl
          refine pure_ (i := 2) (N := some 2) (v := ?_) (a' := ?_) #[true, true, true, false, false] rfl rfl (any_of HT_.out (by kernel_rfl)) (fun _ _ _ h => h) (Or.inl ⟨by rfl, ?_⟩) ?_ ?_
          rotate_left
          · intro w'
            go_simp
            with_reducible rfl
          rotate_left
          · simp only [Act.put, List.setIfInBounds_toArray, List.set_cons_zero, List.set_cons_succ, i64_w, i32_w]
            rfl
          have d0 : wr.drew.cell? ⟨w.heap.size, 0, none⟩ = some (.int .i64 0) := z0
          have d1 : wr.drew.cell? ⟨w.heap.size, 1, none⟩ = some (.int .i64 0) := z1
          have d2 : wr.drew.cell? ⟨w.heap.size, 2, none⟩ = some (.slice none 0 0) := z2
          have hnn := HNE.out
          refine one_ (i := 3) (N := none) #[true, true, true, true, false] rfl rfl (one_of HT_.out (by kernel_rfl)) (by decide) (fun K hK => ?_)
          refine skip_ (w1 := ?_) (by rfl) rfl ?_ ?_
          rotate_left
          · go_simp
            rfl
          refine hK.out _ _ ⟨cell_far3 hHeld.1 (Ne.symm hnn), cell_far3 hHeld.2.1 (Ne.symm hnn), cell_far3 hHeld.2.2 (Ne.symm hnn)⟩ (fun hHeld2 => ?_)
          clear hK K hHeld2
          refine pure_ (i := 4) (N := some 4) (v := ?_) (a' := ?_) #[true, true, true, true, true] rfl rfl (any_of HT_.out (by kernel_rfl)) (fun _ _ _ h => h) (Or.inl ⟨by rfl, ?_⟩) ?_ ?_
          rotate_left
          · intro w'
            go_simp
            with_reducible rfl
          rotate_left
          · simp only [Act.put, List.setIfInBounds_toArray, List.set_cons_zero, List.set_cons_succ, i64_w, i32_w]
            rfl
          refine done_ (done_of HT_.out (by kernel_rfl)) ?_
          go_wp2
          have hs := blk_set (blk_set (blk_set H3.out 0 (.int .i64 12)) 1 (.int .i64 ((l.length : Int) + 1))) 2 (.slice A l.length c)
          obtain ⟨w9, hw9⟩ : ∃ w9, w9 = ((wr.setCell ⟨w.heap.size, 0, none⟩ (.int .i64 12)).setCell ⟨w.heap.size, 1, none⟩ (.int .i64 ((l.length : Int) + 1))).setCell ⟨w.heap.size, 2, none⟩ (.slice A l.length c) := ⟨_, rfl⟩
          have hk9 : ∀ k, k ≠ w.heap.size → w9.heap[k]? = wr.heap[k]? := fun k hk => by rw [hw9, Below.heap_setCell _ ⟨w.heap.size, 2, none⟩ _ _ hk, Below.heap_setCell _ ⟨w.heap.size, 1, none⟩ _ _ hk, Below.heap_setCell _ ⟨w.heap.size, 0, none⟩ _ _ hk]
          have hs9 : w9.heap.size = wr.heap.size := by rw [hw9]; simp only [World.size_setCell]
          have hbw9 : Below w.heap.size w w9 := by rw [hw9]; exact ((HT.out.below.setCell (p := ⟨w.heap.size, 0, none⟩) (Nat.le_refl _) _).setCell (p := ⟨w.heap.size, 1, none⟩) (Nat.le_refl _) _).setCell (p := ⟨w.heap.size, 2, none⟩) (Nat.le_refl _) _
          have hn3 : ¬ S w.heap.size := HT.out.not H3.out (by decide)
          have hT9 := HT.out.kept hbw9 (fun k hk => hk9 k (fun e => hn3 (e ▸ hk)))
          have hR9 := HR.out.kept (W1 := w9) (S1 := fun k => S k ∨ k = p7 ∨ k = w.heap.size) ⟨by omega, fun k _ hk => hk9 k (fun e => hk (.inr (.inr e)))⟩ (fun k hk => .inl hk)
          refine bodyPost_ret (made_results _ _ w.heap.size (.int .i64 12) (.int .i64 ((l.length : Int) + 1)) (.slice A l.length c) (.pointer (some ⟨bt, 0, none⟩)) (.bool true) rfl rfl rfl (by simpa [heap_drew] using hs)) rfl ⟨bt, A, c, rs, fun k => S k ∨ k = p7 ∨ k = w.heap.size, rfl, ?_, ?_, ?_⟩
          · rw [← hw9]
            exact hT9.read.below (below_drew1 (Below.refl _ _))
          · rw [← hw9]
            exact hR9.kept (W1 := w9.drew) (Kept.refl _ _) (fun k hk => .inl hk)
          · rw [← hw9]
            exact below_drew1 hbw9
end Go.Proofs.Ytmcihkfbgcfccaa.H
