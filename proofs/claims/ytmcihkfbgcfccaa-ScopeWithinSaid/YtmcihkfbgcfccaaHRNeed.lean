/- messuageref22.Need. -/
import Derived.Test.YtmcihkfbgcfccaaHPut
namespace Go.Proofs.Ytmcihkfbgcfccaa.H
open Go.RowKit Go.Proofs.Ytmcihkfbgcfccaa.Z Go.Proofs.YtmcihkfbgcfccaaW.PrintWords Go.Proofs.YtmcihkfbgcfccaaW.PrintLast Go.Proofs.YtmcihkfbgcfccaaW.PrintMore
set_option linter.unusedVariables false
set_option linter.unusedSimpArgs false
theorem blk_setRow {w : World} {g : Nat} {t : TypeId} {old cs : Array Value} (h : w.heap[g]? = some (.cells old t (0, 0))) : (w.setRow g cs).heap[g]? = some (.cells cs t (0, 0)) := by
  simp [World.setRow, Array.getElem?_modify, h]
theorem heap_setRow {w : World} {g k : Nat} {cs : Array Value} (h : k ≠ g) : (w.setRow g cs).heap[k]? = w.heap[k]? := by
  simp [World.setRow, Array.getElem?_modify, Ne.symm h]
theorem size_setRow {w : World} {g : Nat} {cs : Array Value} : (w.setRow g cs).heap.size = w.heap.size := by simp [World.setRow]
theorem below_setRow {B : Nat} {a w : World} {g : Nat} {cs : Array Value} (h : Below B a w) (hg : B ≤ g) : Below B a (w.setRow g cs) :=
  ⟨h.os, h.tape, h.output, by rw [size_setRow]; exact h.size, fun k hk => (heap_setRow (by omega)).trans (h.block k hk)⟩
theorem rneed_results (tmps : Array Value) (W : World) (g : Nat) (c0 c1 c2 : Value) (r : Value) (hp : tmps[6]? = some (.pointer (some ⟨g, 0, none⟩))) (hr : tmps[7]? = some r) (hg : W.heap[g]? = some (.cells #[c0, c1, c2] 27 (0, 0))) :
    (results Try.f30 tmps).run Try.prog W = .ok (.tuple #[.agg #[c0, c1, c2], r]) W := by
  have h : Try.f30.results = #[.cell 6 27, .tmp 7] := rfl
  have hl := run_loadVar_row (P := Try.prog) W g 27 27 #[c0, c1, c2] (0, 0) _ hg Try.underlying27 rfl (by kernel_rfl)
  simp [results, h, hp, hr, asAddr, hl]
theorem Raw.set_n (r : Raw) (h : Option Addr × Nat × Nat) : r.cells.setIfInBounds 66 (sl h) = ({ r with n := h } : Raw).cells := rfl
def Z94 : Array Value := instR 0 0 false 0 (.slice none 0 0) (.slice none 0 0) false
set_option maxRecDepth 100000 in
set_option maxHeartbeats 2000000 in
theorem needR_calls (w : World) (m n : Int) (g c : Nat) (rs : List Raw) (i o : Nat) (r : Raw) (needs : List Int) (hr : rs[i]? = some r) (hC : kI.C w (some ⟨g, 0, none⟩) rs.length rs) (hl : rs.length ≤ 1000) (hids : ∀ k (h : k < rs.length), rs[k].id = k + 1) (ho : o < rs.length)
    (hn : (Kd.int .i64).C w r.n.1 needs.length needs) (hn1 : r.n.2.1 = needs.length) (hnl : needs.length ≤ 1000) :
    Calls Try.prog 30 #[.agg #[.int .i64 m, .int .i64 n, .slice (some ⟨g, 0, none⟩) rs.length c], .int .i64 ((i : Int) + 1), .int .i64 ((o : Int) + 1)] w fun e w' => ∃ v h, e = .returned (.tuple #[.agg #[.int .i64 m, .int .i64 n, v], .bool true]) ∧ kI.R 94 w' w.heap.size (fun _ => True) v (rs.set i { r with n := h }) ∧
      (Kd.int .i64).R 3 w' w.heap.size (fun _ => True) (sl h) (needs ++ [(o : Int) + 1]) ∧ Below w.heap.size w w' := by
  obtain ⟨hi, hri⟩ := List.getElem?_eq_some_iff.1 hr
  obtain ⟨w1, hw1⟩ : ∃ w1, w1 = (w.alloc (.cells #[.int .i64 m, .int .i64 n, .slice (some ⟨g, 0, none⟩) rs.length c] 27)).alloc (.cells #[.int .i64 0, .int .i64 0, .slice none 0 0] 27) := ⟨_, rfl⟩
  have hs1 : w1.heap.size = w.heap.size + 2 := by rw [hw1]; simp only [World.size_alloc]
  have hb2 : w1.heap[w.heap.size]? = some (.cells #[.int .i64 m, .int .i64 n, .slice (some ⟨g, 0, none⟩) rs.length c] 27 (0, 0)) := by
    rw [hw1, Below.heap_alloc _ _ _ (by simp only [World.size_alloc]; omega)]
    exact heap_alloc_new w _
  have hb4 : w1.heap[w.heap.size + 1]? = some (.cells #[.int .i64 0, .int .i64 0, .slice none 0 0] 27 (0, 0)) := by
    rw [hw1]
    have := heap_alloc_new (w.alloc (.cells #[.int .i64 m, .int .i64 n, .slice (some ⟨g, 0, none⟩) rs.length c] 27)) (.cells #[.int .i64 0, .int .i64 0, .slice none 0 0] 27)
    rwa [World.size_alloc] at this
  have hB : Below w.heap.size w w1 := by rw [hw1]; exact ((Below.refl _ w).alloc (Nat.le_refl _) _).alloc (by simp) _
  have HC := Aside0.mk (Kd.C_below hC hB)
  have HNC := Aside0.mk (Kd.C_below hn hB)
  have H2 := Aside0.mk hb2
  have H4 := Aside0.mk hb4
  have HB := Aside0.mk hB
  have HW := Aside0.mk hw1
  have HI := Aside0.mk hids
  have hrange : w1.rangeAt g (i * 74) r.cells.toList := fun j v hj => by
    obtain ⟨ad, e, hcl⟩ := at_I HC.out i hi hi
    injection e with e
    subst e
    rw [hri] at hcl
    have := hcl j v (by rw [← Array.getElem?_toList]; exact hj)
    rwa [Addr.add_mid, Nat.zero_add] at this
  have HRG := Aside0.mk hrange
  have hrid : r.id = (i : Int) + 1 := by rw [← hri]; exact hids i hi
  have HRID := Aside0.mk hrid
  have hnv : r.cells[66]? = some (.slice r.n.1 needs.length r.n.2.2) := by rw [← hn1]; rfl
  have HNV := Aside0.mk hnv
  obtain ⟨nA, hnA⟩ : ∃ nA, r.n.1 = nA := ⟨_, rfl⟩
  obtain ⟨nc, hnc⟩ : ∃ nc, r.n.2.2 = nc := ⟨_, rfl⟩
  rw [hnA] at HNC
  have hone := Raw.one r
  have hsize := Raw.size r
  obtain ⟨X, hX⟩ : ∃ X, r.cells = X := ⟨_, rfl⟩
  rw [hX] at hone hsize HRG
  have HX := Aside0.mk hX
  have HONE := Aside0.mk (all_oneCell_toArray hone)
  have HSZ := Aside0.mk hsize
  have hnv' : X[66]? = some (.slice nA needs.length nc) := by rw [← hX, ← hnA, ← hnc]; exact hnv
  have HNV' := Aside0.mk hnv'
  have hsz1 : w.heap.size + 1 < w1.heap.size := by omega
  have y0 : w1.cell? ⟨w.heap.size, 0, none⟩ = some (.int .i64 m) := (blk_cell hb2 0).trans rfl
  have y1 : w1.cell? ⟨w.heap.size, 1, none⟩ = some (.int .i64 n) := (blk_cell hb2 1).trans rfl
  have y2 : w1.cell? ⟨w.heap.size, 2, none⟩ = some (.slice (some ⟨g, 0, none⟩) rs.length c) := (blk_cell hb2 2).trans rfl
  have hfi := find_calls w1 m n (some ⟨g, 0, none⟩) c rs ((i : Int) + 1) HC.out hl HI.out
  rw [findIx, if_pos (by omega), show (i : Int) + 1 - 1 = i by omega] at hfi
  have HFI := Aside0.mk hfi
  have hfo : ∀ w2, Below w1.heap.size w1 w2 → Calls Try.prog 32 #[.agg #[.int .i64 m, .int .i64 n, .slice (some ⟨g, 0, none⟩) rs.length c], .int .i64 ((o : Int) + 1)] w2 fun e w' => e = .returned (.int .i64 o) ∧ Below w2.heap.size w2 w' := fun w2 hb => by
    have h := find_calls w2 m n (some ⟨g, 0, none⟩) c rs ((o : Int) + 1) (Kd.C_below HC.out hb) hl HI.out
    rwa [findIx, if_pos (by omega), show (o : Int) + 1 - 1 = o by omega] at h
  have HFO := Aside0.mk hfo
  clear hC hn hids hw1 hb2 hb4 hB hs1 hrange hrid hnv hfi hfo hr hnv' hone hsize hX hnA hnc HNV
  go_enter Try.func30, Try.ntmps30
  go_upto_region 1 with (fail)
  rw [← HW.out]
  go_upto_region 2 with (go_at_call 32; refine HFI.out.mono ?_; rintro e w2 ⟨rfl, hb⟩; have HB2 := Aside0.mk hb; clear hb)
  have z0 : w2.cell? ⟨w.heap.size, 0, none⟩ = some (.int .i64 m) := (HB2.out.cell (World.block_lt_of_cell? w1 _ y0)).trans y0
  have z1 : w2.cell? ⟨w.heap.size, 1, none⟩ = some (.int .i64 n) := (HB2.out.cell (World.block_lt_of_cell? w1 _ y1)).trans y1
  have z2 : w2.cell? ⟨w.heap.size, 2, none⟩ = some (.slice (some ⟨g, 0, none⟩) rs.length c) := (HB2.out.cell (World.block_lt_of_cell? w1 _ y2)).trans y2
  go_upto_region 4 with (go_at_call 32; refine (HFO.out _ HB2.out).mono ?_; rintro e w3 ⟨rfl, hb⟩; have HB3 := Aside0.mk (HB2.out.trans (hb.mono HB2.out.size)); clear hb)
  have x0 : w3.cell? ⟨w.heap.size, 0, none⟩ = some (.int .i64 m) := (HB3.out.cell (World.block_lt_of_cell? w1 _ y0)).trans y0
  have x1 : w3.cell? ⟨w.heap.size, 1, none⟩ = some (.int .i64 n) := (HB3.out.cell (World.block_lt_of_cell? w1 _ y1)).trans y1
  have x2 : w3.cell? ⟨w.heap.size, 2, none⟩ = some (.slice (some ⟨g, 0, none⟩) rs.length c) := (HB3.out.cell (World.block_lt_of_cell? w1 _ y2)).trans y2
  clear y0 y1 y2 z0 z1 z2
  have hsz3 := HB3.out.size
  have HRG3 := Aside0.mk (fun j v (hj : X.toList[j]? = some v) => (HB3.out.cell (World.block_lt_of_cell? w1 _ (HRG.out j v hj))).trans (HRG.out j v hj))
  go_upto_region 5 with (first
    | ((with_reducible refine gate_dst (N := 26) rfl ?_); refine wpList_load_mid rfl 94 (.tmp 25) rfl g (i * 74) rfl X.toList _ HRG3.out Try.underlying94 rfl (by rw [size94, Array.length_toList, HSZ.out]) ?_; rw [Array.toArray_toList])
    | ((with_reducible refine gate_dst (N := 9) rfl ?_); refine box_event ?hg (N := 9) ?hd (cs := Z94) (t := 94) ?hr ?_; (case hd => rfl); (case hg => rfl); (case hr => first | (go_simp; done) | (go_simp; rfl)); intro g9 hg9 w4 hbox hb; have HBX := Aside0.mk hbox; have HB4 := Aside0.mk hb; have HG9 := Aside0.mk hg9; clear hbox hb hg9)
    | (refine wpList_store_row rfl 94 (.tmp 9) (.tmp 26) rfl g9 X ?s1 ?s2 94 Z94 HBX.out ?s3 ?s4 (by have := HONE.out; rwa [Array.toArray_toList] at this) ?_; (case s1 => rfl); (case s2 => rfl); (case s3 => rw [size94, HSZ.out]); (case s4 => (show 74 = _); rw [HSZ.out])))
  (try simp only [Act.put, List.setIfInBounds_toArray, List.set_cons_zero, List.set_cons_succ])
  obtain ⟨w5, hw5⟩ : ∃ w5, w5 = w4.setRow g9 X := ⟨_, rfl⟩
  rw [← hw5]
  have hg9 : w3.heap.size ≤ g9 := by rw [HG9.out]; exact Nat.le_refl _
  have hbk9 : w5.heap[g9]? = some (.cells X 94 (0, 0)) := by rw [hw5]; exact blk_setRow HBX.out
  have hb15 : Below w1.heap.size w1 w5 := by rw [hw5]; exact below_setRow (HB3.out.trans (HB4.out.mono hsz3)) (by omega)
  have u66 : w5.cell? ⟨g9, 66, none⟩ = some (.slice nA needs.length nc) := (blk_cell hbk9 66).trans HNV'.out
  have HBK9 := Aside0.mk hbk9
  have HB5 := Aside0.mk hb15
  have hsz5 := hb15.size
  have hlt9 := heap_lt_of hbk9
  clear hw5 hbk9 hb15 HBX HB4 HG9 x0 x1 x2 HRG HRG3 HB3 HB2
  go_upto_region 6 with (first
    | ((with_reducible refine gate_dst (N := 27) rfl ?_); refine Kd.R_lit (Kd.int .i64) (w0 := w5) w5.heap.size 3 ?hg (N := 27) ?hd (xs := ([] : List Int)) (inner := []) (ok := fun _ => True) (okp := fun _ => False) ?hr (Reps.none _ _) (fun _ hk => hk.elim) trivial (Below.refl _ _) (Nat.le_refl _) (by simp) ?_; (case hd => rfl); (case hg => rfl); (case hr => first | (go_simp; done) | (go_simp; rfl)); intro v6 w6 ho hb hg hnew; have HO6 := Aside0.mk ho; have HB6 := Aside0.mk hb; have u6 : w6.cell? ⟨g9, 66, none⟩ = some (.slice nA needs.length nc) := (hb.cell (p := ⟨g9, 66, none⟩) hlt9).trans u66; clear ho hb hg hnew)
    | ((with_reducible refine gate_builtin (b := .append) (xs := #[.tmp 27, .tmp 29]) rfl ?_); at_builtin; refine Kd.R_append_row (Value.int .i64) (0 : Int) (w0 := w5) w5.heap.size rfl (.tmp 27) (.tmp 29) 31 3 (.int .i64 0) 8 rfl Try.underlying31 info3 rfl (by decide) v6 [] needs nA needs.length nc (fun _ => True) rfl rfl (fun _ _ => trivial) HO6.out (Kd.C_below (Kd.C_below HNC.out HB5.out) HB6.out) HB6.out HB6.out.size (by simp only [List.length_nil]; omega) ?_; intro v7 w7 ho hb hg hat; rw [List.nil_append] at ho; have HO7 := Aside0.mk ho; have HB7 := Aside0.mk hb; clear ho hb hg hat)
    | ((with_reducible refine gate_builtin (b := .append) (xs := #[.tmp 30, .tmp 32]) rfl ?_); at_builtin; refine Kd.R_append (Kd.int .i64) (w0 := w5) w5.heap.size rfl (.tmp 30) (.tmp 32) 31 3 (.int .i64 0) 8 rfl Try.underlying31 info3 rfl (by decide) (by omega) v7 needs ((o : Int) + 1) [.int .i64 ((o : Int) + 1)] (fun _ => True) (fun _ => False) rfl rfl ?aP (fun _ hk => hk.elim) ?aF ?aO ?aB ?aS ?aL ?_; (case aP => exact rfl); (case aB => exact HB7.out); (case aF => exact (fun _ _ => trivial)); (case aO => exact HO7.out); (case aS => exact HB7.out.size); (case aL => omega); intro v8 w8 ho hb hg hat; obtain ⟨A8, c8, rfl⟩ := Kd.R_slice ho; have HO8 := Aside0.mk ho; have HB8 := Aside0.mk hb; have hbk8 := (hb.block _ hlt9).trans HBK9.out; have u8 : w8.cell? ⟨g9, 66, none⟩ = some (.slice nA needs.length nc) := (blk_cell hbk8 66).trans HNV'.out; have f8 := blk_frozen hbk8 66; have HBK8 := Aside0.mk hbk8; clear ho hb hg hat hbk8))
  obtain ⟨w9, hw9⟩ : ∃ w9, w9 = w8.setCell ⟨g9, 66, none⟩ (.slice A8 (needs.length + 1) c8) := ⟨_, rfl⟩
  rw [← hw9]
  have hl8 : (needs ++ [(o : Int) + 1]).length = needs.length + 1 := by simp
  have hO8 := HO8.out
  rw [hl8] at hO8
  have hbk9 : w9.heap[g9]? = some (.cells ({ r with n := (A8, needs.length + 1, c8) } : Raw).cells 94 (0, 0)) := by
    rw [hw9, ← Raw.set_n, HX.out]
    exact blk_set HBK8.out 66 _
  have hO9 : (Kd.int .i64).R 3 w9 w5.heap.size (fun _ => True) (sl (A8, needs.length + 1, c8)) (needs ++ [(o : Int) + 1]) := by
    rw [hw9]
    exact Kd.R_set hO8 HBK8.out (by decide) 66 _
  have hb19 : Below w1.heap.size w1 w9 := by
    rw [hw9]
    exact (HB5.out.trans (HB8.out.mono hsz5)).setCell (p := ⟨g9, 66, none⟩) (by show w1.heap.size ≤ g9; omega) _
  have hszr := Raw.size ({ r with n := (A8, needs.length + 1, c8) } : Raw)
  have hput := put_calls w9 m n (some ⟨g, 0, none⟩) c rs i { r with n := (A8, needs.length + 1, c8) } (Kd.C_below HC.out hb19) hl HI.out hi HRID.out
  obtain ⟨Y, hY⟩ : ∃ Y, ({ r with n := (A8, needs.length + 1, c8) } : Raw).cells = Y := ⟨_, rfl⟩
  rw [hY] at hbk9 hput hszr
  have h29 := (hb19.block _ (by omega)).trans H2.out
  have h49 := (hb19.block _ (by omega)).trans H4.out
  have x0 : w9.cell? ⟨w.heap.size, 0, none⟩ = some (.int .i64 m) := (blk_cell h29 0).trans rfl
  have x1 : w9.cell? ⟨w.heap.size, 1, none⟩ = some (.int .i64 n) := (blk_cell h29 1).trans rfl
  have x2 : w9.cell? ⟨w.heap.size, 2, none⟩ = some (.slice (some ⟨g, 0, none⟩) rs.length c) := (blk_cell h29 2).trans rfl
  have HBK := Aside0.mk hbk9
  have HON := Aside0.mk hO9
  have HB9 := Aside0.mk hb19
  have HPUT := Aside0.mk hput
  have HSY := Aside0.mk hszr
  have H49 := Aside0.mk h49
  clear hw9 hl8 hO8 hbk9 hO9 hb19 hput hY h29 h49 u66 u6 u8 f8 hszr HBK8 HBK9 HB8 HO8 HB7 HO7 HB6 HO6
  go_wp2_with (first
    | ((with_reducible refine gate_dst (N := 36) rfl ?_); refine wpList_load_row rfl 94 (.tmp 9) rfl g9 rfl 94 Y (0, 0) _ HBK.out Try.underlying94 rfl (by rw [size94, HSY.out]) ?_)
    | (go_at_call 39; refine HPUT.out.mono ?_; rintro e w10 ⟨v10, rfl, hv, hb⟩; obtain ⟨A10, c10, rfl⟩ := Kd.R_slice hv; have HV := Aside0.mk hv; have HB10 := Aside0.mk hb; have h410 := (hb.block _ (heap_lt_of H49.out)).trans H49.out; have q0 : w10.cell? ⟨w.heap.size + 1, 0, none⟩ = some (.int .i64 0) := (blk_cell h410 0).trans rfl; have q1 : w10.cell? ⟨w.heap.size + 1, 1, none⟩ = some (.int .i64 0) := (blk_cell h410 1).trans rfl; have q2 : w10.cell? ⟨w.heap.size + 1, 2, none⟩ = some (.slice none 0 0) := (blk_cell h410 2).trans rfl; have k0 := blk_frozen h410 0; have k1 := blk_frozen h410 1; have k2 := blk_frozen h410 2; have H410 := Aside0.mk h410; clear hv hb h410))
  have hls : (rs.set i ({ r with n := (A8, needs.length + 1, c8) } : Raw)).length = rs.length := by simp
  have hV := HV.out
  rw [hls] at hV
  have hs := blk_set (blk_set (blk_set H410.out 0 (.int .i64 m)) 1 (.int .i64 n)) 2 (.slice A10 rs.length c10)
  have hle1 : w.heap.size ≤ w5.heap.size := by omega
  have hb9z := HB9.out.size
  refine bodyPost_ret (rneed_results _ _ (w.heap.size + 1) (.int .i64 m) (.int .i64 n) (.slice A10 rs.length c10) _ rfl rfl (by simpa using hs)) rfl ⟨_, (A8, needs.length + 1, c8), rfl, ?_, ?_, ?_⟩
  · exact Kd.R_lower (Kd.R_set (Kd.R_set (Kd.R_set hV H410.out (by decide) 0 _) (blk_set H410.out 0 _) (by decide) 1 _) (blk_set (blk_set H410.out 0 _) 1 _) (by decide) 2 _) (by omega)
  · exact Kd.R_lower (Kd.R_set (Kd.R_set (Kd.R_set (Kd.R_below HON.out HB10.out) H410.out (by decide) 0 _) (blk_set H410.out 0 _) (by decide) 1 _) (blk_set (blk_set H410.out 0 _) 1 _) (by decide) 2 _) hle1
  · have hB10 : Below w.heap.size w w10 := HB.out.trans ((HB9.out.mono (by omega)).trans (HB10.out.mono (by omega)))
    exact ((hB10.setCell (p := ⟨w.heap.size + 1, 0, none⟩) (by show w.heap.size ≤ w.heap.size + 1; omega) _).setCell (p := ⟨w.heap.size + 1, 1, none⟩) (by show w.heap.size ≤ w.heap.size + 1; omega) _).setCell (p := ⟨w.heap.size + 1, 2, none⟩) (by show w.heap.size ≤ w.heap.size + 1; omega) _
end Go.Proofs.Ytmcihkfbgcfccaa.H
