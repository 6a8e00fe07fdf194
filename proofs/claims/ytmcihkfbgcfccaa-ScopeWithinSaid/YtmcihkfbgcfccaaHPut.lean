/- messuageref22.Put. -/
import Derived.Test.YtmcihkfbgcfccaaHRaw
import Derived.Deep.MidRow
namespace Go.Proofs.Ytmcihkfbgcfccaa.H
open Go.RowKit Go.Proofs.Ytmcihkfbgcfccaa.Z Go.Proofs.YtmcihkfbgcfccaaW.PrintWords Go.Proofs.YtmcihkfbgcfccaaW.PrintLast Go.Proofs.YtmcihkfbgcfccaaW.PrintMore
set_option linter.unusedVariables false
set_option linter.unusedSimpArgs false
theorem size94 : (Try.prog.info? 94).map (·.size) = some 74 := by kernel_rfl
theorem put_store {ops : Array Oper} {rest : List Oper} {o : Oper} {a : Act} {W : World} {Q : Exit → Act → World → Prop} (base g cap i : Nat) (rs : List Raw) (r : Raw) (X : Array Value) (p x : Operand) (hN : o.dst = none) (hgd : o.guard = none) (ho : o.op = .store 94 p x) (hX : r.cells = X)
    (hp : a.eval p = .pointer (some ⟨g, i * 74, none⟩)) (hx : a.eval x = .agg X) (hi : i < rs.length) (HO : kI.R 94 W base (fun _ => True) (.slice (some ⟨g, 0, none⟩) rs.length cap) rs)
    (h : ∀ w1, kI.R 94 w1 base (fun _ => True) (.slice (some ⟨g, 0, none⟩) rs.length cap) (rs.set i r) → Below base W w1 → W.grownBy w1 (some g) → wpList Try.prog ops Q rest a w1) : wpList Try.prog ops Q (o :: rest) a W := by
  subst hX
  have hlen := Raw.len r
  obtain ⟨cc, hcl, hcc⟩ : ∃ c : List Value, c.length = 74 ∧ ∀ j u, c[j]? = some u → W.cell? ⟨g, i * 74 + j, none⟩ = some u := by
    obtain ⟨ad, e, hcl⟩ := at_I (Kd.R_reads' HO).2.2 i hi hi
    injection e with e
    subst e
    refine ⟨rs[i].cells.toList, rfl, fun j u hj => ?_⟩
    have := hcl j u (by rw [← Array.getElem?_toList]; exact hj)
    rwa [Addr.add_mid, Nat.zero_add] at this
  have hit : ((i : Int)).toNat = i := by omega
  refine Kd.R_store kI (w0 := W) base hN hgd 94 p x ho 94 (g := g) (n := rs.length) (cap := cap) (o' := i * 74) (i : Int) 0 rs r (.agg r.cells) r.cells.toList cc (fun _ => True) (fun _ => False) hp ?_ hx rfl ?_ (Raw.one r) HO (by omega) (by omega) hcl ?_ ?_ ?_ (fun _ hk => hk.elim) (Below.refl _ _) ?_
  · show _ = (i : Int).toNat * 74 + 0
    rw [hit]
    rfl
  · rw [size94, hlen]
  · intro j u hj
    rw [hit]
    exact hcc j u hj
  · rw [hlen]
    exact Nat.le_refl _
  · show _ = _
    rw [hlen, List.drop_of_length_le (by rw [hcl]; exact Nat.le_refl _)]
    simp
  · intro w1 h1 h2 h3
    rw [hit] at h1
    exact h w1 h1 h2 h3
set_option maxRecDepth 100000 in
set_option maxHeartbeats 2000000 in
theorem put_calls (w : World) (m n : Int) (A : Option Addr) (c : Nat) (rs : List Raw) (i : Nat) (r : Raw) (hC : kI.C w A rs.length rs) (hl : rs.length ≤ 1000) (hids : ∀ k (h : k < rs.length), rs[k].id = k + 1) (hi : i < rs.length) (hr : r.id = i + 1) :
    Calls Try.prog 39 #[.agg #[.int .i64 m, .int .i64 n, .slice A rs.length c], .agg r.cells] w fun e w' => ∃ v, e = .returned (.agg #[.int .i64 m, .int .i64 n, v]) ∧ kI.R 94 w' w.heap.size (fun _ => True) v (rs.set i r) ∧ Below w.heap.size w w' := by
  obtain ⟨w1, hw1⟩ : ∃ w1, w1 = ((w.alloc (.cells #[.int .i64 m, .int .i64 n, .slice A rs.length c] 27)).alloc (.cells r.cells 94)).alloc (.cells #[.int .i64 0, .int .i64 0, .slice none 0 0] 27) := ⟨_, rfl⟩
  have hs1 : w1.heap.size = w.heap.size + 3 := by rw [hw1]; simp only [World.size_alloc]
  have hb2 : w1.heap[w.heap.size]? = some (.cells #[.int .i64 m, .int .i64 n, .slice A rs.length c] 27 (0, 0)) := by
    rw [hw1, Below.heap_alloc _ _ _ (by simp only [World.size_alloc]; omega), Below.heap_alloc _ _ _ (by simp only [World.size_alloc]; omega)]
    exact heap_alloc_new w _
  have hb3 : w1.heap[w.heap.size + 1]? = some (.cells r.cells 94 (0, 0)) := by
    rw [hw1, Below.heap_alloc _ _ _ (by simp only [World.size_alloc]; omega)]
    have := heap_alloc_new (w.alloc (.cells #[.int .i64 m, .int .i64 n, .slice A rs.length c] 27)) (.cells r.cells 94)
    rwa [World.size_alloc] at this
  have hb4 : w1.heap[w.heap.size + 1 + 1]? = some (.cells #[.int .i64 0, .int .i64 0, .slice none 0 0] 27 (0, 0)) := by
    rw [hw1]
    have := heap_alloc_new ((w.alloc (.cells #[.int .i64 m, .int .i64 n, .slice A rs.length c] 27)).alloc (.cells r.cells 94)) (.cells #[.int .i64 0, .int .i64 0, .slice none 0 0] 27)
    rwa [World.size_alloc, World.size_alloc] at this
  have hB : Below w.heap.size w w1 := by rw [hw1]; exact (((Below.refl _ w).alloc (Nat.le_refl _) _).alloc (by simp) _).alloc (by simp; omega) _
  have HC := Aside0.mk (Kd.C_below hC hB)
  have H2 := Aside0.mk hb2
  have H3 := Aside0.mk hb3
  have H4 := Aside0.mk hb4
  have HB := Aside0.mk hB
  have HW := Aside0.mk hw1
  have HI := Aside0.mk hids
  have hr0 : r.cells[0]? = some (.int .i64 ((i : Int) + 1)) := by rw [← hr]; rfl
  have hone := Raw.one r
  have hlen := Raw.len r
  have HKM : Aside0 (∀ W base okp, kI.M W base okp r (r.cells.toList)) := ⟨fun _ _ _ => rfl⟩
  have HCC : Aside0 (∀ W base g (k : Nat), k < rs.length → ∀ cap, kI.R 94 W base (fun _ => True) (.slice (some ⟨g, 0, none⟩) rs.length cap) rs → ∃ c : List Value, c.length = 74 ∧ ∀ j u, c[j]? = some u → W.cell? ⟨g, k * 74 + j, none⟩ = some u) := ⟨fun W base g k hk cap hR => by
    obtain ⟨ad, e, hcl⟩ := at_I (Kd.R_reads' hR).2.2 k hk hk
    injection e with e
    subst e
    exact ⟨rs[k].cells.toList, rfl, fun j u hj => by
      have := hcl j u (by rw [← Array.getElem?_toList]; exact hj)
      rwa [Addr.add_mid, Nat.zero_add] at this⟩⟩
  obtain ⟨X, hX⟩ : ∃ X, r.cells = X := ⟨_, rfl⟩
  rw [hX] at hr0 hone hlen hw1 H3 HW HKM ⊢
  have hX0 : w1.cell? ⟨w.heap.size + 1, 0, none⟩ = some (.int .i64 ((i : Int) + 1)) := (blk_cell H3.out 0).trans hr0
  have z2 : w1.cell? ⟨w.heap.size, 2, none⟩ = some (.slice A rs.length c) := (blk_cell H2.out 2).trans rfl
  have HXX := Aside0.mk hX
  have HONE := Aside0.mk hone
  have HLEN := Aside0.mk hlen
  have hsz1 : w.heap.size + 1 + 1 < w1.heap.size := by omega
  clear hC hids hw1 hb2 hb3 hb4 hB hs1 hX hone hlen hr hr0
  go_enter Try.func39, Try.ntmps39
  go_upto_region 1 with (fail)
  rw [← HW.out]
  go_upto_region 2 with (first
    | ((with_reducible refine gate_dst (N := 6) rfl ?_); refine Kd.R_lit kI (w0 := w1) w1.heap.size 94 ?hg (N := 6) ?hd (xs := ([] : List Raw)) (inner := []) (ok := fun _ => True) (okp := fun _ => False) ?hr (Reps.none _ _) (fun _ hk => hk.elim) trivial (Below.refl _ _) (Nat.le_refl _) (by simp) ?_; (case hd => rfl); (case hg => rfl); (case hr => first | (go_simp; done) | (go_simp; rfl)); intro v2 w2 ho hb hg hnew; have HO2 := Aside0.mk ho; have HB2 := Aside0.mk hb; have z2 : w2.cell? ⟨w.heap.size, 2, none⟩ = some (.slice A rs.length c) := (blk_cell ((hb.block _ (by omega)).trans H2.out) 2).trans rfl; clear ho hb hg hnew)
    | ((with_reducible refine gate_builtin (b := .append) (xs := #[.tmp 6, .tmp 8]) rfl ?_); at_builtin; refine Kd.R_append_rows kI (Rr := kI.K w2) (w0 := w1) w1.heap.size rfl (.tmp 6) (.tmp 8) 25 94 _ 696 rfl Try.underlying25 info94 rfl (by decide) (by omega) v2 [] rs A rs.length c (fun _ => True) (fun _ => False) rfl rfl ?aO ?aR (fun _ _ h => h) (fun _ h => h.elim) ?aF ?aB ?aS ?aL ?_; (case aR => exact Kd.C_below HC.out HB2.out); (case aB => exact HB2.out); (case aF => exact (fun _ _ => trivial)); (case aO => exact HO2.out); (case aS => exact HB2.out.size); (case aL => simp only [List.length_nil]; omega); intro v3 w3 ho hb hg hat; rw [List.nil_append] at ho; obtain ⟨A3, c3, rfl⟩ := Kd.R_slice ho; have HO3 := Aside0.mk ho; have HB3 := Aside0.mk hb; have q2 := Aside0.mk ((hb.block _ (by omega)).trans H2.out); have z3 : w3.cell? ⟨w.heap.size, 2, none⟩ = some (.slice A rs.length c) := (blk_cell q2.out 2).trans rfl; have f3 := blk_frozen q2.out 2; clear ho hb hg hat z2))
  obtain ⟨w4, hw4⟩ : ∃ w4, w4 = w3.setCell ⟨w.heap.size, 2, none⟩ (.slice A3 rs.length c3) := ⟨_, rfl⟩
  rw [← hw4]
  have hb4 : w4.heap[w.heap.size]? = some (.cells #[.int .i64 m, .int .i64 n, .slice A3 rs.length c3] 27 (0, 0)) := by rw [hw4]; exact blk_set q2.out 2 _
  have hkp : ∀ k, k < w1.heap.size → k ≠ w.heap.size → w4.heap[k]? = w1.heap[k]? := fun k hk hn => by
    rw [hw4, Below.heap_setCell _ ⟨w.heap.size, 2, none⟩ _ _ hn]
    exact HB3.out.block k hk
  have ho4 : kI.R 94 w4 w1.heap.size (fun _ => True) (.slice A3 rs.length c3) rs := by rw [hw4]; exact Kd.R_set HO3.out q2.out (by decide) 2 _
  have hbw4 : Below w.heap.size w w4 := by rw [hw4]; exact (HB.out.trans (HB3.out.mono (by omega))).setCell (p := ⟨w.heap.size, 2, none⟩) (Nat.le_refl _) _
  have hsz4 : w1.heap.size ≤ w4.heap.size := by rw [hw4, World.size_setCell]; exact HB3.out.size
  have y0 : w4.cell? ⟨w.heap.size, 0, none⟩ = some (.int .i64 m) := (blk_cell hb4 0).trans rfl
  have y1 : w4.cell? ⟨w.heap.size, 1, none⟩ = some (.int .i64 n) := (blk_cell hb4 1).trans rfl
  have y2 : w4.cell? ⟨w.heap.size, 2, none⟩ = some (.slice A3 rs.length c3) := (blk_cell hb4 2).trans rfl
  have hX4 : w4.cell? ⟨w.heap.size + 1, 0, none⟩ = some (.int .i64 ((i : Int) + 1)) := (World.cell?_of_block (w := w1) (hkp _ (by show w.heap.size + 1 < w1.heap.size; omega) (by show w.heap.size + 1 ≠ w.heap.size; omega))).trans hX0
  have HB4 := Aside0.mk hb4
  have HKP := Aside0.mk hkp
  have HO4 := Aside0.mk ho4
  have HBW4 := Aside0.mk hbw4
  clear hw4 hb4 hkp ho4 hbw4 hX0 HO2 HB2 HO3 HB3 q2 z3 f3
  have hfind := find_calls w4 m n A3 c3 rs ((i : Int) + 1) (Kd.R_reads' HO4.out).2.2 hl HI.out
  rw [findIx, if_pos (by omega), show (i : Int) + 1 - 1 = i by omega] at hfind
  have HF := Aside0.mk hfind
  clear hfind
  go_upto_region 3 with (go_at_call 32; refine HF.out.mono ?_; rintro e w5 ⟨rfl, hb5⟩; have HB5 := Aside0.mk hb5; clear hb5)
  have h5 := (HB5.out.block _ (heap_lt_of HB4.out)).trans HB4.out
  have H35 := Aside0.mk ((HB5.out.block _ (by omega)).trans ((HKP.out (w.heap.size + 1) (by omega) (by omega)).trans H3.out))
  have H45 := Aside0.mk ((HB5.out.block _ (by omega)).trans ((HKP.out (w.heap.size + 1 + 1) (by omega) (by omega)).trans H4.out))
  have HO5 := Aside0.mk (Kd.R_below HO4.out HB5.out)
  have HBW5 := Aside0.mk (below_then HBW4.out HBW4.out.size HB5.out)
  have x2 : w5.cell? ⟨w.heap.size, 2, none⟩ = some (.slice A3 rs.length c3) := (blk_cell h5 2).trans rfl
  have H5 := Aside0.mk h5
  have hsz5 := HB5.out.size
  clear h5 y0 y1 y2 hX4 HF
  have hform := Kd.R_form HO5.out (by omega)
  obtain ⟨g3, cap3, hg3, hgb, hglt, _⟩ := hform
  injection hg3 with hA3 _ hc3
  subst hA3
  subst hc3
  go_upto_region 5 with (first
    | ((with_reducible refine gate_dst (N := 20) rfl ?_); refine wpList_load_row rfl 94 (.tmp 3) rfl (w.heap.size + 1) rfl 94 X (0, 0) _ H35.out Try.underlying94 rfl (by rw [size94]; exact congrArg some (by have := HLEN.out; simpa using this.symm)) ?_)
    | (refine put_store w1.heap.size g3 c3 i rs r X (.tmp 21) (.tmp 20) rfl rfl rfl HXX.out rfl rfl hi HO5.out ?_; intro w6 ho hb hg; have HO6 := Aside0.mk ho; have HB6 := Aside0.mk hb; have HG6 := Aside0.mk hg; clear ho hb hg))
  have h6 := blk_grown H5.out HG6.out (fun e => by injection e with e; omega)
  have h64 := blk_grown H45.out HG6.out (fun e => by injection e with e; omega)
  have H6 := Aside0.mk h6
  have H64 := Aside0.mk h64
  have HBW6 := Aside0.mk (HBW5.out.grown HG6.out (by omega) (fun k e => by injection e with e; omega))
  have y0 : w6.cell? ⟨w.heap.size, 0, none⟩ = some (.int .i64 m) := (blk_cell h6 0).trans rfl
  have y1 : w6.cell? ⟨w.heap.size, 1, none⟩ = some (.int .i64 n) := (blk_cell h6 1).trans rfl
  have y2 : w6.cell? ⟨w.heap.size, 2, none⟩ = some (.slice (some ⟨g3, 0, none⟩) rs.length c3) := (blk_cell h6 2).trans rfl
  have v0 : w6.cell? ⟨w.heap.size + 1 + 1, 0, none⟩ = some (.int .i64 0) := (blk_cell h64 0).trans rfl
  have v1 : w6.cell? ⟨w.heap.size + 1 + 1, 1, none⟩ = some (.int .i64 0) := (blk_cell h64 1).trans rfl
  have v2' : w6.cell? ⟨w.heap.size + 1 + 1, 2, none⟩ = some (.slice none 0 0) := (blk_cell h64 2).trans rfl
  have q0 := blk_frozen h64 0
  have q1 := blk_frozen h64 1
  have q2 := blk_frozen h64 2
  have hln : (rs.set i r).length = rs.length := by simp
  have HLN := Aside0.mk hln
  clear h6 h64 x2 hln
  go_wp2
  have hs := blk_set (blk_set (blk_set H64.out 0 (.int .i64 m)) 1 (.int .i64 n)) 2 (.slice (some ⟨g3, 0, none⟩) rs.length c3)
  refine bodyPost_ret (results_cell_row rfl _ _ (w.heap.size + 1 + 1) 27 #[.int .i64 m, .int .i64 n, .slice (some ⟨g3, 0, none⟩) rs.length c3] (0, 0) _ rfl (by simpa using hs) Try.underlying27 rfl (by kernel_rfl)) rfl ⟨_, rfl, ?_, ?_⟩
  · exact Kd.R_lower (Kd.R_set (Kd.R_set (Kd.R_set HO6.out H64.out (by decide) 0 _) (blk_set H64.out 0 _) (by decide) 1 _) (blk_set (blk_set H64.out 0 _) 1 _) (by decide) 2 _) (by omega)
  · exact ((HBW6.out.setCell (p := ⟨w.heap.size + 1 + 1, 0, none⟩) (by show w.heap.size ≤ w.heap.size + 1 + 1; omega) _).setCell (p := ⟨w.heap.size + 1 + 1, 1, none⟩) (by show w.heap.size ≤ w.heap.size + 1 + 1; omega) _).setCell (p := ⟨w.heap.size + 1 + 1, 2, none⟩) (by show w.heap.size ≤ w.heap.size + 1 + 1; omega) _
end Go.Proofs.Ytmcihkfbgcfccaa.H
