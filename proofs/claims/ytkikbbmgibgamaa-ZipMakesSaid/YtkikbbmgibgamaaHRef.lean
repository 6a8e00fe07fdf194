import Derived.Test.YtkikbbmgibgamaaHRows
namespace Go.Proofs.Ytkikbbmgibgamaa.Z
open Go.RowKit Go.Proofs.Ytkikbbmgibgamaa.H Go.Proofs.YtkikbbmgibgamaaW.PrintWords Go.Proofs.YtkikbbmgibgamaaW.PrintLast Go.Proofs.YtkikbbmgibgamaaW.PrintMore
attribute [local go_sem] max2_int min2_int max_two min_two max_three min_three max_four min_four
set_option linter.unusedVariables false
set_option linter.unusedSimpArgs false

def to50 (x : S68) : S50 := ⟨x.f0, x.f1⟩
def messuageref07_Make.f (l0 : List S68) : Option (List Int × Int) := zip_Make.f (l0.map to50)
theorem drop_rd68 (l0 : List S68) (x : Int) (h0 : 0 ≤ x) (h1 : x < l0.length) : (l0.map to50).drop x.toNat = to50 (rd_T68 l0 x) :: (l0.map to50).drop (x + 1).toNat := by
  have hlt : x.toNat < l0.length := by omega
  rw [← List.map_drop, ← List.map_drop, List.drop_eq_getElem_cons hlt, show (x + 1).toNat = x.toNat + 1 by omega, List.map_cons]
  congr 2
  simp [rd_T68, List.getD_eq_getElem?_getD, List.getElem?_eq_getElem hlt]

set_option maxHeartbeats 4000000 in
set_option maxRecDepth 100000 in
theorem messuageref07_Make.calls (A0 : Option Addr) (c0 : Nat) (l0 : List (S68)) (r1 : List Int) (r2 : Int) (w : World) (hr0 : Kd.C k68 w A0 l0.length l0) (hc0 : l0.length ≤ c0) (h : messuageref07_Make.f l0 = some (r1, r2)) :
    Calls Try.prog 16 #[.slice A0 l0.length c0] w fun e w' => ∃ v0_ : Value, e = .returned (.tuple #[v0_, .int .i64 r2]) ∧ Kd.R (Kd.int .u8) 5 w' w.heap.size (fun _ => True) v0_ r1 ∧ Below w.heap.size w w' := by
  by_cases hlen : 256 < l0.length
  · rw [messuageref07_Make.f, zip_Make.f, List.length_map, if_pos hlen] at h
    simp only [Option.some.injEq, Prod.mk.injEq] at h
    obtain ⟨rfl, rfl⟩ := h
    clear hr0
    go_enter Try.func16, Try.ntmps16
    go_wp2
    go_ret2
    exact ⟨_, rfl, Kd.R_nil _ _ _ _ _, Below.refl _ _⟩
  · rw [messuageref07_Make.f, zip_Make.f, List.length_map, if_neg hlen, ← List.length_map (f := to50)] at h
    have HH := Aside0.mk h
    have HR0 := Aside0.mk hr0
    have HC0 := Aside0.mk hc0
    have hlen' : l0.length ≤ 256 := by omega
    clear h hr0 hc0 hlen
    go_enter Try.func16, Try.ntmps16
    go_wp2
    go_loopw [4, 5, 6] (fun v4 v5 v6 wr => ∃ (x : Int) (b c : List Int), 0 ≤ x ∧ x ≤ l0.length ∧ v6 = .int .i64 x ∧ Aside0 (mkLoop (l0.map to50) [] [] = mkLoop ((l0.map to50).drop x.toNat) b c) ∧ Aside0 (b.length + c.length + 22 ≤ 262144) ∧ Aside0 (Rows2 w wr v4 v5 b c)) (fun _ _ v6 _ => l0.length - (intOf v6).toNat)
    case atStart => exact ⟨0, [], [], by omega, by omega, rfl, ⟨rfl⟩, ⟨by simp⟩, ⟨⟨Kd.R_nil _ _ _ _ _, Kd.R_nil _ _ _ _ _, fun k h => by simp [Value.ownBlock] at h, Below.refl _ _⟩⟩⟩
    case round =>
      obtain ⟨x, b, c, hx0, hx1, rfl, HM, HBC, HT⟩ := hrel
      have hbl : (b.length : Int) ≤ 262144 := by have := HBC.out; omega
      have hcl : (c.length : Int) ≤ 262144 := by have := HBC.out; omega
      obtain ⟨Ab, cb, rfl⟩ := Kd.R_slice HT.out.b
      obtain ⟨Ac, cc, rfl⟩ := Kd.R_slice HT.out.c
      by_cases hlt : x < l0.length
      · have hp := hx0
        have hq := hlt
        obtain ⟨ad, A1, c1, e1, hy0, hy1, hl1, hi1⟩ := at_T68 HR0.out x hp hq
        cases e1
        replace hy0 := (HT.out.down.cell (World.block_lt_of_cell? w _ hy0)).trans hy0
        replace hy1 := (HT.out.down.cell (World.block_lt_of_cell? w _ hy1)).trans hy1
        have HMX := HM.out
        rw [drop_rd68 l0 x hx0 hlt, mkLoop] at HMX
        have hj1 : (to50 (rd_T68 l0 x)).f0 = (rd_T68 l0 x).f0 := rfl
        have hj2 : (to50 (rd_T68 l0 x)).f1 = (rd_T68 l0 x).f1 := rfl
        rw [hj1, hj2] at HMX
        generalize (rd_T68 l0 x).f0 = s at hy0 HMX
        generalize (rd_T68 l0 x).f1 = d at hy1 hi1 hl1 HMX
        have HD := Aside0.mk hi1
        have HDC := Aside0.mk hl1
        have HM2 := Aside0.mk HMX
        clear HM HMX hi1 hl1 hp hq hj1 hj2
        by_cases e0 : s.toList = []
        · have e1 := size_of_nil e0
          have HE := HM2.out
          rw [if_pos e1] at HE
          obtain ⟨rfl, rfl⟩ := mk_err HE HH.out
          clear HE HM2 HH e1
          go_wp2
          go_ret2
          exact ⟨_, rfl, Kd.R_nil _ _ _ _ _, HT.out.down.alloc HT.out.down.size _⟩
        · have e1 := size_of_some e0
          have e2 : s.toList.isEmpty = false := by simpa using e0
          have HE := HM2.out
          rw [if_neg e1] at HE
          by_cases e3 : 256 < s.size
          · rw [if_pos e3] at HE
            obtain ⟨rfl, rfl⟩ := mk_err HE HH.out
            clear HE HM2 HH e1
            go_wp2
            go_ret2
            exact ⟨_, rfl, Kd.R_nil _ _ _ _ _, HT.out.down.alloc HT.out.down.size _⟩
          · rw [if_neg e3] at HE
            by_cases e4 : 262144 < d.length
            · rw [if_pos e4] at HE
              obtain ⟨rfl, rfl⟩ := mk_err HE HH.out
              clear HE HM2 HH e1
              go_wp2
              go_ret2
              exact ⟨_, rfl, Kd.R_nil _ _ _ _ _, HT.out.down.alloc HT.out.down.size _⟩
            · rw [if_neg e4] at HE
              have HE2 := Aside0.mk HE
              have HT1 := Aside0.mk (HT.out.below (below_alloc (Below.refl _ _) (.cells #[.string s, .slice A1 d.length c1] 68)))
              have HBOX := Aside0.mk (heap_alloc_new wr (.cells #[.string s, .slice A1 d.length c1] 68))
              have e3' : (s.size : Int) ≤ 256 := by omega
              have e4' : (d.length : Int) ≤ 262144 := by omega
              clear HE HM2 e1 HT e3 e4
              go_wp2_with fail
              go_quiet (fail)
              go_wp2_with fail
              have hpb := padOf_bd (b.length : Int) (s.size : Int)
              have HPU := Aside0.mk (show padOf (b.length : Int) (s.size : Int) = -(((b.length : Int) + 30 + (s.size : Int)) % 256) % 256 from rfl)
              obtain ⟨wb, rfl⟩ : ∃ wb : World, wb = wr := ⟨_, rfl⟩
              go_loopw [11] (fun v11 wq => ∃ p : Int, 0 ≤ p ∧ p ≤ padOf (b.length : Int) (s.size : Int) ∧ v11 = .int .u64 p ∧ Aside0 (Rows2 w wq (.slice Ab b.length cb) (.slice Ac c.length cc) b c) ∧ Aside0 (wq.heap[wb.heap.size]? = some (.cells #[.string s, .slice A1 d.length c1] 68 (0, 0)))) (fun v11 _ => 256 - (intOf v11).toNat)
              case atStart => exact ⟨0, by omega, hpb.1, rfl, ⟨HT1.out.below (pw_below_drewN (Below.refl _ _) _)⟩, HBOX⟩
              case round =>
                obtain ⟨p, hp0, hp1, rfl, HTQ, HBQ⟩ := hrel
                clear HT1 HBOX
                by_cases hpe : p < padOf (b.length : Int) (s.size : Int)
                · have ht : (((b.length : Int) + 30 + (s.size : Int) + p) % 256 != 0) = true := by rw [bne_iff_ne]; have := HPU.out; omega
                  clear hp1
                  go_wp2_with fail
                  go_roundw
                  case rel => exact ⟨p + 1, by omega, by omega, by go_num, HTQ, HBQ⟩
                  case measure => simp [intOf]; omega
                · have hpe2 : p = padOf (b.length : Int) (s.size : Int) := by omega
                  have ht : (((b.length : Int) + 30 + (s.size : Int) + p) % 256 != 0) = false := by rw [bne_eq_false_iff_eq]; have := HPU.out; omega
                  have hp2 : p ≤ 255 := by omega
                  have HPE := Aside0.mk hpe2
                  clear hp1 hpe hpe2 hpb
                  go_wp2_with fail
                  refine (ref4 [67324752] HTQ.out (by simp) (by intro y hy; simp only [List.mem_cons, List.not_mem_nil, or_false] at hy; omega) ?_).mono ?_
                  · ((try simp only [List.length_append, flat_length, bytesOf_length, List.length_replicate, List.length_cons, List.length_nil]); omega)
                  rintro e w' ⟨v, rfl, hz, hk⟩
                  have n1 := Aside0.mk hz
                  have n2 := Aside0.mk (hk _ _ _ _ ((Below.heap_alloc _ _ _ (blk_lt HBQ.out)).trans HBQ.out) (by decide))
                  clear HTQ hz hk HBQ
                  try clear hz0 hz1
                  have HTQ := n1
                  have HBQ := n2
                  have hz0 : w'.cell? ⟨wb.heap.size, 0, none⟩ = some (.string s) := (blk_cell HBQ.out 0).trans rfl; have hz1 : w'.cell? ⟨wb.heap.size, 1, none⟩ = some (.slice A1 d.length c1) := (blk_cell HBQ.out 1).trans rfl
                  clear n1 n2
                  go_wp2_with fail
                  refine (ref2 [10, 0, 0, 0, 0] HTQ.out (by simp) (by intro y hy; simp only [List.mem_cons, List.not_mem_nil, or_false] at hy; omega) ?_).mono ?_
                  · ((try simp only [List.length_append, flat_length, bytesOf_length, List.length_replicate, List.length_cons, List.length_nil]); omega)
                  rintro e w' ⟨v, rfl, hz, hk⟩
                  have n1 := Aside0.mk hz
                  have n2 := Aside0.mk (hk _ _ _ _ ((Below.heap_alloc _ _ _ (blk_lt HBQ.out)).trans HBQ.out) (by decide))
                  clear HTQ hz hk HBQ
                  try clear hz0 hz1
                  have HTQ := n1
                  have HBQ := n2
                  have hz0 : w'.cell? ⟨wb.heap.size, 0, none⟩ = some (.string s) := (blk_cell HBQ.out 0).trans rfl; have hz1 : w'.cell? ⟨wb.heap.size, 1, none⟩ = some (.slice A1 d.length c1) := (blk_cell HBQ.out 1).trans rfl
                  clear n1 n2
                  go_wp2_with fail
                  refine (ref4 [0, (d.length : Int), (d.length : Int)] HTQ.out (by simp) (by intro y hy; simp only [List.mem_cons, List.not_mem_nil, or_false] at hy; omega) ?_).mono ?_
                  · ((try simp only [List.length_append, flat_length, bytesOf_length, List.length_replicate, List.length_cons, List.length_nil]); omega)
                  rintro e w' ⟨v, rfl, hz, hk⟩
                  have n1 := Aside0.mk hz
                  have n2 := Aside0.mk (hk _ _ _ _ ((Below.heap_alloc _ _ _ (blk_lt HBQ.out)).trans HBQ.out) (by decide))
                  clear HTQ hz hk HBQ
                  try clear hz0 hz1
                  have HTQ := n1
                  have HBQ := n2
                  have hz0 : w'.cell? ⟨wb.heap.size, 0, none⟩ = some (.string s) := (blk_cell HBQ.out 0).trans rfl; have hz1 : w'.cell? ⟨wb.heap.size, 1, none⟩ = some (.slice A1 d.length c1) := (blk_cell HBQ.out 1).trans rfl
                  clear n1 n2
                  go_wp2_with fail
                  refine (ref2 [(s.size : Int), p] HTQ.out (by simp) (by intro y hy; simp only [List.mem_cons, List.not_mem_nil, or_false] at hy; omega) ?_).mono ?_
                  · ((try simp only [List.length_append, flat_length, bytesOf_length, List.length_replicate, List.length_cons, List.length_nil]); omega)
                  rintro e w' ⟨v, rfl, hz, hk⟩
                  have n1 := Aside0.mk hz
                  have n2 := Aside0.mk (hk _ _ _ _ ((Below.heap_alloc _ _ _ (blk_lt HBQ.out)).trans HBQ.out) (by decide))
                  clear HTQ hz hk HBQ
                  try clear hz0 hz1
                  have HTQ := n1
                  have HBQ := n2
                  have hz0 : w'.cell? ⟨wb.heap.size, 0, none⟩ = some (.string s) := (blk_cell HBQ.out 0).trans rfl; have hz1 : w'.cell? ⟨wb.heap.size, 1, none⟩ = some (.slice A1 d.length c1) := (blk_cell HBQ.out 1).trans rfl
                  clear n1 n2
                  go_wp2_with ((with_reducible refine gate_builtin (b := .append) (xs := #[.tmp 76, .tmp 78]) rfl ?_); at_builtin; refine R_append_str (w0 := w) w.heap.size rfl (.tmp 76) (.tmp 78) 22 9 5 rfl Try.underlying22 Try.underlying9 info5 _ _ s (fun _ => True) rfl rfl HTQ.out.b (fun _ _ => trivial) HTQ.out.down HTQ.out.down.size ?aL ?_; (case aL => ((try simp only [List.length_append, flat_length, bytesOf_length, List.length_replicate, List.length_cons, List.length_nil]); omega)); intro v1 w1 ho hb hg hat; have n0 := HTQ.out.grown ho hb hg hat; have n1 := Aside0.mk n0.1; have n2 := Aside0.mk (n0.2 _ _ _ _ HBQ.out (by decide)); clear HTQ HBQ n0 ho hb hg hat hz0 hz1; have HTQ := n1; have HBQ := n2; clear n1 n2)
                  refine (refZ2 p HTQ.out hp0 (by omega) ?_).mono ?_
                  · ((try simp only [List.length_append, flat_length, bytesOf_length, List.length_replicate, List.length_cons, List.length_nil]); omega)
                  rintro e w' ⟨v, rfl, hz, hk⟩
                  have n1 := Aside0.mk hz
                  have n2 := Aside0.mk (hk _ _ _ _ HBQ.out (by decide))
                  clear HTQ hz hk HBQ
                  have HTQ := n1
                  have HBQ := n2
                  clear n1 n2
                  have hz0 : w'.cell? ⟨wb.heap.size, 0, none⟩ = some (.string s) := (blk_cell HBQ.out 0).trans rfl
                  have hz1 : w'.cell? ⟨wb.heap.size, 1, none⟩ = some (.slice A1 d.length c1) := (blk_cell HBQ.out 1).trans rfl
                  go_wp2_with ((with_reducible refine gate_builtin (b := .append) (xs := #[.tmp 84, .tmp 86]) rfl ?_); at_builtin; refine Kd.R_append_rows (Kd.int .u8) (w0 := w) w.heap.size rfl (.tmp 84) (.tmp 86) 22 5 (.int .u8 0) 1 rfl Try.underlying22 info5 rfl (by decide) (by omega) _ _ d _ _ _ (fun _ => True) (fun _ => False) rfl rfl HTQ.out.b (Kd.C_below HD.out HTQ.out.down) (fun _ _ h => h) (fun _ h => h.elim) (fun _ _ => trivial) HTQ.out.down HTQ.out.down.size ?aL ?_; (case aL => ((try simp only [List.length_append, flat_length, bytesOf_length, List.length_replicate, List.length_cons, List.length_nil]); omega)); intro v1 w1 ho hb hg hat; have n0 := HTQ.out.grown ho hb hg hat; have n1 := Aside0.mk n0.1; have n2 := Aside0.mk (n0.2 _ _ _ _ HBQ.out (by decide)); clear HTQ HBQ n0 ho hb hg hat hz1 hz0; have HTQ := n1; have HBQ := n2; clear n1 n2)
                  refine (ref4 [33639248] HTQ.out.symm (by simp) (by intro y hy; simp only [List.mem_cons, List.not_mem_nil, or_false] at hy; omega) ?_).mono ?_
                  · ((try simp only [List.length_append, flat_length, bytesOf_length, List.length_replicate, List.length_cons, List.length_nil]); omega)
                  rintro e w' ⟨v, rfl, hz, hk⟩
                  have n1 := Aside0.mk hz.symm
                  have n2 := Aside0.mk (hk _ _ _ _ ((Below.heap_alloc _ _ _ (blk_lt HBQ.out)).trans HBQ.out) (by decide))
                  clear HTQ hz hk HBQ
                  try clear hz0 hz1
                  have HTQ := n1
                  have HBQ := n2
                  have hz0 : w'.cell? ⟨wb.heap.size, 0, none⟩ = some (.string s) := (blk_cell HBQ.out 0).trans rfl; have hz1 : w'.cell? ⟨wb.heap.size, 1, none⟩ = some (.slice A1 d.length c1) := (blk_cell HBQ.out 1).trans rfl
                  clear n1 n2
                  go_wp2_with fail
                  refine (ref2 [10, 10, 0, 0, 0, 0] HTQ.out.symm (by simp) (by intro y hy; simp only [List.mem_cons, List.not_mem_nil, or_false] at hy; omega) ?_).mono ?_
                  · ((try simp only [List.length_append, flat_length, bytesOf_length, List.length_replicate, List.length_cons, List.length_nil]); omega)
                  rintro e w' ⟨v, rfl, hz, hk⟩
                  have n1 := Aside0.mk hz.symm
                  have n2 := Aside0.mk (hk _ _ _ _ ((Below.heap_alloc _ _ _ (blk_lt HBQ.out)).trans HBQ.out) (by decide))
                  clear HTQ hz hk HBQ
                  try clear hz0 hz1
                  have HTQ := n1
                  have HBQ := n2
                  have hz0 : w'.cell? ⟨wb.heap.size, 0, none⟩ = some (.string s) := (blk_cell HBQ.out 0).trans rfl; have hz1 : w'.cell? ⟨wb.heap.size, 1, none⟩ = some (.slice A1 d.length c1) := (blk_cell HBQ.out 1).trans rfl
                  clear n1 n2
                  go_wp2_with fail
                  refine (ref4 [0, (d.length : Int), (d.length : Int)] HTQ.out.symm (by simp) (by intro y hy; simp only [List.mem_cons, List.not_mem_nil, or_false] at hy; omega) ?_).mono ?_
                  · ((try simp only [List.length_append, flat_length, bytesOf_length, List.length_replicate, List.length_cons, List.length_nil]); omega)
                  rintro e w' ⟨v, rfl, hz, hk⟩
                  have n1 := Aside0.mk hz.symm
                  have n2 := Aside0.mk (hk _ _ _ _ ((Below.heap_alloc _ _ _ (blk_lt HBQ.out)).trans HBQ.out) (by decide))
                  clear HTQ hz hk HBQ
                  try clear hz0 hz1
                  have HTQ := n1
                  have HBQ := n2
                  have hz0 : w'.cell? ⟨wb.heap.size, 0, none⟩ = some (.string s) := (blk_cell HBQ.out 0).trans rfl; have hz1 : w'.cell? ⟨wb.heap.size, 1, none⟩ = some (.slice A1 d.length c1) := (blk_cell HBQ.out 1).trans rfl
                  clear n1 n2
                  go_wp2_with fail
                  refine (ref2 [(s.size : Int), 0, 0, 0, 0] HTQ.out.symm (by simp) (by intro y hy; simp only [List.mem_cons, List.not_mem_nil, or_false] at hy; omega) ?_).mono ?_
                  · ((try simp only [List.length_append, flat_length, bytesOf_length, List.length_replicate, List.length_cons, List.length_nil]); omega)
                  rintro e w' ⟨v, rfl, hz, hk⟩
                  have n1 := Aside0.mk hz.symm
                  have n2 := Aside0.mk (hk _ _ _ _ ((Below.heap_alloc _ _ _ (blk_lt HBQ.out)).trans HBQ.out) (by decide))
                  clear HTQ hz hk HBQ
                  try clear hz0 hz1
                  have HTQ := n1
                  have HBQ := n2
                  have hz0 : w'.cell? ⟨wb.heap.size, 0, none⟩ = some (.string s) := (blk_cell HBQ.out 0).trans rfl; have hz1 : w'.cell? ⟨wb.heap.size, 1, none⟩ = some (.slice A1 d.length c1) := (blk_cell HBQ.out 1).trans rfl
                  clear n1 n2
                  go_wp2_with fail
                  refine (ref4 [0, (b.length : Int)] HTQ.out.symm (by simp) (by intro y hy; simp only [List.mem_cons, List.not_mem_nil, or_false] at hy; omega) ?_).mono ?_
                  · ((try simp only [List.length_append, flat_length, bytesOf_length, List.length_replicate, List.length_cons, List.length_nil]); omega)
                  rintro e w' ⟨v, rfl, hz, hk⟩
                  have n1 := Aside0.mk hz.symm
                  have n2 := Aside0.mk (hk _ _ _ _ ((Below.heap_alloc _ _ _ (blk_lt HBQ.out)).trans HBQ.out) (by decide))
                  clear HTQ hz hk HBQ
                  try clear hz0 hz1
                  have HTQ := n1
                  have HBQ := n2
                  have hz0 : w'.cell? ⟨wb.heap.size, 0, none⟩ = some (.string s) := (blk_cell HBQ.out 0).trans rfl; have hz1 : w'.cell? ⟨wb.heap.size, 1, none⟩ = some (.slice A1 d.length c1) := (blk_cell HBQ.out 1).trans rfl
                  clear n1 n2
                  have HTB := HTQ.out
                  generalize hb2 : b ++ flat 4 [67324752] ++ flat 2 [10, 0, 0, 0, 0] ++ flat 4 [0, (d.length : Int), (d.length : Int)] ++ flat 2 [(s.size : Int), p] ++ bytesOf s ++ List.replicate p.toNat 0 ++ d = b2 at HTB
                  have HB2L := Aside0.mk (show b2.length ≤ 1000000 by rw [← hb2]; (try simp only [List.length_append, flat_length, bytesOf_length, List.length_replicate, List.length_cons, List.length_nil]); omega)
                  have HB2 := Aside0.mk (show b ++ localB s d (padOf (b.length : Int) (s.size : Int)) = b2 by rw [← hb2, ← HPE.out]; simp [localB, flat, List.append_assoc])
                  generalize hc1 : c ++ flat 4 [33639248] ++ flat 2 [10, 10, 0, 0, 0, 0] ++ flat 4 [0, (d.length : Int), (d.length : Int)] ++ flat 2 [(s.size : Int), 0, 0, 0, 0] ++ flat 4 [0, (b.length : Int)] = c1x at HTB
                  have HC1L := Aside0.mk (show c1x.length ≤ 300000 by rw [← hc1]; (try simp only [List.length_append, flat_length, bytesOf_length, List.length_replicate, List.length_cons, List.length_nil]); omega)
                  obtain ⟨c2, hc2⟩ : ∃ c2, c1x ++ bytesOf s = c2 := ⟨_, rfl⟩
                  have HC2L := Aside0.mk (show c2.length ≤ 1000000 by have := HC1L.out; rw [← hc2]; (try simp only [List.length_append, flat_length, bytesOf_length, List.length_replicate, List.length_cons, List.length_nil]); omega)
                  have HC2 := Aside0.mk (show c ++ centralB s d (b.length : Int) = c2 by rw [← hc2, ← hc1]; simp [centralB, flat, List.append_assoc])
                  have HC3 := Aside0.mk hc2
                  clear HTQ hb2 hc1 hc2
                  have HTQ := Aside0.mk HTB
                  clear HTB
                  have HE3 := HE2.out
                  rw [HB2.out, HC2.out] at HE3
                  have HLb' : (b2.length : Int) ≤ 1000000 := by have := HB2L.out; omega
                  have HLc' : (c2.length : Int) ≤ 1000000 := by have := HC2L.out; omega
                  obtain ⟨Ab2, cb2, eb2⟩ := Kd.R_slice HTQ.out.b
                  subst eb2
                  by_cases e5 : 262144 < b2.length + c2.length + 22
                  · rw [if_pos e5] at HE3
                    obtain ⟨rfl, rfl⟩ := mk_err HE3 HH.out
                    have e6 : (262144 : Int) < (b2.length : Int) + (c2.length : Int) + 22 := by omega
                    clear HE3 HH HE2 e5
                    go_wp2_with ((with_reducible refine gate_builtin (b := .append) (xs := #[.tmp 107, .tmp 109]) rfl ?_); at_builtin; refine R_append_str (w0 := w) w.heap.size rfl (.tmp 107) (.tmp 109) 22 9 5 rfl Try.underlying22 Try.underlying9 info5 _ _ s (fun _ => True) rfl rfl HTQ.out.symm.b (fun _ _ => trivial) HTQ.out.symm.down HTQ.out.symm.down.size ?aL ?_; (case aL => have := HC1L.out; omega); intro v1 w1 ho hb hg hat; have n0 := HTQ.out.symm.grown ho hb hg hat; have n1 := n0.1.symm; rw [HC3.out] at n1; have n3 := Aside0.mk n1; clear HTQ HBQ n0 n1 ho hb hg hat hz0 hz1; have HTQ := n3; clear n3; obtain ⟨Ac2, cc2, ec2⟩ := Kd.R_slice HTQ.out.c; subst ec2)
                    go_ret2
                    exact ⟨_, rfl, Kd.R_nil _ _ _ _ _, HTQ.out.down⟩
                  · rw [if_neg e5] at HE3
                    have HE4 := Aside0.mk HE3
                    have e6 : decide ((262144 : Int) < (b2.length : Int) + (c2.length : Int) + 22) = false := decide_eq_false (by omega)
                    have E7 := Aside0.mk (show b2.length + c2.length + 22 ≤ 262144 by omega)
                    clear HE3 HE2 e5
                    go_wp2_with ((with_reducible refine gate_builtin (b := .append) (xs := #[.tmp 107, .tmp 109]) rfl ?_); at_builtin; refine R_append_str (w0 := w) w.heap.size rfl (.tmp 107) (.tmp 109) 22 9 5 rfl Try.underlying22 Try.underlying9 info5 _ _ s (fun _ => True) rfl rfl HTQ.out.symm.b (fun _ _ => trivial) HTQ.out.symm.down HTQ.out.symm.down.size ?aL ?_; (case aL => have := HC1L.out; omega); intro v1 w1 ho hb hg hat; have n0 := HTQ.out.symm.grown ho hb hg hat; have n1 := n0.1.symm; rw [HC3.out] at n1; have n3 := Aside0.mk n1; clear HTQ HBQ n0 n1 ho hb hg hat hz0 hz1; have HTQ := n3; clear n3; obtain ⟨Ac2, cc2, ec2⟩ := Kd.R_slice HTQ.out.c; subst ec2)
                    go_roundw
                    case rel => exact ⟨x + 1, b2, c2, by omega, by omega, by go_num, HE4, E7, HTQ⟩
                    case measure => simp [intOf]; omega
      · have hxe : x.toNat = (l0.map to50).length := by rw [List.length_map]; omega
        have HMX := HM.out
        rw [hxe, List.drop_length, mkLoop] at HMX
        have HRR := mk_ok HMX HH.out
        rw [List.length_map] at HRR
        have HR12 := Aside0.mk HRR
        have HTQ := HT
        clear HM HMX HRR HH hxe HT
        go_wp2_with ((with_reducible refine gate_builtin (b := .append) (xs := #[.tmp 121, .tmp 122]) rfl ?_); at_builtin; refine Kd.R_append_rows (Kd.int .u8) (w0 := w) w.heap.size rfl (.tmp 121) (.tmp 122) 22 5 (.int .u8 0) 1 rfl Try.underlying22 info5 rfl (by decide) (by omega) _ _ c _ _ _ (fun _ => True) (fun _ => False) rfl rfl HTQ.out.b (Kd.R_reads' HTQ.out.c).2.2 (fun _ _ h => h) (fun _ h => h.elim) (fun _ _ => trivial) HTQ.out.down HTQ.out.down.size ?aL ?_; (case aL => omega); intro v1 w1 ho hb hg hat; have n0 := HTQ.out.grown ho hb hg hat; have n1 := Aside0.mk n0.1; clear HTQ n0 ho hb hg hat; have HTQ := n1; clear n1)
        refine (ref4 [101010256, 0] HTQ.out (by simp) (by intro y hy; simp only [List.mem_cons, List.not_mem_nil, or_false] at hy; omega) ?_).mono ?_
        · ((try simp only [List.length_append, flat_length, bytesOf_length, List.length_replicate, List.length_cons, List.length_nil]); omega)
        rintro e w' ⟨v, rfl, hz, hk⟩
        have n1 := Aside0.mk hz
        clear HTQ hz hk
        have HTQ := n1
        clear n1
        go_wp2_with fail
        refine (ref2 [(l0.length : Int), (l0.length : Int)] HTQ.out (by simp) (by intro y hy; simp only [List.mem_cons, List.not_mem_nil, or_false] at hy; omega) ?_).mono ?_
        · ((try simp only [List.length_append, flat_length, bytesOf_length, List.length_replicate, List.length_cons, List.length_nil]); omega)
        rintro e w' ⟨v, rfl, hz, hk⟩
        have n1 := Aside0.mk hz
        clear HTQ hz hk
        have HTQ := n1
        clear n1
        go_wp2_with fail
        refine (ref4 [(c.length : Int), (b.length : Int)] HTQ.out (by simp) (by intro y hy; simp only [List.mem_cons, List.not_mem_nil, or_false] at hy; omega) ?_).mono ?_
        · ((try simp only [List.length_append, flat_length, bytesOf_length, List.length_replicate, List.length_cons, List.length_nil]); omega)
        rintro e w' ⟨v, rfl, hz, hk⟩
        have n1 := Aside0.mk hz
        clear HTQ hz hk
        have HTQ := n1
        clear n1
        go_wp2_with fail
        refine (ref2 [0] HTQ.out (by simp) (by intro y hy; simp only [List.mem_cons, List.not_mem_nil, or_false] at hy; omega) ?_).mono ?_
        · ((try simp only [List.length_append, flat_length, bytesOf_length, List.length_replicate, List.length_cons, List.length_nil]); omega)
        rintro e w' ⟨v, rfl, hz, hk⟩
        have n1 := Aside0.mk hz
        clear HTQ hz hk
        have HTQ := n1
        clear n1
        go_wp2_with fail
        go_ret2
        refine ⟨v, ?_, ?_, HTQ.out.down⟩
        · rw [HR12.out.2]; rfl
        · rw [HR12.out.1]
          have hz := HTQ.out.b
          simpa [endB, flat, List.append_assoc] using hz
        end Go.Proofs.Ytkikbbmgibgamaa.Z
        