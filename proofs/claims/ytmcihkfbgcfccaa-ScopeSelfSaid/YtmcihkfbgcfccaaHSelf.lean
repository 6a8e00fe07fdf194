/- ScopeSelf. -/
import Derived.Test.YtmcihkfbgcfccaaHFacts
import Derived.Deep.Cut
namespace Go.Proofs.Ytmcihkfbgcfccaa.H
open Go.RowKit Go.Proofs.Ytmcihkfbgcfccaa.Z Go.Proofs.YtmcihkfbgcfccaaW.PrintWords Go.Proofs.YtmcihkfbgcfccaaW.PrintLast Go.Proofs.YtmcihkfbgcfccaaW.PrintMore
set_option linter.unusedVariables false
set_option linter.unusedSimpArgs false
noncomputable def self_T14 : Bool × List (List Nat × List Nat) := rtab .any (opsOf Try.f7 14)
theorem self_tab14 : rtab .any (opsOf Try.f7 14) = self_T14 := rfl
def self_B14 : List Nat := [0, 0, 0, 4, 12, 28, 62, 0, 128, 0, 512, 2047, 4095, 8191, 8191, 0, 49151, 131071]
theorem self_bits14 : waitsOk self_T14.2 self_B14 = true := by kernel_rfl
theorem globs_bd {L : List Ins} (sp : Int) (hL : L.length ≤ 12) : (∀ y ∈ globsOf L sp L.length, (Lit.int .i64 y).wf = true) ∧ (globsOf L sp L.length).length ≤ 1000000 := by
  refine ⟨fun y hy => ?_, ?_⟩
  · have := globsOf_mem L sp _ y hy
    exact wf_small (by omega) (by omega)
  · have := globsOf_len L sp L.length
    omega
theorem int_one {W : World} {g : Nat} {id : Int} (hb : W.heap[g]? = some (.cells #[.int .i64 id] 3 (0, 0))) : (Kd.int .i64).C W (some ⟨g, 0, none⟩) ([id] : List Int).length [id] :=
  C_lit hb [id] [[.int .i64 id]] rfl (by simp [Kd.int, Kd.scalar]) rfl (fun j x c hj hc => by
    have h0 : j = 0 := by have := (List.getElem?_eq_some_iff.1 hj).1; simp at this; omega
    subst h0
    simp at hj hc
    subst hj hc
    rfl) (by simp)
set_option maxRecDepth 100000 in
set_option maxHeartbeats 20000000 in
theorem self_walk (w : World) (x : Array Value) (l : List S81) (id root sym : Int) (nm ver : ByteArray) (ids : List Int) (h : AskR w x l id root sym nm ver ids) :
    Calls Try.prog 7 #[.agg x] w fun e w' => e = .returned (.bool true) ∧ Below w.heap.size w w' := by
  obtain ⟨⟨A, c, A6, c6, rfl, hc, hc6, hm6, hC, hC6⟩, hwn, hid, hroot, hsym, hids⟩ := h
  obtain ⟨g, hg, hsm⟩ := great_f l
  obtain ⟨wb, hwb⟩ : ∃ wb, wb = w.alloc (.cells #[.slice A l.length c, .int .i64 id, .int .i64 root, .int .i64 sym, .string nm, .string ver, .slice A6 ids.length c6] 39) := ⟨_, rfl⟩
  have hbl : wb.heap[w.heap.size]? = some (.cells #[.slice A l.length c, .int .i64 id, .int .i64 root, .int .i64 sym, .string nm, .string ver, .slice A6 ids.length c6] 39 (0, 0)) := by rw [hwb]; exact heap_alloc_new w _
  have HBL := Aside0.mk hbl
  have HBW := Aside0.mk (show Below w.heap.size w wb by rw [hwb]; exact below_alloc (Below.refl _ _) _)
  have HWB := Aside0.mk hwb
  have HC := Aside0.mk (Kd.C_below hC HBW.out)
  have HG := Aside0.mk (messuagelaw23_great.calls fuel A c l g wb HC.out hc hg)
  have hy0 : wb.cell? ⟨w.heap.size, 0, none⟩ = some (.slice A l.length c) := (blk_cell hbl 0).trans rfl
  clear hbl hwb hC hC6 hwn hids hg
  go_enter Try.func7, Try.ntmps7
  go_wp2_with fail
  rw [← HWB.out]
  refine HG.out.mono ?_
  rintro e w1 ⟨rfl, hdr⟩
  have hb1 := hdr.below
  have hbl1 := (hb1.block _ (heap_lt_of HBL.out)).trans HBL.out
  have HBL1 := Aside0.mk hbl1
  have HBW1 := Aside0.mk (below_then HBW.out HBW.out.size hb1)
  have HC1 := Aside0.mk (Kd.C_below HC.out hb1)
  clear hb1 hdr hbl1 hy0 HC HG HBL HBW HWB
  cases g with
  | true =>
    go_wp2
    go_ret
    exact ⟨rfl, HBW1.out⟩
  | false =>
    obtain ⟨hl12, hl40⟩ := hsm rfl
    have HMC := Aside0.mk (made_calls w1 A c l HC1.out hl12 hl40)
    have hsmall := netOf_small hl12 hl40
    have HSM := Aside0.mk hsmall
    have hy0 : w1.cell? ⟨w.heap.size, 0, none⟩ = some (.slice A l.length c) := (blk_cell HBL1.out 0).trans rfl
    clear hsm hsmall HC1
    go_wp2_with fail
    refine HMC.out.mono ?_
    rintro e w2 ⟨bt, rA, rc, rs, S, rfl, q1, q2, q3⟩
    have HBW2 := Aside0.mk (below_then HBW1.out HBW1.out.size q3)
    have HBL2 := Aside0.mk ((q3.block _ (heap_lt_of HBL1.out)).trans HBL1.out)
    have HT2 := Aside0.mk q1
    clear q1 q2 q3 hy0 HMC HBL1 HBW1 hl12 hl40
    obtain ⟨L, HLL⟩ : ∃ L, Aside0 (netOf l = L) := ⟨_, ⟨rfl⟩⟩
    rw [HLL.out] at HT2 HSM
    go_upto_region 4 with (fail)
    obtain ⟨w3, hw3⟩ : ∃ w3, w3 = w2.alloc (.cells #[.int .i64 12, .int .i64 ((l.length : Int) + 1), .slice rA l.length rc] 27) := ⟨_, rfl⟩
    rw [← hw3]
    have hb3 : Below w2.heap.size w2 w3 := by rw [hw3]; exact below_alloc (Below.refl _ _) _
    have HT := Aside0.mk (HT2.out.below hb3)
    have HBL := Aside0.mk ((hb3.block _ (heap_lt_of HBL2.out)).trans HBL2.out)
    have HBW := Aside0.mk (below_then HBW2.out HBW2.out.size hb3)
    clear hw3 hb3 HT2 HBL2 HBW2
    have hy1 : w3.cell? ⟨w.heap.size, 1, none⟩ = some (.int .i64 id) := (blk_cell HBL.out 1).trans rfl
    have hy2 : w3.cell? ⟨w.heap.size, 2, none⟩ = some (.int .i64 root) := (blk_cell HBL.out 2).trans rfl
    have hy3 : w3.cell? ⟨w.heap.size, 3, none⟩ = some (.int .i64 sym) := (blk_cell HBL.out 3).trans rfl
    go_wp2_with fail
    refine (get_T w3 bt L id HT.out hid).mono ?_
    rintro e w4 ⟨hw4, ⟨b, x, rfl, hx, hI⟩ | ⟨rfl, hx⟩⟩
    · subst hw4
      obtain ⟨sA, sc, nA, nc, i1, i2, i3, i4, i5⟩ := hI.out
      have hs62 : w4.cell? ⟨b, 62, none⟩ = some (.slice sA x.syms.length sc) := (blk_cell i1 62).trans rfl
      have HSC := Aside0.mk i2
      have HX := Aside0.mk hx
      have HI := Aside0.mk hI
      have HII := Aside0.mk i1
      clear i1 i2 i4 i5 hI hx
      by_cases c1 : sym < 1 ∨ sym ≥ x.syms.length
      · by_cases c2 : sym < 1
        · clear c1
          go_upto_region 7 with (fail)
          go_quiet ((fail))
          go_wp2_with fail
          refine (alive_calls _).mono ?_
          rintro e w5 ⟨rfl, hb5⟩
          have HB5 := Aside0.mk (below_then (pw_below_drewN HBW.out nq) (pw_below_drewN HBW.out nq).size hb5)
          clear hb5
          go_wp2
          go_ret
          exact ⟨rfl, HB5.out⟩
        · have c3 : (x.syms.length : Int) ≤ sym := by omega
          clear c1
          go_upto_region 7 with (fail)
          go_quiet ((fail))
          go_wp2_with fail
          refine (alive_calls _).mono ?_
          rintro e w5 ⟨rfl, hb5⟩
          have HB5 := Aside0.mk (below_then (pw_below_drewN HBW.out nq) (pw_below_drewN HBW.out nq).size hb5)
          clear hb5
          go_wp2
          go_ret
          exact ⟨rfl, HB5.out⟩
      · have p1 : 1 ≤ sym := by omega
        have p2 : sym < (x.syms.length : Int) := by omega
        have p0 : 0 ≤ sym := by omega
        clear c1
        obtain ⟨ad, e0, hx0, hx1, hx2, hx3, hx4, hx5, hx6⟩ := at_T76 HSC.out sym (by omega) p2
        subst e0
        have HHI := Aside0.mk HI.out
        obtain ⟨s, HS0⟩ : ∃ s, Aside0 (rd_T76 x.syms sym = s) := ⟨_, ⟨rfl⟩⟩
        rw [HS0.out] at hx0 hx1 hx2 hx3 hx4 hx5 hx6
        go_upto_region 7 with (fail)
        go_quiet ((fail))
        go_upto_region 9 with (fail)
        obtain ⟨w5, hw5⟩ : ∃ w5, w5 = w4.drewN nq := ⟨_, rfl⟩
        rw [← hw5]
        have hb5 : Below w4.heap.size w4 w5 := by rw [hw5]; exact pw_below_drewN (Below.refl _ _) nq
        have hcell : ∀ a, w5.cell? a = w4.cell? a := fun a => by rw [hw5]; rfl
        have HT5 := Aside0.mk (HT.out.below hb5)
        have HBL5 := Aside0.mk ((hb5.block _ (heap_lt_of HBL.out)).trans HBL.out)
        have HBW5 := Aside0.mk (below_then HBW.out HBW.out.size hb5)
        have HII5 := Aside0.mk ((hb5.block _ (heap_lt_of HII.out)).trans HII.out)
        rw [← hcell] at hy1 hy2 hy3 hs62 hx0 hx1 hx2 hx3 hx4 hx5 hx6
        clear hw5 hb5 hcell HT HBL HBW HII HSC HI HHI
        have hz : ∀ {a v}, w5.cell? a = some v → (w5.alloc (.cells #[.string ⟨#[]⟩, .string ⟨#[]⟩, .bool false, .int .i64 0, .bool false, .int .u64 0, .int .u64 0] 76)).cell? a = some v := fun h => (Below.cell (below_alloc (Below.refl w5.heap.size w5) _) (World.block_lt_of_cell? w5 _ h)).trans h
        have ky3 := hz hy3
        have ks62 := hz hs62
        have kx0 := hz hx0
        have kx1 := hz hx1
        have kx2 := hz hx2
        have kx3 := hz hx3
        have kx4 := hz hx4
        have kx5 := hz hx5
        have kx6 := hz hx6
        clear hz
        go_region
        obtain ⟨w6, hw6⟩ : ∃ w6, w6 = (w5.alloc (.cells #[.string s.f0, .string s.f1, .bool s.f2, .int .i64 s.f3, .bool s.f4, .int .u64 s.f5, .int .u64 s.f6] 76)).drew := ⟨_, rfl⟩
        rw [← hw6]
        have hb6 : Below w5.heap.size w5 w6 := by rw [hw6]; exact below_drew1 (below_alloc (Below.refl _ _) _)
        have hk6 : w6.heap[w5.heap.size]? = some (.cells #[.string s.f0, .string s.f1, .bool s.f2, .int .i64 s.f3, .bool s.f4, .int .u64 s.f5, .int .u64 s.f6] 76 (0, 0)) := by rw [hw6]; exact heap_alloc_new w5 _
        have HK6 := Aside0.mk hk6
        have HT6 := Aside0.mk (HT5.out.below hb6)
        have HBL6 := Aside0.mk ((hb6.block _ (heap_lt_of HBL5.out)).trans HBL5.out)
        have HBW6 := Aside0.mk (below_then HBW5.out HBW5.out.size hb6)
        have HII6 := Aside0.mk ((hb6.block _ (heap_lt_of HII5.out)).trans HII5.out)
        clear hw6 hb6 hk6 HT5 HBL5 HBW5 HII5 hy1 hy2 hy3 hs62 hx0 hx1 hx2 hx3 hx4 hx5 hx6 ky3 ks62 kx0 kx1 kx2 kx3 kx4 kx5 kx6
        obtain ⟨gb, hgb⟩ : ∃ gb, gb = w5.heap.size := ⟨_, rfl⟩
        rw [← hgb] at HK6 ⊢
        clear hgb
        rcases hres : resTot L id root sym with ⟨h1, h2, found, e⟩
        have hres' := resOf_tot HSM.out id root sym
        rw [hres] at hres'
        have HRC := Aside0.mk (resolve_calls fuel w6 bt L id root sym h1 h2 found e HT6.out HSM.out.len HSM.out.needs hid hroot hres')
        have HRES := Aside0.mk hres
        clear hres hres'
        have hy1 : w6.cell? ⟨w.heap.size, 1, none⟩ = some (.int .i64 id) := (blk_cell HBL6.out 1).trans rfl
        have hy2 : w6.cell? ⟨w.heap.size, 2, none⟩ = some (.int .i64 root) := (blk_cell HBL6.out 2).trans rfl
        have hy3 : w6.cell? ⟨w.heap.size, 3, none⟩ = some (.int .i64 sym) := (blk_cell HBL6.out 3).trans rfl
        go_wp2_with fail
        refine HRC.out.mono ?_
        rintro _ w7 ⟨rfl, hb7⟩
        obtain ⟨w8, hw8⟩ : ∃ w8, w8 = w7.alloc (.cells #[.int .i64 h1, .int .i64 h2] 41) := ⟨_, rfl⟩
        have hb78 : Below w7.heap.size w7 w8 := by rw [hw8]; exact below_alloc (Below.refl _ _) _
        have hb8 := below_then hb7 hb7.size hb78
        have HK8 := Aside0.mk ((hb8.block _ (heap_lt_of HK6.out)).trans HK6.out)
        have HT8 := Aside0.mk (HT6.out.below hb8)
        have HBL8 := Aside0.mk ((hb8.block _ (heap_lt_of HBL6.out)).trans HBL6.out)
        have HBW8 := Aside0.mk (below_then HBW6.out HBW6.out.size hb8)
        have HII8 := Aside0.mk ((hb8.block _ (heap_lt_of HII6.out)).trans HII6.out)
        have HH8 := Aside0.mk (show w8.heap[w7.heap.size]? = some (.cells #[.int .i64 h1, .int .i64 h2] 41 (0, 0)) by rw [hw8]; exact heap_alloc_new w7 _)
        clear hb7 hb78 hb8 HK6 HT6 HBL6 HBW6 HII6 HRC hy1 hy2 hy3
        go_upto_region 11 with (fail)
        rw [← hw8]
        clear hw8
        obtain ⟨hg, hhg⟩ : ∃ hg, hg = w7.heap.size := ⟨_, rfl⟩
        rw [← hhg] at HH8 ⊢
        clear hhg
        rcases hown : inOf L s.f0 s.f1 [id] with ⟨o1, o2, is⟩
        have hown' := inGo_of HSM.out s.f0 s.f1 [id]
        rw [hown] at hown'
        have HOWN := Aside0.mk hown
        have HIG := Aside0.mk hown'
        clear hown hown'
        have hy1 : w8.cell? ⟨w.heap.size, 1, none⟩ = some (.int .i64 id) := (blk_cell HBL8.out 1).trans rfl
        have hz0 : (w8.alloc (.cells #[.int .i64 id] 3)).cell? ⟨gb, 0, none⟩ = some (.string s.f0) := (Below.cell (below_alloc (Below.refl w8.heap.size w8) _) (heap_lt_of HK8.out)).trans ((blk_cell HK8.out 0).trans rfl)
        have hz1 : (w8.alloc (.cells #[.int .i64 id] 3)).cell? ⟨gb, 1, none⟩ = some (.string s.f1) := (Below.cell (below_alloc (Below.refl w8.heap.size w8) _) (heap_lt_of HK8.out)).trans ((blk_cell HK8.out 1).trans rfl)
        go_wp2_with fail
        refine (in_calls fuel _ bt L (some ⟨w8.heap.size, 0, none⟩) 1 [id] s.f0 s.f1 o1 o2 is (HT8.out.below (below_alloc (Below.refl _ _) _)) (int_one (heap_alloc_new w8 (.cells #[.int .i64 id] 3))) (Nat.le_refl _) (fun y hy => by simp at hy; subst hy; exact hid) (by simp) HIG.out).mono ?_
        rintro _ w9 ⟨rfl, hb9⟩
        have hb9 := below_then (below_alloc (Below.refl w8.heap.size w8) _) (by simp) hb9
        obtain ⟨w10, hw10⟩ : ∃ w10, w10 = w9.alloc (.cells #[.int .i64 o1, .int .i64 o2] 41) := ⟨_, rfl⟩
        have hb910 : Below w9.heap.size w9 w10 := by rw [hw10]; exact below_alloc (Below.refl _ _) _
        have hb10 := below_then hb9 hb9.size hb910
        have HK := Aside0.mk ((hb10.block _ (heap_lt_of HK8.out)).trans HK8.out)
        have HT := Aside0.mk (HT8.out.below hb10)
        have HBW := Aside0.mk (below_then HBW8.out HBW8.out.size hb10)
        have HII := Aside0.mk ((hb10.block _ (heap_lt_of HII8.out)).trans HII8.out)
        have HH := Aside0.mk ((hb10.block _ (heap_lt_of HH8.out)).trans HH8.out)
        have HO := Aside0.mk (show w10.heap[w9.heap.size]? = some (.cells #[.int .i64 o1, .int .i64 o2] 41 (0, 0)) by rw [hw10]; exact heap_alloc_new w9 _)
        clear hb9 hb910 hb10 HK8 HT8 HBL8 HBW8 HII8 HH8 hz0 hz1 hy1 HIG
        go_upto_region 12 with (fail)
        rw [← hw10]
        clear hw10
        obtain ⟨og, hog⟩ : ∃ og, og = w9.heap.size := ⟨_, rfl⟩
        rw [← hog] at HO ⊢
        clear hog
        have hi25 : w10.cell? ⟨b, 25, none⟩ = some (.bool x.sy) := (blk_cell HII.out 25).trans rfl
        have hk3 : w10.cell? ⟨gb, 3, none⟩ = some (.int .i64 s.f3) := (blk_cell HK.out 3).trans rfl
        have hk4 : w10.cell? ⟨gb, 4, none⟩ = some (.bool s.f4) := (blk_cell HK.out 4).trans rfl
        have hh0 : w10.cell? ⟨hg, 0, none⟩ = some (.int .i64 h1) := (blk_cell HH.out 0).trans rfl
        have hh1 : w10.cell? ⟨hg, 1, none⟩ = some (.int .i64 h2) := (blk_cell HH.out 1).trans rfl
        have ho0 : w10.cell? ⟨og, 0, none⟩ = some (.int .i64 o1) := (blk_cell HO.out 0).trans rfl
        have ho1 : w10.cell? ⟨og, 1, none⟩ = some (.int .i64 o2) := (blk_cell HO.out 1).trans rfl
        have hself : x.sy = true → is = true → ¬ (s.f4 = true ∧ s.f3 = 0) → h1 = o1 ∧ h2 = o2 ∧ found = true ∧ e = 0 := by
          intro a1 a2 a3
          obtain ⟨t, ht⟩ := order_self (root := root) HX.out a1
          have := res_of (root := root) HX.out p1 p2 ht (by rw [HS0.out, HOWN.out]; exact a2) (by rw [HS0.out]; exact a3)
          rw [HS0.out, HRES.out, HOWN.out] at this
          simpa using this
        rcases hgl : inOf L s.f0 s.f1 (globsOf L x.sp L.length) with ⟨g1, g2, so⟩
        have hgl' := inGo_of HSM.out s.f0 s.f1 (globsOf L x.sp L.length)
        rw [hgl] at hgl'
        have HIN := Aside0.mk hgl'
        have HGW := Aside0.mk (globs_bd (x.sp) HSM.out.len)
        have hglob : x.sy = false → so = true → ¬ (s.f4 = true ∧ s.f3 = 0) → h1 = g1 ∧ h2 = g2 ∧ found = true ∧ e = 0 := by
          intro a1 a2 a3
          obtain ⟨t, ht⟩ := order_globs (root := root) HX.out a1
          have := res_of (root := root) HX.out p1 p2 ht (by rw [HS0.out, hgl]; exact a2) (by rw [HS0.out]; exact a3)
          rw [HS0.out, HRES.out, hgl] at this
          simpa using this
        clear hgl hgl'
        have HGLOB := Aside0.mk hglob
        clear hglob
        go_cut [9, 10, 12, 114] from 15 (fun v9 v10 v12 v wx => Value.bool found = v9 ∧ Value.int .i64 e = v10 ∧ Value.bool false = v ∧ w10 = wx)
        case first =>
          cases hsy : x.sy with
          | false =>
            rw [hsy] at hi25
            go_wp2_with fail
            go_meet
            case rel => exact ⟨rfl, rfl, rfl, rfl⟩
          | true =>
            rw [hsy] at hi25
            have hself := hself hsy
            cases his : is with
            | false =>
              go_wp2_with fail
              go_meet
              case rel => exact ⟨rfl, rfl, rfl, rfl⟩
            | true =>
              have hself := hself his
              by_cases hd : s.f4 = true ∧ s.f3 = 0
              · rw [hd.1] at hk4
                rw [hd.2] at hk3
                go_wp2_with fail
                go_meet
                case rel => exact ⟨rfl, rfl, rfl, rfl⟩
              · obtain ⟨rfl, rfl, rfl, rfl⟩ := hself hd
                cases h4 : s.f4 with
                | false =>
                  rw [h4] at hk4
                  by_cases h3 : s.f3 = 0
                  · rw [h3] at hk3
                    go_wp2_with fail
                    go_meet
                    case rel => exact ⟨rfl, rfl, rfl, rfl⟩
                  · go_wp2_with fail
                    go_meet
                    case rel => exact ⟨rfl, rfl, rfl, rfl⟩
                | true =>
                  rw [h4] at hk4
                  have h3 : ¬ s.f3 = 0 := fun e => hd ⟨h4, e⟩
                  go_wp2_with fail
                  go_meet
                  case rel => exact ⟨rfl, rfl, rfl, rfl⟩
        case rest =>
          obtain ⟨rfl, rfl, rfl, rfl⟩ := hcut
          clear hself
          have hglob := HGLOB.out
          go_upto_region 14 with (fail)
          have hBd : Below w10.heap.size w10 w10.drew := below_drew1 (Below.refl _ _)
          refine start_ (n := 18) (S := fun w' => Below w10.heap.size w10 w') (ds := []) #[false, false, false, false, false, false, false, false, false, false, false, false, false, false, false, false, false, false] (by kernel_rfl) rfl rfl hBd (fun hHeld => ?_); refine with_tabW self_tab14 self_bits14 (fun HT_ HW_ => ?_)
          refine pure_ (i := 0) (N := some 116) (v := ?_) (a' := ?_) #[true, false, false, false, false, false, false, false, false, false, false, false, false, false, false, false, false, false] rfl rfl (any_of HT_.out (by kernel_rfl)) (fun _ _ _ h => h) (Or.inl ⟨by rfl, ?_⟩) ?_ ?_
          rotate_left
          · intro w'
            go_simp
            with_reducible rfl
          rotate_left
          · simp only [Act.put, List.setIfInBounds_toArray, List.set_cons_zero, List.set_cons_succ, i64_w, i32_w]
            rfl
          refine pure_ (i := 1) (N := some 117) (v := ?_) (a' := ?_) #[true, true, false, false, false, false, false, false, false, false, false, false, false, false, false, false, false, false] rfl rfl (any_of HT_.out (by kernel_rfl)) (fun _ _ _ h => h) (Or.inl ⟨by rfl, ?_⟩) ?_ ?_
          rotate_left
          · intro w'
            go_simp
            with_reducible rfl
          rotate_left
          · simp only [Act.put, List.setIfInBounds_toArray, List.set_cons_zero, List.set_cons_succ, i64_w, i32_w]
            rfl
          refine pure_ (i := 2) (N := some 118) (v := ?_) (a' := ?_) #[true, true, true, false, false, false, false, false, false, false, false, false, false, false, false, false, false, false] rfl rfl (any_of HT_.out (by kernel_rfl)) (fun _ _ _ h => h) (Or.inl ⟨by rfl, ?_⟩) ?_ ?_
          rotate_left
          · intro w'
            go_simp
            with_reducible rfl
          rotate_left
          · simp only [Act.put, List.setIfInBounds_toArray, List.set_cons_zero, List.set_cons_succ, i64_w, i32_w]
            rfl
          refine pure_ (i := 3) (N := some 119) (v := ?_) (a' := ?_) #[true, true, true, true, false, false, false, false, false, false, false, false, false, false, false, false, false, false] rfl rfl (any_of HT_.out (by kernel_rfl)) (fun _ _ _ h => h) (Or.inl ⟨by rfl, ?_⟩) ?_ ?_
          rotate_left
          · intro w'
            go_simp
            with_reducible rfl
          rotate_left
          · simp only [Act.put, List.setIfInBounds_toArray, List.set_cons_zero, List.set_cons_succ, i64_w, i32_w]
            rfl
          refine pure_ (i := 4) (N := some 120) (v := ?_) (a' := ?_) #[true, true, true, true, true, false, false, false, false, false, false, false, false, false, false, false, false, false] rfl rfl (any_of HT_.out (by kernel_rfl)) (fun _ _ _ h => h) (Or.inl ⟨by rfl, ?_⟩) ?_ ?_
          rotate_left
          · intro w'
            go_simp
            with_reducible rfl
          rotate_left
          · simp only [Act.put, List.setIfInBounds_toArray, List.set_cons_zero, List.set_cons_succ, i64_w, i32_w]
            rfl
          refine take_ (i := 5) (N := some 121) (v := ?_) (a' := ?_) #[true, true, true, true, true, true, false, false, false, false, false, false, false, false, false, false, false, false] rfl rfl (take_ofW HT_.out HW_.out (by kernel_rfl)) (fun _ _ _ h => h) (Or.inl ⟨by rfl, ?_⟩) hHeld ?_ ?_
          rotate_left
          · intro w' s0
            have q0 : w'.cell? ⟨b, 1, none⟩ = some (.int .i64 x.sp) := (s0.cell (p := ⟨b, 1, none⟩) (heap_lt_of HII.out)).trans ((blk_cell HII.out 1).trans rfl)
            clear s0
            go_simp
            with_reducible rfl
          rotate_left
          · simp only [Act.put, List.setIfInBounds_toArray, List.set_cons_zero, List.set_cons_succ, i64_w, i32_w]
            rfl
          refine pure_ (i := 7) (N := some 123) (v := ?_) (a' := ?_) #[true, true, true, true, true, true, false, true, false, false, false, false, false, false, false, false, false, false] rfl rfl (any_of HT_.out (by kernel_rfl)) (fun _ _ _ h => h) (Or.inl ⟨by rfl, ?_⟩) ?_ ?_
          rotate_left
          · intro w'
            go_simp
            with_reducible rfl
          rotate_left
          · simp only [Act.put, List.setIfInBounds_toArray, List.set_cons_zero, List.set_cons_succ, i64_w, i32_w]
            rfl
          refine take_ (i := 8) (N := some 124) (v := ?_) (a' := ?_) #[true, true, true, true, true, true, false, true, true, false, false, false, false, false, false, false, false, false] rfl rfl (take_ofW HT_.out HW_.out (by kernel_rfl)) (fun _ _ _ h => h) (Or.inl ⟨by rfl, ?_⟩) hHeld ?_ ?_
          rotate_left
          · intro w' s0
            have q0 : w'.cell? ⟨gb, 0, none⟩ = some (.string s.f0) := (s0.cell (p := ⟨gb, 0, none⟩) (heap_lt_of HK.out)).trans ((blk_cell HK.out 0).trans rfl)
            clear s0
            go_simp
            with_reducible rfl
          rotate_left
          · simp only [Act.put, List.setIfInBounds_toArray, List.set_cons_zero, List.set_cons_succ, i64_w, i32_w]
            rfl
          refine pure_ (i := 9) (N := some 125) (v := ?_) (a' := ?_) #[true, true, true, true, true, true, false, true, true, true, false, false, false, false, false, false, false, false] rfl rfl (any_of HT_.out (by kernel_rfl)) (fun _ _ _ h => h) (Or.inl ⟨by rfl, ?_⟩) ?_ ?_
          rotate_left
          · intro w'
            go_simp
            with_reducible rfl
          rotate_left
          · simp only [Act.put, List.setIfInBounds_toArray, List.set_cons_zero, List.set_cons_succ, i64_w, i32_w]
            rfl
          refine take_ (i := 10) (N := some 126) (v := ?_) (a' := ?_) #[true, true, true, true, true, true, false, true, true, true, true, false, false, false, false, false, false, false] rfl rfl (take_ofW HT_.out HW_.out (by kernel_rfl)) (fun _ _ _ h => h) (Or.inl ⟨by rfl, ?_⟩) hHeld ?_ ?_
          rotate_left
          · intro w' s0
            have q0 : w'.cell? ⟨gb, 1, none⟩ = some (.string s.f1) := (s0.cell (p := ⟨gb, 1, none⟩) (heap_lt_of HK.out)).trans ((blk_cell HK.out 1).trans rfl)
            clear s0
            go_simp
            with_reducible rfl
          rotate_left
          · simp only [Act.put, List.setIfInBounds_toArray, List.set_cons_zero, List.set_cons_succ, i64_w, i32_w]
            rfl
          refine join_ (σ := Value × Nat) 2 #[true, true, true, true, true, true, true, true, true, true, true, true, true, true, true, true, false, false] (fun s_ => [(122, s_.1), (127, .tuple #[.agg #[.int .i64 g1, .int .i64 g2], .bool so]), (115, .tuple #[.agg #[.int .i64 g1, .int .i64 g2], .bool so]), (128, .agg #[.int .i64 g1, .int .i64 g2]), (129, .bool so), (13, .pointer (some ⟨s_.2, 0, none⟩))]) (fun s_ w' => w'.heap[s_.2]? = some (.cells #[.int .i64 0, .int .i64 0] 41 (0, 0)) ∧ Below w10.heap.size w10 w' ∧ w10.heap.size ≤ s_.2) ?jc (fun hJ => ?jp)
          case jc =>
            intro s_ w' hF
            refine norm_ (a' := ?_) ?_ ?_
            rotate_left
            · simp only [putAll, Act.put, List.setIfInBounds_toArray, List.set_cons_zero, List.set_cons_succ, i64_w, i32_w]
              rfl
            have hq0 : w'.cell? ⟨s_.2, 0, none⟩ = some (.int .i64 0) := (blk_cell hF.1 0).trans rfl
            have hq1 : w'.cell? ⟨s_.2, 1, none⟩ = some (.int .i64 0) := (blk_cell hF.1 1).trans rfl
            have hg0 := blk_frozen hF.1 0
            have hg1 := blk_frozen hF.1 1
            refine one_ (i := 16) (N := none) #[true, true, true, true, true, true, true, true, true, true, true, true, true, true, true, true, true, false] rfl rfl (one_of HT_.out (by kernel_rfl)) (by decide) (fun K hK => ?_)
            refine skip_ (w1 := ?_) (by rfl) rfl ?_ ?_
            rotate_left
            · go_simp
              rfl
            refine hK.out _ _ ((hF.2.1.setCell (p := ⟨s_.2, 0, none⟩) hF.2.2 _).setCell (p := ⟨s_.2, 1, none⟩) hF.2.2 _) (fun hHeld2 => ?_)
            clear hK K
            refine pure_ (i := 17) (N := some 14) (v := ?_) (a' := ?_) #[true, true, true, true, true, true, true, true, true, true, true, true, true, true, true, true, true, true] rfl rfl (any_of HT_.out (by kernel_rfl)) (fun _ _ _ h => h) (Or.inl ⟨by rfl, ?_⟩) ?_ ?_
            rotate_left
            · intro w'
              go_simp
              with_reducible rfl
            rotate_left
            · simp only [Act.put, List.setIfInBounds_toArray, List.set_cons_zero, List.set_cons_succ, i64_w, i32_w]
              rfl
            refine done_ (done_of HT_.out (by kernel_rfl)) ?_
            obtain ⟨wz, hwz⟩ : ∃ wz, wz = (w'.setCell ⟨s_.2, 0, none⟩ (.int .i64 g1)).setCell ⟨s_.2, 1, none⟩ (.int .i64 g2) := ⟨_, rfl⟩
            rw [← hwz] at hHeld2 ⊢
            have hsz := blk_set (blk_set hF.1 0 (.int .i64 g1)) 1 (.int .i64 g2)
            simp only [List.size_toArray, List.length_cons, List.length_nil, List.setIfInBounds_toArray, List.set_cons_zero, List.set_cons_succ] at hsz
            rw [← hwz] at hsz
            have hr0 : wz.cell? ⟨s_.2, 0, none⟩ = some (.int .i64 g1) := (blk_cell hsz 0).trans rfl
            have hr1 : wz.cell? ⟨s_.2, 1, none⟩ = some (.int .i64 g2) := (blk_cell hsz 1).trans rfl
            have HBZ := Aside0.mk (below_then HBW.out HBW.out.size hHeld2)
            have hv25 := (hHeld2.cell (p := ⟨b, 25, none⟩) (heap_lt_of HII.out)).trans hi25
            have hv3 := (hHeld2.cell (p := ⟨gb, 3, none⟩) (heap_lt_of HK.out)).trans hk3
            have hv4 := (hHeld2.cell (p := ⟨gb, 4, none⟩) (heap_lt_of HK.out)).trans hk4
            have hvh0 := (hHeld2.cell (p := ⟨hg, 0, none⟩) (heap_lt_of HH.out)).trans hh0
            have hvh1 := (hHeld2.cell (p := ⟨hg, 1, none⟩) (heap_lt_of HH.out)).trans hh1
            clear hHeld2 hwz hF hq0 hq1 hg0 hg1 hsz hi25 hk3 hk4 hh0 hh1 ho0 ho1
            obtain ⟨v122, g13⟩ := s_
            simp only at hr0 hr1 ⊢
            cases hsy : x.sy with
            | true =>
              rw [hsy] at hv25
              go_wp2_with fail
              refine (alive_calls wz).mono ?_
              rintro _ we ⟨rfl, hbe⟩
              have HBE := Aside0.mk (below_then HBZ.out HBZ.out.size hbe)
              clear hbe
              go_wp2
              go_ret
              exact ⟨rfl, HBE.out⟩
            | false =>
              rw [hsy] at hv25
              have hglob := hglob hsy
              cases hso : so with
              | false =>
                go_wp2_with fail
                refine (alive_calls wz).mono ?_
                rintro _ we ⟨rfl, hbe⟩
                have HBE := Aside0.mk (below_then HBZ.out HBZ.out.size hbe)
                clear hbe
                go_wp2
                go_ret
                exact ⟨rfl, HBE.out⟩
              | true =>
                have hglob := hglob hso
                by_cases hd : s.f4 = true ∧ s.f3 = 0
                · rw [hd.1] at hv4
                  rw [hd.2] at hv3
                  go_wp2_with fail
                  refine (alive_calls wz).mono ?_
                  rintro _ we ⟨rfl, hbe⟩
                  have HBE := Aside0.mk (below_then HBZ.out HBZ.out.size hbe)
                  clear hbe
                  go_wp2
                  go_ret
                  exact ⟨rfl, HBE.out⟩
                · obtain ⟨rfl, rfl, rfl, rfl⟩ := hglob hd
                  cases h4 : s.f4 with
                  | false =>
                    rw [h4] at hv4
                    by_cases h3 : s.f3 = 0
                    · rw [h3] at hv3
                      go_wp2_with fail
                      refine (alive_calls wz).mono ?_
                      rintro _ we ⟨rfl, hbe⟩
                      have HBE := Aside0.mk (below_then HBZ.out HBZ.out.size hbe)
                      clear hbe
                      go_wp2
                      go_ret
                      exact ⟨rfl, HBE.out⟩
                    · go_wp2_with fail
                      refine (alive_calls wz).mono ?_
                      rintro _ we ⟨rfl, hbe⟩
                      have HBE := Aside0.mk (below_then HBZ.out HBZ.out.size hbe)
                      clear hbe
                      go_wp2
                      go_ret
                      exact ⟨rfl, HBE.out⟩
                  | true =>
                    rw [h4] at hv4
                    have h3 : ¬ s.f3 = 0 := fun e => hd ⟨h4, e⟩
                    go_wp2_with fail
                    refine (alive_calls wz).mono ?_
                    rintro _ we ⟨rfl, hbe⟩
                    have HBE := Aside0.mk (below_then HBZ.out HBZ.out.size hbe)
                    clear hbe
                    go_wp2
                    go_ret
                    exact ⟨rfl, HBE.out⟩
          case jp =>
            refine two_ (i := 6) (j := 15) (Ni := some 122) (Nj := some 13) #[true, true, true, true, true, true, true, true, true, true, true, false, false, false, false, false, false, false] #[true, true, true, true, true, true, false, true, true, true, true, false, false, false, false, true, false, false] rfl rfl rfl rfl (two_of HT_.out (by kernel_rfl)) (by decide) (by decide) (fun K hK => ?_) (fun K hK => ?_)
            · refine goes_ Try.func15 (by kernel_rfl) rfl #[.pointer (some ⟨bt, 0, none⟩), .int .i64 x.sp] (by rfl) rfl rfl (by (try simp only [List.map_toArray, List.map_cons, List.map_nil]); first | done | rfl) ?_
              refine (globals_calls (w10.drew) bt L x.sp (HT.out.below hBd) (by have := HSM.out.len; omega)).mono ?_
              rintro _ w_1 ⟨vG, rfl, hvG, hb_1⟩
              obtain ⟨AG, cG, rfl⟩ := Kd.R_slice hvG
              have HCG := Aside0.mk (Kd.R_reads' hvG).2
              have HB_1 := Aside0.mk (below_then (hBd) (hBd).size hb_1)
              refine ⟨_, rfl, ?_⟩
              refine hK.out _ _ HB_1.out (fun hHeld_1 => ?_)
              clear hvG hb_1
              clear hK K
              refine norm_ (a' := ?_) ?_ ?_
              rotate_left
              · show Act.put _ (some 122) _ = _
                simp only [Act.put, List.setIfInBounds_toArray, List.set_cons_zero, List.set_cons_succ, i64_w, i32_w]
                rfl
              refine two_ (i := 11) (j := 15) (Ni := some 127) (Nj := some 13) #[true, true, true, true, true, true, true, true, true, true, true, true, false, false, false, false, false, false] #[true, true, true, true, true, true, true, true, true, true, true, false, false, false, false, true, false, false] rfl rfl rfl rfl (two_of HT_.out (by kernel_rfl)) (by decide) (by decide) (fun K hK => ?_) (fun K hK => ?_)
              · refine goes_ Try.func20 (by kernel_rfl) rfl #[.pointer (some ⟨bt, 0, none⟩), .slice AG (globsOf L x.sp L.length).length cG, .string s.f0, .string s.f1] (by rfl) rfl rfl (by (try simp only [List.map_toArray, List.map_cons, List.map_nil]); first | done | rfl) ?_
                refine (in_calls fuel (w_1) bt L AG cG (globsOf L x.sp L.length) s.f0 s.f1 g1 g2 so (HT.out.below HB_1.out) (HCG.out.2) HCG.out.1 HGW.out.1 HGW.out.2 HIN.out).mono ?_
                rintro _ w_2 ⟨rfl, hb_2⟩
                have HB_2 := Aside0.mk (below_then (HB_1.out) (HB_1.out).size hb_2)
                refine ⟨_, rfl, ?_⟩
                refine hK.out _ _ HB_2.out (fun hHeld_2 => ?_)
                clear hb_2
                clear hK K
                refine norm_ (a' := ?_) ?_ ?_
                rotate_left
                · show Act.put _ (some 127) _ = _
                  simp only [Act.put, List.setIfInBounds_toArray, List.set_cons_zero, List.set_cons_succ, i64_w, i32_w]
                  rfl
                refine pure_ (i := 12) (N := some 115) (v := ?_) (a' := ?_) #[true, true, true, true, true, true, true, true, true, true, true, true, true, false, false, false, false, false] rfl rfl (any_of HT_.out (by kernel_rfl)) (fun _ _ _ h => h) (Or.inl ⟨by rfl, ?_⟩) ?_ ?_
                rotate_left
                · intro w'
                  go_simp
                  with_reducible rfl
                rotate_left
                · simp only [Act.put, List.setIfInBounds_toArray, List.set_cons_zero, List.set_cons_succ, i64_w, i32_w]
                  rfl
                refine pure_ (i := 13) (N := some 128) (v := ?_) (a' := ?_) #[true, true, true, true, true, true, true, true, true, true, true, true, true, true, false, false, false, false] rfl rfl (any_of HT_.out (by kernel_rfl)) (fun _ _ _ h => h) (Or.inl ⟨by rfl, ?_⟩) ?_ ?_
                rotate_left
                · intro w'
                  go_simp
                  with_reducible rfl
                rotate_left
                · simp only [Act.put, List.setIfInBounds_toArray, List.set_cons_zero, List.set_cons_succ, i64_w, i32_w]
                  rfl
                refine pure_ (i := 14) (N := some 129) (v := ?_) (a' := ?_) #[true, true, true, true, true, true, true, true, true, true, true, true, true, true, true, false, false, false] rfl rfl (any_of HT_.out (by kernel_rfl)) (fun _ _ _ h => h) (Or.inl ⟨by rfl, ?_⟩) ?_ ?_
                rotate_left
                · intro w'
                  go_simp
                  with_reducible rfl
                rotate_left
                · simp only [Act.put, List.setIfInBounds_toArray, List.set_cons_zero, List.set_cons_succ, i64_w, i32_w]
                  rfl
                refine one_ (i := 15) (N := some 13) #[true, true, true, true, true, true, true, true, true, true, true, true, true, true, true, true, false, false] rfl rfl (one_of HT_.out (by kernel_rfl)) (by decide) (fun K hK => ?_)
                refine value_ (w1 := ?_) (v := ?_) (by rfl) rfl ?_ ?_
                rotate_left 2
                · go_simp
                  constructor
                  · rfl
                  · rfl
                have HB_3 := Aside0.mk ((HB_2.out).alloc (HB_2.out).size (.cells #[.int .i64 0, .int .i64 0] 41))
                have HBK_3 := Aside0.mk (heap_alloc_new (w_2) (.cells #[.int .i64 0, .int .i64 0] 41))
                refine hK.out _ _ HB_3.out (fun hHeld_3 => ?_)
                clear hK K
                refine norm_ (a' := ?_) ?_ ?_
                rotate_left
                · show Act.put _ (some 13) _ = _
                  simp only [Act.put, List.setIfInBounds_toArray, List.set_cons_zero, List.set_cons_succ, i64_w, i32_w]
                  rfl
                exact norm_ (a' := putAll _ _) (by rfl) (hJ (_, (w_2).heap.size) _ ⟨HBK_3.out, HB_3.out, (HB_2.out).size⟩)
              · refine value_ (w1 := ?_) (v := ?_) (by rfl) rfl ?_ ?_
                rotate_left 2
                · go_simp
                  constructor
                  · rfl
                  · rfl
                have HB_4 := Aside0.mk ((HB_1.out).alloc (HB_1.out).size (.cells #[.int .i64 0, .int .i64 0] 41))
                have HBK_4 := Aside0.mk (heap_alloc_new (w_1) (.cells #[.int .i64 0, .int .i64 0] 41))
                refine hK.out _ _ HB_4.out (fun hHeld_4 => ?_)
                clear hK K
                refine norm_ (a' := ?_) ?_ ?_
                rotate_left
                · show Act.put _ (some 13) _ = _
                  simp only [Act.put, List.setIfInBounds_toArray, List.set_cons_zero, List.set_cons_succ, i64_w, i32_w]
                  rfl
                refine one_ (i := 11) (N := some 127) #[true, true, true, true, true, true, true, true, true, true, true, true, false, false, false, true, false, false] rfl rfl (one_of HT_.out (by kernel_rfl)) (by decide) (fun K hK => ?_)
                refine goes_ Try.func20 (by kernel_rfl) rfl #[.pointer (some ⟨bt, 0, none⟩), .slice AG (globsOf L x.sp L.length).length cG, .string s.f0, .string s.f1] (by rfl) rfl rfl (by (try simp only [List.map_toArray, List.map_cons, List.map_nil]); first | done | rfl) ?_
                refine (in_calls fuel ((w_1).alloc (.cells #[.int .i64 0, .int .i64 0] 41)) bt L AG cG (globsOf L x.sp L.length) s.f0 s.f1 g1 g2 so (HT.out.below HB_4.out) (Kd.C_alloc (HCG.out.2) _) HCG.out.1 HGW.out.1 HGW.out.2 HIN.out).mono ?_
                rintro _ w_5 ⟨rfl, hb_5⟩
                have HB_5 := Aside0.mk (below_then (HB_4.out) (HB_4.out).size hb_5)
                have HBK_5 := Aside0.mk ((hb_5.block _ (heap_lt_of HBK_4.out)).trans HBK_4.out)
                refine ⟨_, rfl, ?_⟩
                refine hK.out _ _ HB_5.out (fun hHeld_5 => ?_)
                clear hb_5
                clear hK K
                refine norm_ (a' := ?_) ?_ ?_
                rotate_left
                · show Act.put _ (some 127) _ = _
                  simp only [Act.put, List.setIfInBounds_toArray, List.set_cons_zero, List.set_cons_succ, i64_w, i32_w]
                  rfl
                refine pure_ (i := 12) (N := some 115) (v := ?_) (a' := ?_) #[true, true, true, true, true, true, true, true, true, true, true, true, true, false, false, true, false, false] rfl rfl (any_of HT_.out (by kernel_rfl)) (fun _ _ _ h => h) (Or.inl ⟨by rfl, ?_⟩) ?_ ?_
                rotate_left
                · intro w'
                  go_simp
                  with_reducible rfl
                rotate_left
                · simp only [Act.put, List.setIfInBounds_toArray, List.set_cons_zero, List.set_cons_succ, i64_w, i32_w]
                  rfl
                refine pure_ (i := 13) (N := some 128) (v := ?_) (a' := ?_) #[true, true, true, true, true, true, true, true, true, true, true, true, true, true, false, true, false, false] rfl rfl (any_of HT_.out (by kernel_rfl)) (fun _ _ _ h => h) (Or.inl ⟨by rfl, ?_⟩) ?_ ?_
                rotate_left
                · intro w'
                  go_simp
                  with_reducible rfl
                rotate_left
                · simp only [Act.put, List.setIfInBounds_toArray, List.set_cons_zero, List.set_cons_succ, i64_w, i32_w]
                  rfl
                refine pure_ (i := 14) (N := some 129) (v := ?_) (a' := ?_) #[true, true, true, true, true, true, true, true, true, true, true, true, true, true, true, true, false, false] rfl rfl (any_of HT_.out (by kernel_rfl)) (fun _ _ _ h => h) (Or.inl ⟨by rfl, ?_⟩) ?_ ?_
                rotate_left
                · intro w'
                  go_simp
                  with_reducible rfl
                rotate_left
                · simp only [Act.put, List.setIfInBounds_toArray, List.set_cons_zero, List.set_cons_succ, i64_w, i32_w]
                  rfl
                exact norm_ (a' := putAll _ _) (by rfl) (hJ (_, (w_1).heap.size) _ ⟨HBK_5.out, HB_5.out, (HB_1.out).size⟩)
            · refine value_ (w1 := ?_) (v := ?_) (by rfl) rfl ?_ ?_
              rotate_left 2
              · go_simp
                constructor
                · rfl
                · rfl
              have HB_6 := Aside0.mk ((hBd).alloc (hBd).size (.cells #[.int .i64 0, .int .i64 0] 41))
              have HBK_6 := Aside0.mk (heap_alloc_new (w10.drew) (.cells #[.int .i64 0, .int .i64 0] 41))
              refine hK.out _ _ HB_6.out (fun hHeld_6 => ?_)
              clear hK K
              refine norm_ (a' := ?_) ?_ ?_
              rotate_left
              · show Act.put _ (some 13) _ = _
                simp only [Act.put, List.setIfInBounds_toArray, List.set_cons_zero, List.set_cons_succ, i64_w, i32_w]
                rfl
              refine one_ (i := 6) (N := some 122) #[true, true, true, true, true, true, true, true, true, true, true, false, false, false, false, true, false, false] rfl rfl (one_of HT_.out (by kernel_rfl)) (by decide) (fun K hK => ?_)
              refine goes_ Try.func15 (by kernel_rfl) rfl #[.pointer (some ⟨bt, 0, none⟩), .int .i64 x.sp] (by rfl) rfl rfl (by (try simp only [List.map_toArray, List.map_cons, List.map_nil]); first | done | rfl) ?_
              refine (globals_calls ((w10.drew).alloc (.cells #[.int .i64 0, .int .i64 0] 41)) bt L x.sp (HT.out.below HB_6.out) (by have := HSM.out.len; omega)).mono ?_
              rintro _ w_7 ⟨vG, rfl, hvG, hb_7⟩
              obtain ⟨AG, cG, rfl⟩ := Kd.R_slice hvG
              have HCG := Aside0.mk (Kd.R_reads' hvG).2
              have HB_7 := Aside0.mk (below_then (HB_6.out) (HB_6.out).size hb_7)
              have HBK_7 := Aside0.mk ((hb_7.block _ (heap_lt_of HBK_6.out)).trans HBK_6.out)
              refine ⟨_, rfl, ?_⟩
              refine hK.out _ _ HB_7.out (fun hHeld_7 => ?_)
              clear hvG hb_7
              clear hK K
              refine norm_ (a' := ?_) ?_ ?_
              rotate_left
              · show Act.put _ (some 122) _ = _
                simp only [Act.put, List.setIfInBounds_toArray, List.set_cons_zero, List.set_cons_succ, i64_w, i32_w]
                rfl
              refine one_ (i := 11) (N := some 127) #[true, true, true, true, true, true, true, true, true, true, true, true, false, false, false, true, false, false] rfl rfl (one_of HT_.out (by kernel_rfl)) (by decide) (fun K hK => ?_)
              refine goes_ Try.func20 (by kernel_rfl) rfl #[.pointer (some ⟨bt, 0, none⟩), .slice AG (globsOf L x.sp L.length).length cG, .string s.f0, .string s.f1] (by rfl) rfl rfl (by (try simp only [List.map_toArray, List.map_cons, List.map_nil]); first | done | rfl) ?_
              refine (in_calls fuel (w_7) bt L AG cG (globsOf L x.sp L.length) s.f0 s.f1 g1 g2 so (HT.out.below HB_7.out) (HCG.out.2) HCG.out.1 HGW.out.1 HGW.out.2 HIN.out).mono ?_
              rintro _ w_8 ⟨rfl, hb_8⟩
              have HB_8 := Aside0.mk (below_then (HB_7.out) (HB_7.out).size hb_8)
              have HBK_8 := Aside0.mk ((hb_8.block _ (heap_lt_of HBK_7.out)).trans HBK_7.out)
              refine ⟨_, rfl, ?_⟩
              refine hK.out _ _ HB_8.out (fun hHeld_8 => ?_)
              clear hb_8
              clear hK K
              refine norm_ (a' := ?_) ?_ ?_
              rotate_left
              · show Act.put _ (some 127) _ = _
                simp only [Act.put, List.setIfInBounds_toArray, List.set_cons_zero, List.set_cons_succ, i64_w, i32_w]
                rfl
              refine pure_ (i := 12) (N := some 115) (v := ?_) (a' := ?_) #[true, true, true, true, true, true, true, true, true, true, true, true, true, false, false, true, false, false] rfl rfl (any_of HT_.out (by kernel_rfl)) (fun _ _ _ h => h) (Or.inl ⟨by rfl, ?_⟩) ?_ ?_
              rotate_left
              · intro w'
                go_simp
                with_reducible rfl
              rotate_left
              · simp only [Act.put, List.setIfInBounds_toArray, List.set_cons_zero, List.set_cons_succ, i64_w, i32_w]
                rfl
              refine pure_ (i := 13) (N := some 128) (v := ?_) (a' := ?_) #[true, true, true, true, true, true, true, true, true, true, true, true, true, true, false, true, false, false] rfl rfl (any_of HT_.out (by kernel_rfl)) (fun _ _ _ h => h) (Or.inl ⟨by rfl, ?_⟩) ?_ ?_
              rotate_left
              · intro w'
                go_simp
                with_reducible rfl
              rotate_left
              · simp only [Act.put, List.setIfInBounds_toArray, List.set_cons_zero, List.set_cons_succ, i64_w, i32_w]
                rfl
              refine pure_ (i := 14) (N := some 129) (v := ?_) (a' := ?_) #[true, true, true, true, true, true, true, true, true, true, true, true, true, true, true, true, false, false] rfl rfl (any_of HT_.out (by kernel_rfl)) (fun _ _ _ h => h) (Or.inl ⟨by rfl, ?_⟩) ?_ ?_
              rotate_left
              · intro w'
                go_simp
                with_reducible rfl
              rotate_left
              · simp only [Act.put, List.setIfInBounds_toArray, List.set_cons_zero, List.set_cons_succ, i64_w, i32_w]
                rfl
              exact norm_ (a' := putAll _ _) (by rfl) (hJ (_, (w10.drew).heap.size) _ ⟨HBK_8.out, HB_8.out, (hBd).size⟩)
    · subst hw4
      clear hx
      go_upto_region 7 with (fail)
      go_quiet ((fail))
      go_wp2_with fail
      refine (alive_calls _).mono ?_
      rintro e w5 ⟨rfl, hb5⟩
      have HB5 := Aside0.mk (below_then (pw_below_drewN HBW.out nq) (pw_below_drewN HBW.out nq).size hb5)
      clear hb5
      go_wp2
      go_ret
      exact ⟨rfl, HB5.out⟩
end Go.Proofs.Ytmcihkfbgcfccaa.H
