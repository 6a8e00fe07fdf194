import Derived.Test.YtkikbbmgibgamaaHTwo
namespace Go.Proofs.Ytkikbbmgibgamaa.Z
open Go.RowKit Go.Proofs.Ytkikbbmgibgamaa.H Go.Proofs.YtkikbbmgibgamaaW.PrintWords Go.Proofs.YtkikbbmgibgamaaW.PrintLast Go.Proofs.YtkikbbmgibgamaaW.PrintMore
attribute [local go_sem] max2_int min2_int max_two min_two max_three min_three max_four min_four
set_option linter.unusedVariables false
set_option linter.unusedSimpArgs false

/-- How many bytes 0 make a file's bytes begin at a page. -/
def padOf (at_ n : Int) : Int := -((at_ + 30 + n) % 256) % 256
/-- The files, one by one: the error, or what lies ahead and the list. -/
def mkLoop : List S50 → List Int → List Int → Int ⊕ (List Int × List Int)
  | [], b, c => .inr (b, c)
  | x :: l, b, c =>
    if x.f0.size = 0 then .inl 40 else if 256 < x.f0.size then .inl 40 else if 262144 < x.f1.length then .inl 67
    else if 262144 < (b ++ localB x.f0 x.f1 (padOf b.length x.f0.size)).length + (c ++ centralB x.f0 x.f1 b.length).length + 22 then .inl 67
    else mkLoop l (b ++ localB x.f0 x.f1 (padOf b.length x.f0.size)) (c ++ centralB x.f0 x.f1 b.length)
def endB (n at_ len : Int) : List Int := leB 4 101010256 ++ leB 4 0 ++ leB 2 n ++ leB 2 n ++ leB 4 len ++ leB 4 at_ ++ leB 2 0
def zip_Make.f (l0 : List S50) : Option (List Int × Int) :=
  if 256 < l0.length then some ([], 68) else match mkLoop l0 [] [] with
  | .inl e => some ([], e)
  | .inr (b, c) => some (b ++ c ++ endB l0.length b.length c.length, 0)
theorem padOf_bd (at_ n : Int) : 0 ≤ padOf at_ n ∧ padOf at_ n ≤ 255 := by unfold padOf; omega

theorem Two.start (w : World) : Two w ((w.alloc (.cells #[.slice none 0 0] 81)).alloc (.cells #[.slice none 0 0] 81)) w.heap.size (w.heap.size + 1) [] [] := by
  refine ⟨.slice none 0 0, .slice none 0 0, ⟨?_, Nat.le_refl _, Kd.R_nil _ _ _ _ _⟩, ⟨?_, by omega, Kd.R_nil _ _ _ _ _⟩, by omega, fun k h => by simp [Value.ownBlock] at h, ((Below.refl _ w).alloc (Nat.le_refl _) _).alloc (by simp) _⟩
  · rw [Below.heap_alloc _ _ _ (by simp)]; exact heap_alloc_new w _
  · have := heap_alloc_new (w.alloc (.cells #[.slice none 0 0] 81)) (.cells #[.slice none 0 0] 81)
    rw [World.size_alloc] at this
    exact this
theorem len2 {W0 w : World} {g1 g2 : Nat} {xs ys : List Int} (h : Two W0 w g1 g2 xs ys) :
    Calls Try.prog 23 #[.pointer (some ⟨g1, 0, none⟩)] w fun e w' => e = .returned (.int .i64 xs.length) ∧ w = w' := by
  obtain ⟨F, hS, _⟩ := h.first
  exact len_any hS
theorem local2 {W0 w : World} {g1 g2 : Nat} {xs ys d : List Int} {A : Option Addr} {c : Nat} (s : ByteArray) (pad : Int) (h : Two W0 w g1 g2 xs ys)
    (hr : (Kd.int .u8).C W0 A d.length d) (hd : d.length ≤ 262144) (hs : s.size ≤ 256) (hp0 : 0 ≤ pad) (hp : pad ≤ 255) (hl : xs.length ≤ 1000000) :
    Calls Try.prog 24 #[.pointer (some ⟨g1, 0, none⟩), .agg #[.string s, .slice A d.length c], .int .i64 pad] w fun e w' => e = .returned (.tuple #[]) ∧ Two W0 w' g1 g2 (xs ++ localB s d pad) ys ∧ KeepT w w' := by
  obtain ⟨F, hS, hb⟩ := h.first
  exact (local_any s pad hS hr hd hs hp0 hp hl).mono fun e w' ⟨he, hz⟩ => ⟨he, hb _ _ hz⟩
theorem central2 {W0 w : World} {g1 g2 : Nat} {xs ys d : List Int} {A : Option Addr} {c : Nat} (s : ByteArray) (at_ : Int) (h : Two W0 w g1 g2 xs ys)
    (hr : (Kd.int .u8).C W0 A d.length d) (hd : d.length ≤ 262144) (hs : s.size ≤ 256) (hp0 : 0 ≤ at_) (hp : at_ ≤ 1000000) (hl : ys.length ≤ 1000000) :
    Calls Try.prog 25 #[.pointer (some ⟨g2, 0, none⟩), .agg #[.string s, .slice A d.length c], .int .i64 at_] w fun e w' => e = .returned (.tuple #[]) ∧ Two W0 w' g1 g2 xs (ys ++ centralB s d at_) ∧ KeepT w w' := by
  obtain ⟨F, hS, hb⟩ := h.symm.first
  exact (central_any s at_ hS hr hd hs hp0 hp hl).mono fun e w' ⟨he, hz⟩ => ⟨he, (hb _ _ hz).1.symm, (hb _ _ hz).2⟩

theorem put32_2 {W0 w : World} {g1 g2 : Nat} {xs ys : List Int} (n : Int) (h : Two W0 w g1 g2 xs ys) (h0 : 0 ≤ n) (hn : n ≤ 4294967295) (hl : xs.length + 8 ≤ 140737488355328) :
    Calls Try.prog 28 #[.pointer (some ⟨g1, 0, none⟩), .int .u32 n] w fun e w' => e = .returned (.tuple #[]) ∧ Two W0 w' g1 g2 (xs ++ leB 4 n) ys := by
  obtain ⟨F, hS, hb⟩ := h.first
  exact (put32_any n hS h0 hn hl).mono fun e w' ⟨he, hz⟩ => ⟨he, (hb _ _ hz).1⟩
theorem put16_2 {W0 w : World} {g1 g2 : Nat} {xs ys : List Int} (n : Int) (h : Two W0 w g1 g2 xs ys) (h0 : 0 ≤ n) (hn : n ≤ 65535) (hl : xs.length + 8 ≤ 140737488355328) :
    Calls Try.prog 29 #[.pointer (some ⟨g1, 0, none⟩), .int .u16 n] w fun e w' => e = .returned (.tuple #[]) ∧ Two W0 w' g1 g2 (xs ++ leB 2 n) ys := by
  obtain ⟨F, hS, hb⟩ := h.first
  exact (put16_any n hS h0 hn hl).mono fun e w' ⟨he, hz⟩ => ⟨he, (hb _ _ hz).1⟩
theorem raw2 {W0 w : World} {g1 g2 : Nat} {xs ys zs : List Int} {A : Option Addr} {c : Nat} (h : Two W0 w g1 g2 xs zs) (hr : (Kd.int .u8).C w A ys.length ys) (hl : xs.length + ys.length ≤ 140737488355328) :
    Calls Try.prog 26 #[.pointer (some ⟨g1, 0, none⟩), .slice A ys.length c] w fun e w' => e = .returned (.tuple #[]) ∧ Two W0 w' g1 g2 (xs ++ ys) zs := by
  obtain ⟨F, hS, hb⟩ := h.first
  exact (raw_any hS hr hl).mono fun e w' ⟨he, hz⟩ => ⟨he, (hb _ _ hz).1⟩
theorem bytes2 {W0 w : World} {g1 g2 : Nat} {xs ys : List Int} (h : Two W0 w g1 g2 xs ys) (hl : xs.length ≤ 140737488355328) :
    Calls Try.prog 27 #[.pointer (some ⟨g1, 0, none⟩)] w fun e w' => ∃ v : Value, e = .returned v ∧ (Kd.int .u8).R 5 w' w.heap.size (fun _ => True) v xs ∧ Below w.heap.size w w' := by
  obtain ⟨F, hS, hb⟩ := h.first
  exact bytes_any hS hl
theorem drop_rd (l0 : List S50) (x : Int) (h0 : 0 ≤ x) (h1 : x < l0.length) : l0.drop x.toNat = rd_T50 l0 x :: l0.drop (x + 1).toNat := by
  have hlt : x.toNat < l0.length := by omega
  rw [List.drop_eq_getElem_cons hlt, show (x + 1).toNat = x.toNat + 1 by omega]
  simp [rd_T50, List.getD_eq_getElem?_getD, List.getElem?_eq_getElem hlt]
theorem mk_err {l0 : List S50} {e : Int} {r1 : List Int} {r2 : Int} (hm : mkLoop l0 [] [] = .inl e)
    (h : (match mkLoop l0 [] [] with | .inl e => some (([] : List Int), e) | .inr (b, c) => some (b ++ c ++ endB l0.length b.length c.length, 0)) = some (r1, r2)) : r1 = [] ∧ r2 = e := by
  rw [hm] at h
  simp only [Option.some.injEq, Prod.mk.injEq] at h
  exact ⟨h.1.symm, h.2.symm⟩
theorem mk_ok {l0 : List S50} {b c : List Int} {r1 : List Int} {r2 : Int} (hm : mkLoop l0 [] [] = .inr (b, c))
    (h : (match mkLoop l0 [] [] with | .inl e => some (([] : List Int), e) | .inr (b, c) => some (b ++ c ++ endB l0.length b.length c.length, 0)) = some (r1, r2)) : r1 = b ++ c ++ endB l0.length b.length c.length ∧ r2 = 0 := by
  rw [hm] at h
  simp only [Option.some.injEq, Prod.mk.injEq] at h
  exact ⟨h.1.symm, h.2.symm⟩

theorem size_of_nil {s : ByteArray} (h : s.toList = []) : s.size = 0 := by
  rw [ByteArray.toList_eq] at h
  rw [← data_length, h]; rfl
theorem size_of_some {s : ByteArray} (h : ¬ s.toList = []) : ¬ s.size = 0 := fun e => h (by
  rw [ByteArray.toList_eq]
  exact List.eq_nil_of_length_eq_zero (by rw [data_length]; exact e))

theorem localB_length (s : ByteArray) (d : List Int) (pad : Int) : (localB s d pad).length = 30 + s.size + pad.toNat + d.length := by
  simp only [localB, List.length_append, leB_length, bytesOf_length, List.length_replicate] <;> omega
theorem centralB_length (s : ByteArray) (d : List Int) (at_ : Int) : (centralB s d at_).length = 46 + s.size := by
  simp only [centralB, List.length_append, leB_length, bytesOf_length] <;> omega
set_option maxHeartbeats 4000000 in
set_option maxRecDepth 100000 in
theorem zip_Make.calls (A0 : Option Addr) (c0 : Nat) (l0 : List (S50)) (r1 : List Int) (r2 : Int) (w : World) (hr0 : Kd.C k50 w A0 l0.length l0) (hc0 : l0.length ≤ c0) (h : zip_Make.f l0 = some (r1, r2)) :
    Calls Try.prog 15 #[.slice A0 l0.length c0] w fun e w' => ∃ v0_ : Value, e = .returned (.tuple #[v0_, .int .i64 r2]) ∧ Kd.R (Kd.int .u8) 5 w' w.heap.size (fun _ => True) v0_ r1 ∧ Below w.heap.size w w' := by
  by_cases hlen : 256 < l0.length
  · rw [zip_Make.f, if_pos hlen] at h
    simp only [Option.some.injEq, Prod.mk.injEq] at h
    obtain ⟨rfl, rfl⟩ := h
    clear hr0
    go_enter Try.func15, Try.ntmps15
    go_wp2
    go_ret2
    exact ⟨_, rfl, Kd.R_nil _ _ _ _ _, Below.refl _ _⟩
  · rw [zip_Make.f, if_neg hlen] at h
    have HH := Aside0.mk h
    have HR0 := Aside0.mk hr0
    have HC0 := Aside0.mk hc0
    have hlen' : l0.length ≤ 256 := by omega
    clear h hr0 hc0 hlen
    go_enter Try.func15, Try.ntmps15
    go_wp2_with (go_at_call 22; refine (new_any _).mono ?_; rintro e w' ⟨rfl, rfl⟩)
    go_loopw [18] (fun v18 wr => ∃ (x : Int) (b c : List Int), 0 ≤ x ∧ x ≤ l0.length ∧ v18 = .int .i64 x ∧ Aside0 (mkLoop l0 [] [] = mkLoop (l0.drop x.toNat) b c) ∧ Aside0 (b.length + c.length + 22 ≤ 262144) ∧ Aside0 (Two w wr w.heap.size (w.heap.size + 1) b c)) (fun v18 _ => l0.length - (intOf v18).toNat)
    case atStart => exact ⟨0, [], [], by omega, by omega, rfl, ⟨rfl⟩, ⟨by simp⟩, ⟨Two.start w⟩⟩
    case round =>
      obtain ⟨x, b, c, hx0, hx1, rfl, HM, HBC, HT⟩ := hrel
      by_cases hlt : x < l0.length
      · have hp := hx0
        have hq := hlt
        obtain ⟨ad, A1, c1, e1, hy0, hy1, hl1, hi1⟩ := at_T50 HR0.out x hp hq
        cases e1
        replace hy0 := (HT.out.down.cell (World.block_lt_of_cell? w _ hy0)).trans hy0
        replace hy1 := (HT.out.down.cell (World.block_lt_of_cell? w _ hy1)).trans hy1
        have HD := Aside0.mk hi1
        have HDC := Aside0.mk hl1
        obtain ⟨s, hs⟩ : ∃ s, (rd_T50 l0 x).f0 = s := ⟨_, rfl⟩
        obtain ⟨d, hd⟩ : ∃ d, (rd_T50 l0 x).f1 = d := ⟨_, rfl⟩
        rw [hs] at hy0
        rw [hd] at hy1 HD HDC
        have HSN := Aside0.mk hs
        have HDN := Aside0.mk hd
        clear hi1 hl1 hs hd hp hq
        have HMX := HM.out
        rw [drop_rd l0 x hx0 hlt, mkLoop, HSN.out, HDN.out] at HMX
        have HM2 := Aside0.mk HMX
        clear HM HMX HSN HDN
        by_cases e0 : s.toList = []
        · have e1 := size_of_nil e0
          have HE := HM2.out
          rw [if_pos e1] at HE
          obtain ⟨rfl, rfl⟩ := mk_err HE HH.out
          clear HE HM2 HH e1
          go_wp2
          go_ret2
          exact ⟨_, rfl, Kd.R_nil _ _ _ _ _, HT.out.down.alloc HT.out.down.size _⟩
        · have e1 := size_of_some e0
          have e2 : s.toList.isEmpty = false := by simpa using e0
          have HE := HM2.out
          rw [if_neg e1] at HE
          by_cases e3 : 256 < s.size
          · rw [if_pos e3] at HE
            obtain ⟨rfl, rfl⟩ := mk_err HE HH.out
            clear HE HM2 HH e1
            go_wp2
            go_ret2
            exact ⟨_, rfl, Kd.R_nil _ _ _ _ _, HT.out.down.alloc HT.out.down.size _⟩
          · rw [if_neg e3] at HE
            by_cases e4 : 262144 < d.length
            · rw [if_pos e4] at HE
              obtain ⟨rfl, rfl⟩ := mk_err HE HH.out
              clear HE HM2 HH e1
              go_wp2
              go_ret2
              exact ⟨_, rfl, Kd.R_nil _ _ _ _ _, HT.out.down.alloc HT.out.down.size _⟩
            · rw [if_neg e4] at HE
              have HE2 := Aside0.mk HE
              have HT1 := Aside0.mk (HT.out.alloc (.cells #[.string s, .slice A1 d.length c1] 50))
              have HBOX := Aside0.mk (heap_alloc_new wr (.cells #[.string s, .slice A1 d.length c1] 50))
              have hbl : b.length ≤ 262144 := by have := HBC.out; omega
              have hcl : c.length ≤ 262144 := by have := HBC.out; omega
              have e3' : s.size ≤ 256 := by omega
              have e4' : d.length ≤ 262144 := by omega
              clear HE HM2 e1 HT e3 e4
              go_wp2_with (go_at_call 23; refine (len2 HT1.out).mono ?_; rintro e w' ⟨rfl, rfl⟩)
              refine (local2 s (-(((b.length : Int) + 30 + (s.size : Int)) % 256) % 256) HT1.out HD.out e4' e3' (by omega) (by omega) (by omega)).mono ?_
              rintro e w1 ⟨rfl, hz, hk⟩
              have hq1 := hk _ _ _ _ HBOX.out (by decide) (by decide)
              have hz0 : w1.cell? ⟨wr.heap.size, 0, none⟩ = some (.string s) := (blk_cell hq1 0).trans rfl
              have hz1 : w1.cell? ⟨wr.heap.size, 1, none⟩ = some (.slice A1 d.length c1) := (blk_cell hq1 1).trans rfl
              generalize hb2 : b ++ localB s d (-(((b.length : Int) + 30 + (s.size : Int)) % 256) % 256) = b2 at hz
              have HT2 := Aside0.mk hz
              have HB2 := Aside0.mk hb2
              clear hz hk hq1 hb2 HT1 HBOX
              go_wp2_with fail
              refine (central2 s b.length HT2.out HD.out e4' e3' (by omega) (by omega) (by omega)).mono ?_
              rintro e w2 ⟨rfl, hz, hk⟩
              generalize hc2 : c ++ centralB s d b.length = c2 at hz
              have HT3 := Aside0.mk hz
              have HC2 := Aside0.mk hc2
              clear hz hk hc2 HT2 hz0 hz1
              go_wp2_with fail
              refine (len2 HT3.out).mono ?_
              rintro e w3 ⟨rfl, rfl⟩
              go_wp2_with fail
              refine (len2 HT3.out.symm).mono ?_
              rintro e w3 ⟨rfl, rfl⟩
              dsimp only
              have HE3 := HE2.out
              rw [show padOf (b.length : Int) (s.size : Int) = -(((b.length : Int) + 30 + (s.size : Int)) % 256) % 256 from rfl, HB2.out, HC2.out] at HE3
              have HLb : b2.length ≤ 1000000 := by rw [← HB2.out, List.length_append, localB_length]; omega
              have HLc : c2.length ≤ 1000000 := by rw [← HC2.out, List.length_append, centralB_length]; omega
              by_cases e5 : 262144 < b2.length + c2.length + 22
              · rw [if_pos e5] at HE3
                obtain ⟨rfl, rfl⟩ := mk_err HE3 HH.out
                have e6 : (262144 : Int) < (b2.length : Int) + (c2.length : Int) + 22 := by omega
                have HLb' : (b2.length : Int) ≤ 1000000 := by omega
                have HLc' : (c2.length : Int) ≤ 1000000 := by omega
                clear HE3 HH HE2 e5 HLb HLc
                go_wp2
                go_ret2
                exact ⟨_, rfl, Kd.R_nil _ _ _ _ _, HT3.out.down⟩
              · rw [if_neg e5] at HE3
                have HE4 := Aside0.mk HE3
                have e6 : decide ((262144 : Int) < (b2.length : Int) + (c2.length : Int) + 22) = false := decide_eq_false (by omega)
                have HLb' : (b2.length : Int) ≤ 1000000 := by omega
                have HLc' : (c2.length : Int) ≤ 1000000 := by omega
                have E7 := Aside0.mk (show b2.length + c2.length + 22 ≤ 262144 by omega)
                clear HE3 HE2 e5 HLb HLc
                go_wp2
                go_roundw
                case rel => exact ⟨x + 1, b2, c2, by omega, by omega, by go_num, HE4, E7, HT3⟩
                case measure => simp [intOf]; omega
      · have hxe : x.toNat = l0.length := by omega
        have HMX := HM.out
        rw [hxe, List.drop_length, mkLoop] at HMX
        have HRR := mk_ok HMX HH.out
        have HR12 := Aside0.mk HRR
        have hbl : b.length ≤ 262144 := by have := HBC.out; omega
        have hcl : c.length ≤ 262144 := by have := HBC.out; omega
        clear HM HMX HRR HH hxe
        go_wp2_with fail
        refine (len2 HT.out).mono ?_
        rintro e w1 ⟨rfl, rfl⟩
        go_wp2_with fail
        refine (bytes2 HT.out.symm (by omega)).mono ?_
        rintro e w1 ⟨vc, rfl, hvc, hb1⟩
        obtain ⟨Ac, cc, rfl⟩ := Kd.R_slice hvc
        have HT1 := Aside0.mk (HT.out.below hb1)
        have HC1 := Aside0.mk (Kd.R_reads' hvc).2.2
        clear hb1 hvc HT
        go_wp2_with fail
        refine (raw2 HT1.out HC1.out (by omega)).mono ?_
        rintro e w2 ⟨rfl, hz⟩
        have HS := Aside0.mk hz
        clear hz HT1 HC1
        go_wp2_with (first | (go_at_call 28; refine (put32_2 _ HS.out (by omega) (by omega) ?hl).mono ?_; (case hl => (try simp only [List.length_append, leB_length]); omega); rintro e w' ⟨rfl, hz⟩; have n0 := Aside0.mk hz; clear HS hz; have HS := n0; clear n0) | (go_at_call 29; refine (put16_2 _ HS.out (by omega) (by omega) ?hl).mono ?_; (case hl => (try simp only [List.length_append, leB_length]); omega); rintro e w' ⟨rfl, hz⟩; have n0 := Aside0.mk hz; clear HS hz; have HS := n0; clear n0) | (go_at_call 23; refine (len2 HS.out.symm).mono ?_; rintro e w' ⟨rfl, rfl⟩))
        have hdn := HS.out.down
        refine (bytes2 HS.out ?_).mono ?_
        · (try simp only [List.length_append, leB_length]); omega
        rintro e w3 ⟨v, rfl, hv, hb⟩
        have HV := Aside0.mk hv
        have HB := Aside0.mk (hdn.trans ⟨hb.os, hb.tape, hb.output, hb.size, fun k hk => hb.block k (Nat.lt_of_lt_of_le hk hdn.size)⟩)
        have HSZ := Aside0.mk hdn.size
        clear hv hb hdn HS
        go_wp2_with fail
        go_ret2
        refine ⟨v, ?_, ?_, HB.out⟩
        · rw [HR12.out.2]; rfl
        · rw [HR12.out.1]
          have hz := Kd.R_lower HV.out HSZ.out
          simpa only [endB, List.append_assoc] using hz
end Go.Proofs.Ytkikbbmgibgamaa.Z
