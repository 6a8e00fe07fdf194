import Derived.Test.YtkikbbmgibgamaaHBuf3
namespace Go.Proofs.Ytkikbbmgibgamaa.Z
open Go.RowKit Go.Proofs.Ytkikbbmgibgamaa.H Go.Proofs.YtkikbbmgibgamaaW.PrintWords Go.Proofs.YtkikbbmgibgamaaW.PrintLast Go.Proofs.YtkikbbmgibgamaaW.PrintMore
attribute [local go_sem] max2_int min2_int max_two min_two max_three min_three max_four min_four
set_option linter.unusedVariables false
set_option linter.unusedSimpArgs false

/-- A file's entry in the list. -/
def centralB (s : ByteArray) (d : List Int) (at_ : Int) : List Int :=
  leB 4 33639248 ++ (leB 2 10 ++ leB 2 10 ++ leB 2 0 ++ leB 2 0 ++ leB 2 0 ++ leB 2 0) ++ leB 4 0 ++ leB 4 d.length ++ leB 4 d.length ++ leB 2 s.size ++ (leB 2 0 ++ leB 2 0 ++ leB 2 0 ++ leB 2 0) ++ leB 4 0 ++ leB 4 at_ ++ bytesOf s
def sixB : Nat → List Int
  | 0 => []
  | 1 => leB 2 10
  | 2 => leB 2 10 ++ leB 2 10
  | 3 => leB 2 10 ++ leB 2 10 ++ leB 2 0
  | 4 => leB 2 10 ++ leB 2 10 ++ leB 2 0 ++ leB 2 0
  | 5 => leB 2 10 ++ leB 2 10 ++ leB 2 0 ++ leB 2 0 ++ leB 2 0
  | _ => leB 2 10 ++ leB 2 10 ++ leB 2 0 ++ leB 2 0 ++ leB 2 0 ++ leB 2 0
theorem sixB_le (k : Nat) : (sixB k).length ≤ 12 := by
  unfold sixB
  split <;> simp [leB_length]
def six (k : Nat) : Int := if k < 2 then 10 else 0
theorem six_bd (k : Nat) : 0 ≤ six k ∧ six k ≤ 65535 := by unfold six; split <;> omega
theorem six_at (k : Nat) (hk : k < 6) : (#[Value.int IntKind.u16 10, Value.int IntKind.u16 10, Value.int IntKind.u16 0, Value.int IntKind.u16 0, Value.int IntKind.u16 0, Value.int IntKind.u16 0] : Array Value)[k]? = some (.int .u16 (six k)) := by
  obtain rfl | rfl | rfl | rfl | rfl | rfl : k = 0 ∨ k = 1 ∨ k = 2 ∨ k = 3 ∨ k = 4 ∨ k = 5 := by omega
  all_goals rfl
theorem sixB_succ (k : Nat) (hk : k < 6) : sixB (k + 1) = sixB k ++ leB 2 (six k) := by
  obtain rfl | rfl | rfl | rfl | rfl | rfl : k = 0 ∨ k = 1 ∨ k = 2 ∨ k = 3 ∨ k = 4 ∨ k = 5 := by omega
  all_goals simp [sixB, six]
def zerosB : Nat → List Int
  | 0 => []
  | k + 1 => zerosB k ++ leB 2 0
theorem zerosB_length : ∀ k, (zerosB k).length = 2 * k
  | 0 => rfl
  | k + 1 => by simp only [zerosB, List.length_append, leB_length, zerosB_length k]; omega
theorem zerosB_succ (k : Nat) : zerosB (k + 1) = zerosB k ++ leB 2 0 := rfl

set_option maxHeartbeats 2000000 in
theorem central_any {W0 w0 w : World} {g : Nat} {F : Nat → Prop} {xs d : List Int} {A : Option Addr} {c : Nat} (s : ByteArray) (at_ : Int) (hS : Step W0 g F w0 w xs)
    (hr : (Kd.int .u8).C W0 A d.length d) (hd : d.length ≤ 262144) (hs : s.size ≤ 256) (hp0 : 0 ≤ at_) (hp : at_ ≤ 1000000) (hl : xs.length ≤ 1000000) :
    Calls Try.prog 25 #[.pointer (some ⟨g, 0, none⟩), .agg #[.string s, .slice A d.length c], .int .i64 at_] w fun e w' => e = .returned (.tuple #[]) ∧ Step W0 g F w0 w' (xs ++ centralB s d at_) := by
  obtain ⟨F1, hs1, hlt, hty, _, hback⟩ := (hS.alloc (.cells #[.string s, .slice A d.length c] 50)).split
  have hb0 : (w.alloc (.cells #[.string s, .slice A d.length c] 50)).heap[w.heap.size]? = some (.cells #[.string s, .slice A d.length c] 50 (0, 0)) := heap_alloc_new w _
  have hnF : ¬ F1 w.heap.size := hty _ _ _ _ hb0 (by decide) (by decide)
  have HS := Aside0.mk hs1
  have HB := Aside0.mk hb0
  have HF := Aside0.mk hnF
  have HR := Aside0.mk hr
  have HL := Aside0.mk hl
  have HBK := Aside0.mk hback
  clear hS hr hl hback hs1 hb0 hnF hlt hty
  go_enter Try.func25, Try.ntmps25
  go_wp2_with (go_at_call 28; refine (put32_any _ HS.out (by omega) (by omega) ?hl).mono ?_; (case hl => have := HL.out; (try simp only [List.length_append, leB_length]); omega); rintro e w' ⟨rfl, hz⟩; have n0 := Aside0.mk hz; clear HS hz; have HS := n0; clear n0)
  obtain ⟨wL, rfl⟩ : ∃ wL : World, wL = w' := ⟨_, rfl⟩
  obtain ⟨F2, hs2, _, hty2, hsub2, hback2⟩ := (HS.out.alloc (.cells #[.int .u16 10, .int .u16 10, .int .u16 0, .int .u16 0, .int .u16 0, .int .u16 0] 67)).split
  have hwsz := HS.out.size
  rw [World.size_alloc] at hwsz
  have hq0 : (wL.alloc (.cells #[.int .u16 10, .int .u16 10, .int .u16 0, .int .u16 0, .int .u16 0, .int .u16 0] 67)).heap[wL.heap.size]? = some (.cells #[.int .u16 10, .int .u16 10, .int .u16 0, .int .u16 0, .int .u16 0, .int .u16 0] 67 (0, 0)) := heap_alloc_new wL _
  have HQ := Aside0.mk hq0
  have HQF := Aside0.mk (hty2 _ _ _ _ hq0 (by decide) (by decide))
  have HB2 := Aside0.mk ((Below.heap_alloc wL (.cells #[.int .u16 10, .int .u16 10, .int .u16 0, .int .u16 0, .int .u16 0, .int .u16 0] 67) w.heap.size (by omega)).trans (HS.out.heapOf HB.out HF.out))
  have HF2 := Aside0.mk (show ¬ F2 w.heap.size from fun hk => (hsub2 _ hk).elim HF.out (fun h => by rw [World.size_alloc] at h; omega))
  have HBK2 := Aside0.mk (fun w2 ys (h : Step W0 g F2 _ w2 ys) => HBK.out _ _ (hback2 w2 ys h))
  have HS2 := Aside0.mk hs2
  clear hs2 hty2 hsub2 hback2 HS HB HF HBK hq0 hwsz
  go_loopw [12] (fun v12 wr => ∃ k : Nat, k ≤ 6 ∧ v12 = .int .i64 k ∧ Aside0 (Step W0 g F2 (wL.alloc (.cells #[.int .u16 10, .int .u16 10, .int .u16 0, .int .u16 0, .int .u16 0, .int .u16 0] 67)) wr (xs ++ leB 4 33639248 ++ sixB k))) (fun v12 _ => 6 - (intOf v12).toNat)
  case atStart => exact ⟨0, by omega, rfl, ⟨by simpa [sixB] using HS2.out⟩⟩
  case round =>
    obtain ⟨k, hk, rfl, HS3⟩ := hrel
    by_cases hlt : k < 6
    · have hcell := (HS3.out.cellOf HQ.out HQF.out k).trans (six_at k hlt)
      have hfb := six_bd k
      have HK := Aside0.mk (sixB_le k)
      go_wp2_with (go_at_call 29; refine (put16_any _ HS3.out hfb.1 hfb.2 ?hl).mono ?_; (case hl => have := HL.out; have := HK.out; (try simp only [List.length_append, leB_length]); omega); rintro e w' ⟨rfl, hz⟩; have HS4 := Aside0.mk hz; clear hz)
      go_roundw
      case rel => exact ⟨k + 1, by omega, by go_num, ⟨by rw [sixB_succ k hlt, ← List.append_assoc]; exact HS4.out⟩⟩
      case measure => simp [intOf]; omega
    · obtain rfl : k = 6 := by omega
      have hx0 := (HS3.out.cellOf HB2.out HF2.out 0).trans rfl
      have hx1 := (HS3.out.cellOf HB2.out HF2.out 1).trans rfl
      have kb := fun W => print_bytes (P := Try.prog) 9 22 5 Try.underlying9 Try.underlying22 Try.underlying5 s W
      have HLE : ∀ j, j ≤ 6 → (sixB j).length ≤ 12 := fun j _ => sixB_le j
      have HK := Aside0.mk (sixB_le 6)
      clear HLE
      have LN := leB_length
      have HBs := bytesOf_length s
      have HLN := Aside0.mk LN
      have HBS := Aside0.mk HBs
      clear LN HBs
      go_wp2_with (first | (go_at_call 28; refine (put32_any _ HS3.out (by omega) (by omega) ?hl).mono ?_; (case hl => have := HL.out; have := HK.out; (try simp only [List.length_append, leB_length]); omega); rintro e w' ⟨rfl, hz⟩; have n0 := Aside0.mk hz; clear HS3 hz hx0 hx1; have HS3 := n0; clear n0; have hx0 := (HS3.out.cellOf HB2.out HF2.out 0).trans rfl; have hx1 := (HS3.out.cellOf HB2.out HF2.out 1).trans rfl) | (go_at_call 29; refine (put16_any _ HS3.out (by omega) (by omega) ?hl).mono ?_; (case hl => have := HL.out; have := HK.out; (try simp only [List.length_append, leB_length]); omega); rintro e w' ⟨rfl, hz⟩; have n0 := Aside0.mk hz; clear HS3 hz hx0 hx1; have HS3 := n0; clear n0; have hx0 := (HS3.out.cellOf HB2.out HF2.out 0).trans rfl; have hx1 := (HS3.out.cellOf HB2.out HF2.out 1).trans rfl))
      obtain ⟨ys, hys⟩ : ∃ ys, ys = xs ++ leB 4 33639248 ++ sixB 6 ++ leB 4 0 ++ leB 4 d.length ++ leB 4 d.length ++ leB 2 s.size := ⟨_, rfl⟩
      have HS4 := HS3.out
      rw [← hys] at HS4
      have HY := Aside0.mk hys
      have HYL := Aside0.mk (show ys.length ≤ 1000100 by rw [hys]; have := HL.out; have := HK.out; simp only [List.length_append, leB_length]; omega)
      have HS5 := Aside0.mk HS4
      clear HS3 HS4 hys hx0 hx1
      go_loopw [40] (fun v40 wr => ∃ k : Nat, k ≤ 4 ∧ v40 = .int .i64 k ∧ Aside0 (Step W0 g F2 (wL.alloc (.cells #[.int .u16 10, .int .u16 10, .int .u16 0, .int .u16 0, .int .u16 0, .int .u16 0] 67)) wr (ys ++ zerosB k))) (fun v40 _ => 4 - (intOf v40).toNat)
      case atStart => exact ⟨0, by omega, rfl, ⟨by simpa [zerosB] using HS5.out⟩⟩
      case round =>
        obtain ⟨k, hk, rfl, HS6⟩ := hrel
        have HZ := Aside0.mk (zerosB_length k)
        by_cases hlt : k < 4
        · go_wp2_with (go_at_call 29; refine (put16_any _ HS6.out (by omega) (by omega) ?hl).mono ?_; (case hl => have := HYL.out; have := HZ.out; (try simp only [List.length_append, leB_length]); omega); rintro e w' ⟨rfl, hz⟩; have HS7 := Aside0.mk hz; clear hz)
          go_roundw
          case rel => exact ⟨k + 1, by omega, by go_num, ⟨by rw [zerosB_succ, ← List.append_assoc]; exact HS7.out⟩⟩
          case measure => simp [intOf]; omega
        · obtain rfl : k = 4 := by omega
          have hx0 := (HS6.out.cellOf HB2.out HF2.out 0).trans rfl
          go_wp2_with (go_at_call 28; refine (put32_any _ HS6.out (by omega) (by omega) ?hl).mono ?_; (case hl => have := HYL.out; have := HZ.out; (try simp only [List.length_append, leB_length]); omega); rintro e w' ⟨rfl, hz⟩; have n0 := Aside0.mk hz; clear HS6 hz hx0; have HS6 := n0; clear n0; have hx0 := (HS6.out.cellOf HB2.out HF2.out 0).trans rfl)
          refine (raw_name s hs HS6.out ?_).mono ?_
          · have := HYL.out; have := HZ.out; (try simp only [List.length_append, leB_length]); omega
          rintro e w' ⟨rfl, hz⟩
          have HE := Aside0.mk (HBK2.out _ _ hz)
          clear HS6 hz hx0 kb
          go_wp2_with fail
          go_end0
          refine ⟨rfl, ?_⟩
          have hz := HE.out
          rw [HY.out] at hz
          simpa only [centralB, sixB, zerosB, List.append_assoc, List.nil_append] using hz
end Go.Proofs.Ytkikbbmgibgamaa.Z
