import Derived.Test.YtkikbbmgibgamaaHBuf2
namespace Go.Proofs.Ytkikbbmgibgamaa.Z
open Go.RowKit Go.Proofs.Ytkikbbmgibgamaa.H Go.Proofs.YtkikbbmgibgamaaW.PrintWords Go.Proofs.YtkikbbmgibgamaaW.PrintLast Go.Proofs.YtkikbbmgibgamaaW.PrintMore
attribute [local go_sem] max2_int min2_int max_two min_two max_three min_three max_four min_four
set_option linter.unusedVariables false
set_option linter.unusedSimpArgs false

theorem Step.kept {W0 w w' : World} {g : Nat} {F : Nat → Prop} {xs : List Int} (h : Step W0 g F w w' xs) : Kept w w' F := by
  obtain ⟨v, h1, h2, h3, h4⟩ := h.out
  exact h3
theorem Step.down {W0 w w' : World} {g : Nat} {F : Nat → Prop} {xs : List Int} (h : Step W0 g F w w' xs) : Below W0.heap.size W0 w' := by
  obtain ⟨v, h1, h2, h3, h4⟩ := h.out
  exact h4
theorem Step.heapOf {W0 w w' : World} {g : Nat} {F : Nat → Prop} {xs : List Int} (h : Step W0 g F w w' xs) {b : Nat} {o : Obj} (hb : w.heap[b]? = some o) (hF : ¬ F b) : w'.heap[b]? = some o :=
  blk_kept hb h.kept hF
theorem Step.cellOf {W0 w w' : World} {g : Nat} {F : Nat → Prop} {xs : List Int} (h : Step W0 g F w w' xs) {b t : Nat} {cs : Array Value} (hb : w.heap[b]? = some (.cells cs t (0, 0))) (hF : ¬ F b) (i : Nat) : w'.cell? ⟨b, i, none⟩ = cs[i]? :=
  blk_cell (h.heapOf hb hF) i
/-- From here on: a footprint of now. -/
theorem Step.split {W0 w w1 : World} {g : Nat} {F : Nat → Prop} {xs : List Int} (h : Step W0 g F w w1 xs) :
    ∃ F1 : Nat → Prop, Step W0 g F1 w1 w1 xs ∧ (∀ k, F1 k → k < w1.heap.size) ∧ (∀ b t cs fr, w1.heap[b]? = some (.cells cs t fr) → t ≠ 81 → t ≠ 5 → ¬ F1 b) ∧ (∀ k, F1 k → F k ∨ w.heap.size ≤ k) ∧ ∀ w2 ys, Step W0 g F1 w1 w2 ys → Step W0 g F w w2 ys := by
  obtain ⟨v, h1, h2, h3, h4⟩ := h.out
  refine ⟨Foots g v, h1.step h4, fun k hk => ?_, fun b t cs fr hb ht1 ht2 hF => ?_, h2, fun w2 ys hS => ?_⟩
  · rcases hk with rfl | hk
    · exact blk_lt h1.blk
    · exact Kd.R_lt h1.row k hk
  · rcases hF with rfl | hF
    · rw [h1.blk] at hb
      injection hb with hb
      injection hb with _ hb _
      exact ht1 hb.symm
    · obtain ⟨cells, hc⟩ := Kd.R_typed h1.row b hF
      rw [hc] at hb
      injection hb with hb
      injection hb with _ hb _
      exact ht2 hb.symm
  · obtain ⟨v2, k1, k2, k3, k4⟩ := hS.out
    refine ⟨v2, k1, fun k hk => ?_, ?_, k4⟩
    · rcases k2 k hk with hk | hk
      · exact h2 k hk
      · have := h3.1
        exact .inr (by omega)
    · exact h3.then_ k3 h2

/-- A file's own header and its bytes. -/
def localB (s : ByteArray) (d : List Int) (pad : Int) : List Int :=
  leB 4 67324752 ++ (leB 2 10 ++ leB 2 0 ++ leB 2 0 ++ leB 2 0 ++ leB 2 0) ++ leB 4 0 ++ leB 4 d.length ++ leB 4 d.length ++ leB 2 s.size ++ leB 2 pad ++ bytesOf s ++ List.replicate pad.toNat 0 ++ d
def fiveB : Nat → List Int
  | 0 => []
  | 1 => leB 2 10
  | 2 => leB 2 10 ++ leB 2 0
  | 3 => leB 2 10 ++ leB 2 0 ++ leB 2 0
  | 4 => leB 2 10 ++ leB 2 0 ++ leB 2 0 ++ leB 2 0
  | _ => leB 2 10 ++ leB 2 0 ++ leB 2 0 ++ leB 2 0 ++ leB 2 0
theorem fiveB_le (k : Nat) : (fiveB k).length ≤ 10 := by
  unfold fiveB
  split <;> simp [leB_length]
def five (k : Nat) : Int := if k = 0 then 10 else 0
theorem five_bd (k : Nat) : 0 ≤ five k ∧ five k ≤ 65535 := by unfold five; split <;> omega
theorem five_at (k : Nat) (hk : k < 5) : (#[Value.int IntKind.u16 10, Value.int IntKind.u16 0, Value.int IntKind.u16 0, Value.int IntKind.u16 0, Value.int IntKind.u16 0] : Array Value)[k]? = some (.int .u16 (five k)) := by
  obtain rfl | rfl | rfl | rfl | rfl : k = 0 ∨ k = 1 ∨ k = 2 ∨ k = 3 ∨ k = 4 := by omega
  all_goals rfl
theorem fiveB_succ (k : Nat) (hk : k < 5) : fiveB (k + 1) = fiveB k ++ leB 2 (five k) := by
  obtain rfl | rfl | rfl | rfl | rfl : k = 0 ∨ k = 1 ∨ k = 2 ∨ k = 3 ∨ k = 4 := by omega
  all_goals simp [fiveB, five]

theorem raw_len {W0 w0 w : World} {g : Nat} {F : Nat → Prop} {xs ys : List Int} {A : Option Addr} {c n : Nat} (hn : ys.length = n) (hS : Step W0 g F w0 w xs) (hr : (Kd.int .u8).C w A ys.length ys) (hl : xs.length + n ≤ 140737488355328) :
    Calls Try.prog 26 #[.pointer (some ⟨g, 0, none⟩), .slice A n c] w fun e w' => e = .returned (.tuple #[]) ∧ Step W0 g F w0 w' (xs ++ ys) := by
  subst hn
  exact raw_any hS hr hl
/-- The bytes of a name, laid ahead of a call. -/
theorem raw_name {W0 w0 w : World} {g : Nat} {F : Nat → Prop} {xs : List Int} {c : Nat} (s : ByteArray) (hs : s.size ≤ 256) (hS : Step W0 g F w0 w xs) (hl : xs.length + 256 ≤ 140737488355328) :
    Calls Try.prog 26 #[.pointer (some ⟨g, 0, none⟩), .slice (some ⟨w.heap.size, 0, none⟩) s.size c] (Lib.bytesWorld w 5 s) fun e w' => e = .returned (.tuple #[]) ∧ Step W0 g F w0 w' (xs ++ bytesOf s) :=
  raw_len (bytesOf_length s) (hS.below (bytes_below (Below.refl _ _) (Nat.le_refl _) 5 s)) (by rw [bytesOf_length]; exact Kd.C_of_reads (d := (0 : Int)) (h1 := fun _ => rfl) (bytes_reads w 5 s (by omega))) (by omega)
theorem raw_data {W0 w0 w : World} {g : Nat} {F : Nat → Prop} {xs d : List Int} {A : Option Addr} {c : Nat} (hS : Step W0 g F w0 w xs) (hr : (Kd.int .u8).C W0 A d.length d) (hl : xs.length + d.length ≤ 140737488355328) :
    Calls Try.prog 26 #[.pointer (some ⟨g, 0, none⟩), .slice A d.length c] w fun e w' => e = .returned (.tuple #[]) ∧ Step W0 g F w0 w' (xs ++ d) :=
  raw_any hS (Kd.C_below hr hS.down) hl

set_option maxHeartbeats 2000000 in
theorem local_any {W0 w0 w : World} {g : Nat} {F : Nat → Prop} {xs d : List Int} {A : Option Addr} {c : Nat} (s : ByteArray) (pad : Int) (hS : Step W0 g F w0 w xs)
    (hr : (Kd.int .u8).C W0 A d.length d) (hd : d.length ≤ 262144) (hs : s.size ≤ 256) (hp0 : 0 ≤ pad) (hp : pad ≤ 255) (hl : xs.length ≤ 1000000) :
    Calls Try.prog 24 #[.pointer (some ⟨g, 0, none⟩), .agg #[.string s, .slice A d.length c], .int .i64 pad] w fun e w' => e = .returned (.tuple #[]) ∧ Step W0 g F w0 w' (xs ++ localB s d pad) := by
  obtain ⟨F1, hs1, hlt, hty, _, hback⟩ := (hS.alloc (.cells #[.string s, .slice A d.length c] 50)).split
  have hb0 : (w.alloc (.cells #[.string s, .slice A d.length c] 50)).heap[w.heap.size]? = some (.cells #[.string s, .slice A d.length c] 50 (0, 0)) := heap_alloc_new w _
  have hnF : ¬ F1 w.heap.size := hty _ _ _ _ hb0 (by decide) (by decide)
  have HS := Aside0.mk hs1
  have HB := Aside0.mk hb0
  have HF := Aside0.mk hnF
  have HR := Aside0.mk hr
  have HL := Aside0.mk hl
  have HBK := Aside0.mk hback
  clear hS hr hl hback hs1 hb0 hnF hlt hty
  go_enter Try.func24, Try.ntmps24
  go_wp2_with (go_at_call 28; refine (put32_any _ HS.out (by omega) (by omega) ?hl).mono ?_; (case hl => have := HL.out; (try simp only [List.length_append, leB_length]); omega); rintro e w' ⟨rfl, hz⟩; have n0 := Aside0.mk hz; clear HS hz; have HS := n0; clear n0)
  obtain ⟨F2, hs2, _, hty2, hsub2, hback2⟩ := (HS.out.alloc (.cells #[.int .u16 10, .int .u16 0, .int .u16 0, .int .u16 0, .int .u16 0] 67)).split
  have hwsz := HS.out.size
  rw [World.size_alloc] at hwsz
  have hq0 : (w'.alloc (.cells #[.int .u16 10, .int .u16 0, .int .u16 0, .int .u16 0, .int .u16 0] 67)).heap[w'.heap.size]? = some (.cells #[.int .u16 10, .int .u16 0, .int .u16 0, .int .u16 0, .int .u16 0] 67 (0, 0)) := heap_alloc_new w' _
  have HQ := Aside0.mk hq0
  have HQF := Aside0.mk (hty2 _ _ _ _ hq0 (by decide) (by decide))
  have HB2 := Aside0.mk ((Below.heap_alloc w' (.cells #[.int .u16 10, .int .u16 0, .int .u16 0, .int .u16 0, .int .u16 0] 67) w.heap.size (by omega)).trans (HS.out.heapOf HB.out HF.out))
  have HF2 := Aside0.mk (show ¬ F2 w.heap.size from fun hk => (hsub2 _ hk).elim HF.out (fun h => by rw [World.size_alloc] at h; omega))
  have HBK2 := Aside0.mk (fun w2 ys (h : Step W0 g F2 _ w2 ys) => HBK.out _ _ (hback2 w2 ys h))
  have HS2 := Aside0.mk hs2
  clear hs2 hty2 hsub2 hback2 HS HB HF HBK hq0 hwsz
  go_loopw [12] (fun v12 wr => ∃ k : Nat, k ≤ 5 ∧ v12 = .int .i64 k ∧ Aside0 (Step W0 g F2 (w'.alloc (.cells #[.int .u16 10, .int .u16 0, .int .u16 0, .int .u16 0, .int .u16 0] 67)) wr (xs ++ leB 4 67324752 ++ fiveB k))) (fun v12 _ => 5 - (intOf v12).toNat)
  case atStart => exact ⟨0, by omega, rfl, ⟨by simpa [fiveB] using HS2.out⟩⟩
  case round =>
    obtain ⟨k, hk, rfl, HS3⟩ := hrel
    by_cases hlt : k < 5
    · have hcell := (HS3.out.cellOf HQ.out HQF.out k).trans (five_at k hlt)
      have hfb := five_bd k
      have HK := Aside0.mk (fiveB_le k)
      go_wp2_with (go_at_call 29; refine (put16_any _ HS3.out hfb.1 hfb.2 ?hl).mono ?_; (case hl => have := HL.out; have := HK.out; (try simp only [List.length_append, leB_length]); omega); rintro e w' ⟨rfl, hz⟩; have HS4 := Aside0.mk hz; clear hz)
      go_roundw
      case rel => exact ⟨k + 1, by omega, by go_num, ⟨by rw [fiveB_succ k hlt, ← List.append_assoc]; exact HS4.out⟩⟩
      case measure => simp [intOf]; omega
    · obtain rfl : k = 5 := by omega
      have hx0 := (HS3.out.cellOf HB2.out HF2.out 0).trans rfl
      have hx1 := (HS3.out.cellOf HB2.out HF2.out 1).trans rfl
      have kb := fun W => print_bytes (P := Try.prog) 9 22 5 Try.underlying9 Try.underlying22 Try.underlying5 s W
      have HLE : ∀ j, j ≤ 5 → (fiveB j).length ≤ 10 := fun j _ => fiveB_le j
      have HK := Aside0.mk (fiveB_le 5)
      clear HLE
      have LN := leB_length
      have HBs := bytesOf_length s
      have HLN := Aside0.mk LN
      have HBS := Aside0.mk HBs
      clear LN HBs
      go_wp2_with (first | (go_at_call 28; refine (put32_any _ HS3.out (by omega) (by omega) ?hl).mono ?_; (case hl => have := HL.out; have := HK.out; (try simp only [List.length_append, leB_length]); omega); rintro e w' ⟨rfl, hz⟩; have n0 := Aside0.mk hz; clear HS3 hz hx0 hx1; have HS3 := n0; clear n0; have hx0 := (HS3.out.cellOf HB2.out HF2.out 0).trans rfl; have hx1 := (HS3.out.cellOf HB2.out HF2.out 1).trans rfl) | (go_at_call 29; refine (put16_any _ HS3.out (by omega) (by omega) ?hl).mono ?_; (case hl => have := HL.out; have := HK.out; (try simp only [List.length_append, leB_length]); omega); rintro e w' ⟨rfl, hz⟩; have n0 := Aside0.mk hz; clear HS3 hz hx0 hx1; have HS3 := n0; clear n0; have hx0 := (HS3.out.cellOf HB2.out HF2.out 0).trans rfl; have hx1 := (HS3.out.cellOf HB2.out HF2.out 1).trans rfl))
      refine (raw_name s hs HS3.out ?_).mono ?_
      · have := HL.out; have := HK.out; (try simp only [List.length_append, leB_length]); omega
      rintro e w' ⟨rfl, hz⟩
      have n0 := Aside0.mk hz
      clear HS3 hz hx0 hx1
      have HS3 := n0
      clear n0 kb
      have hx1 := (HS3.out.cellOf HB2.out HF2.out 1).trans rfl
      go_wp2_with fail
      refine (zeros_any pad HS3.out hp0 (by omega) ?_).mono ?_
      · have := HL.out; have := HK.out; have := HBS.out; (try simp only [List.length_append, leB_length]); omega
      rintro e w' ⟨rfl, hz⟩
      have n0 := Aside0.mk hz
      clear HS3 hz hx1
      have HS3 := n0
      clear n0
      have hx1 := (HS3.out.cellOf HB2.out HF2.out 1).trans rfl
      go_wp2_with fail
      refine (raw_data HS3.out HR.out ?_).mono ?_
      · have := HL.out; have := HK.out; have := HBS.out; (try simp only [List.length_append, leB_length, List.length_replicate]); omega
      rintro e w' ⟨rfl, hz⟩
      have HE := Aside0.mk (HBK2.out _ _ hz)
      clear HS3 hz hx1
      go_wp2_with fail
      go_end0
      refine ⟨rfl, ?_⟩
      have hz := HE.out
      simpa only [localB, fiveB, List.append_assoc] using hz
end Go.Proofs.Ytkikbbmgibgamaa.Z
