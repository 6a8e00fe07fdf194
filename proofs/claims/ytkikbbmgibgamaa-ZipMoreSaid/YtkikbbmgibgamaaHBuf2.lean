import Derived.Test.YtkikbbmgibgamaaHBuf
namespace Go.Proofs.Ytkikbbmgibgamaa.Z
open Go.RowKit Go.Proofs.Ytkikbbmgibgamaa.H Go.Proofs.YtkikbbmgibgamaaW.PrintWords Go.Proofs.YtkikbbmgibgamaaW.PrintLast Go.Proofs.YtkikbbmgibgamaaW.PrintMore
attribute [local go_sem] max2_int min2_int max_two min_two max_three min_three max_four min_four
set_option linter.unusedVariables false
set_option linter.unusedSimpArgs false

/-- (*Buf).Raw. -/
theorem raw_any {W0 w0 w : World} {g : Nat} {F : Nat → Prop} {xs ys : List Int} {A : Option Addr} {c : Nat} (hS : Step W0 g F w0 w xs) (hr : (Kd.int .u8).C w A ys.length ys) (hl : xs.length + ys.length ≤ 140737488355328) :
    Calls Try.prog 26 #[.pointer (some ⟨g, 0, none⟩), .slice A ys.length c] w fun e w' => e = .returned (.tuple #[]) ∧ Step W0 g F w0 w' (xs ++ ys) := by
  obtain ⟨v, h1, h2, h3, h4⟩ := hS.out
  have H1 := Aside0.mk h1
  have H2 := Aside0.mk h2
  have H3 := Aside0.mk h3
  have H4 := Aside0.mk h4
  have HR := Aside0.mk hr
  have HL := Aside0.mk hl
  obtain ⟨A0, c0, rfl⟩ := Kd.R_slice h1.row
  have hc := h1.cell
  have hf := h1.frozen
  clear h1 h2 h3 h4 hr hl hS
  go_enter Try.func26, Try.ntmps26
  go_wp2_with ((with_reducible refine gate_builtin (b := .append) (xs := #[.tmp 8, .tmp 9]) rfl ?_); at_builtin; refine Kd.R_append_rows (Kd.int .u8) (w0 := W0) W0.heap.size rfl (.tmp 8) (.tmp 9) 22 5 (.int .u8 0) 1 rfl Try.underlying22 info5 rfl (by decide) (by omega) (.slice A0 xs.length c0) xs ys _ _ _ (fun _ => True) (fun _ => False) rfl rfl ?aO ?aR (fun _ _ h => h) (fun _ h => h.elim) ?aF ?aB ?aS ?aL ?_; (case aR => exact HR.out); (case aB => exact H4.out); (case aF => exact (fun _ _ => trivial)); (case aO => exact H1.out.row); (case aS => exact H4.out.size); (case aL => have := HL.out; omega); intro v1 w1 ho hb hg hat; have HS := Aside0.mk (Step.stored H1.out H2.out H3.out ho hb hg hat); have hb1 := H1.out.grown ho hg; have hc1 := (blk_cell hb1 0).trans rfl; have hf1 := blk_frozen hb1 0; obtain ⟨A1, c1, rfl⟩ := Kd.R_slice ho; clear hc hf hb1 ho hb hg hat)
  go_end0
  have hz := HS.out
  rw [List.length_append] at hz
  exact ⟨rfl, hz⟩

/-- (*Buf).Zeros. -/
theorem zeros_any {W0 w0 w : World} {g : Nat} {F : Nat → Prop} {xs : List Int} (n : Int) (hS : Step W0 g F w0 w xs) (h0 : 0 ≤ n) (hn : n ≤ 262144) (hl : xs.length + 262144 ≤ 140737488355328) :
    Calls Try.prog 38 #[.pointer (some ⟨g, 0, none⟩), .int .i64 n] w fun e w' => e = .returned (.tuple #[]) ∧ Step W0 g F w0 w' (xs ++ List.replicate n.toNat 0) := by
  obtain ⟨v, h1, h2, h3, h4⟩ := hS.out
  have H1 := Aside0.mk h1
  have H2 := Aside0.mk h2
  have H3 := Aside0.mk h3
  have H4 := Aside0.mk h4
  have HL := Aside0.mk hl
  obtain ⟨A0, c0, rfl⟩ := Kd.R_slice h1.row
  have hc := h1.cell
  have hf := h1.frozen
  have HN := Aside0.mk (And.intro h0 hn)
  have hm1 : mx n 0 = n := by unfold mx; split <;> omega
  have hm2 : mn n 262144 = n := by unfold mn; split <;> omega
  clear h1 h2 h3 h4 hl hS
  go_enter Try.func38, Try.ntmps38
  go_wp2_with ((with_reducible refine gate_builtin (b := .append) (xs := #[.tmp 8, .tmp 11]) rfl ?_); at_builtin; refine Kd.R_append_zeros (Kd.int .u8) (w0 := W0) W0.heap.size rfl (.tmp 8) (.tmp 11) 22 3 5 (.int .u8 0) 1 rfl Try.underlying22 Try.underlying3 info5 rfl (by decide) (by omega) (.slice A0 xs.length c0) xs 0 n (fun _ => True) rfl rfl rfl ?aF ?aO HN.out.1 ?aB ?aS ?aL ?_; (case aB => exact H4.out); (case aF => exact (fun _ _ => trivial)); (case aO => exact H1.out.row); (case aS => exact H4.out.size); (case aL => have := HL.out; have := HN.out; omega); intro v1 w1 ho hb hg hat; have HS := Aside0.mk (Step.stored H1.out H2.out H3.out ho hb hg hat); have hb1 := H1.out.grown ho hg; have hc1 := (blk_cell hb1 0).trans rfl; have hf1 := blk_frozen hb1 0; obtain ⟨A1, c1, rfl⟩ := Kd.R_slice ho; clear hc hf hb1 ho hb hg hat)
  go_end0
  have hz := HS.out
  rw [List.length_append, List.length_replicate] at hz
  exact ⟨rfl, hz⟩

/-- (*Buf).put. -/
theorem put_any {W0 w0 w : World} {g : Nat} {F : Nat → Prop} {xs : List Int} (n : Int) (c : Nat) (hS : Step W0 g F w0 w xs) (h0 : 0 ≤ n) (hc9 : c ≤ 8) (hl : xs.length + 8 ≤ 140737488355328) :
    Calls Try.prog 39 #[.pointer (some ⟨g, 0, none⟩), .int .u64 n, .int .i64 c] w fun e w' => e = .returned (.tuple #[]) ∧ Step W0 g F w0 w' (xs ++ leB c n) := by
  have HS := Aside0.mk hS
  have HL := Aside0.mk hl
  clear hS hl
  go_enter Try.func39, Try.ntmps39
  go_wp2
  go_loopw [1, 7] (fun v1 v7 wr => ∃ (k : Nat) (x : Int) (ys : List Int), k ≤ c ∧ v7 = .int .i64 k ∧ v1 = .int .u64 x ∧ 0 ≤ x ∧ Aside0 (x = n / 256 ^ k) ∧ Aside0 (ys = xs ++ leB k n) ∧ Aside0 (Step W0 g F w0 wr ys)) (fun _ v7 _ => c - (intOf v7).toNat)
  case atStart => exact ⟨0, n, xs, Nat.zero_le _, rfl, rfl, h0, ⟨by simp⟩, ⟨by simp [leB]⟩, HS⟩
  case round =>
    obtain ⟨k, x, ys, hk, rfl, rfl, hx, HX, HY, HS1⟩ := hrel
    obtain ⟨v, h1, h2, h3, h4⟩ := HS1.out.out
    have H1 := Aside0.mk h1
    have H2 := Aside0.mk h2
    have H3 := Aside0.mk h3
    have H4 := Aside0.mk h4
    obtain ⟨A0, c0, rfl⟩ := Kd.R_slice h1.row
    have hc := h1.cell
    have hf := h1.frozen
    clear h1 h2 h3 h4
    by_cases hlt : k < c
    · go_wp2_with ((with_reducible refine gate_builtin (b := .append) (xs := #[.tmp 13, .tmp 16]) rfl ?_); at_builtin; refine Kd.R_append (Kd.int .u8) (w0 := W0) W0.heap.size rfl (.tmp 13) (.tmp 16) 22 5 (.int .u8 0) 1 rfl Try.underlying22 info5 rfl (by decide) (by omega) (.slice A0 ys.length c0) ys (x % 256) [.int .u8 (x % 256)] (fun _ => True) (fun _ => False) rfl rfl ?aP (fun _ hk => hk.elim) ?aF ?aO ?aB ?aS ?aL ?_; (case aP => exact rfl); (case aB => exact H4.out); (case aF => exact (fun _ _ => trivial)); (case aO => exact H1.out.row); (case aS => exact H4.out.size); (case aL => have := HL.out; rw [HY.out]; simp only [List.length_append, leB_length]; omega); intro v1 w1 ho hb hg hat; have HS2 := Aside0.mk (Step.stored H1.out H2.out H3.out ho hb hg hat); have hb1 := H1.out.grown ho hg; have hc1 := (blk_cell hb1 0).trans rfl; have hf1 := blk_frozen hb1 0; obtain ⟨A1, c1, rfl⟩ := Kd.R_slice ho; clear hc hf hb1 ho hb hg hat)
      go_roundw
      case rel =>
        have hz := HS2.out
        rw [List.length_append] at hz
        refine ⟨k + 1, x / 256, ys ++ [x % 256], by omega, by go_num, by go_num, by omega, ⟨?_⟩, ⟨?_⟩, ⟨hz⟩⟩
        · rw [HX.out, Int.ediv_ediv_of_nonneg (Int.pow_nonneg (by omega)), Int.pow_succ]
        · rw [HY.out, leB_snoc, HX.out, List.append_assoc]
      case measure => simp [intOf]; omega
    · go_wp2
      go_end0
      have hz := HS1.out
      obtain rfl : k = c := by omega
      rw [HY.out] at hz
      exact ⟨rfl, hz⟩

theorem put16_any {W0 w0 w : World} {g : Nat} {F : Nat → Prop} {xs : List Int} (n : Int) (hS : Step W0 g F w0 w xs) (h0 : 0 ≤ n) (hn : n ≤ 65535) (hl : xs.length + 8 ≤ 140737488355328) :
    Calls Try.prog 29 #[.pointer (some ⟨g, 0, none⟩), .int .u16 n] w fun e w' => e = .returned (.tuple #[]) ∧ Step W0 g F w0 w' (xs ++ leB 2 n) := by
  have HS := Aside0.mk hS
  have HL := Aside0.mk hl
  clear hS hl
  go_enter Try.func29, Try.ntmps29
  go_wp2_with (go_at_call 39; refine (put_any n 2 HS.out h0 (by omega) HL.out).mono ?_; rintro e w' ⟨rfl, hs⟩; have HS2 := Aside0.mk hs; clear hs)
  go_end0
  exact ⟨rfl, HS2.out⟩
theorem put32_any {W0 w0 w : World} {g : Nat} {F : Nat → Prop} {xs : List Int} (n : Int) (hS : Step W0 g F w0 w xs) (h0 : 0 ≤ n) (hn : n ≤ 4294967295) (hl : xs.length + 8 ≤ 140737488355328) :
    Calls Try.prog 28 #[.pointer (some ⟨g, 0, none⟩), .int .u32 n] w fun e w' => e = .returned (.tuple #[]) ∧ Step W0 g F w0 w' (xs ++ leB 4 n) := by
  have HS := Aside0.mk hS
  have HL := Aside0.mk hl
  clear hS hl
  go_enter Try.func28, Try.ntmps28
  go_wp2_with (go_at_call 39; refine (put_any n 4 HS.out h0 (by omega) HL.out).mono ?_; rintro e w' ⟨rfl, hs⟩; have HS2 := Aside0.mk hs; clear hs)
  go_end0
  exact ⟨rfl, HS2.out⟩
theorem len_any {W0 w0 w : World} {g : Nat} {F : Nat → Prop} {xs : List Int} (hS : Step W0 g F w0 w xs) :
    Calls Try.prog 23 #[.pointer (some ⟨g, 0, none⟩)] w fun e w' => e = .returned (.int .i64 xs.length) ∧ w = w' := by
  obtain ⟨v, h1, h2, h3, h4⟩ := hS.out
  obtain ⟨A0, c0, rfl⟩ := Kd.R_slice h1.row
  have hc := h1.cell
  clear h1 h2 h3 h4 hS
  go_enter Try.func23, Try.ntmps23
  go_wp2
  go_ret
  exact ⟨rfl, rfl⟩
theorem bytes_any {W0 w0 w : World} {g : Nat} {F : Nat → Prop} {xs : List Int} (hS : Step W0 g F w0 w xs) (hl : xs.length ≤ 140737488355328) :
    Calls Try.prog 27 #[.pointer (some ⟨g, 0, none⟩)] w fun e w' => ∃ v : Value, e = .returned v ∧ (Kd.int .u8).R 5 w' w.heap.size (fun _ => True) v xs ∧ Below w.heap.size w w' := by
  obtain ⟨v, h1, h2, h3, h4⟩ := hS.out
  obtain ⟨A0, c0, rfl⟩ := Kd.R_slice h1.row
  have hc := h1.cell
  have HR := Aside0.mk (Kd.R_reads' h1.row).2.2
  have HL := Aside0.mk hl
  clear h1 h2 h3 h4 hS hl
  go_enter Try.func27, Try.ntmps27
  go_wp2_with ((with_reducible refine gate_builtin (b := .append) (xs := #[.const (.slice none 0 0), .tmp 6]) rfl ?_); at_builtin; refine Kd.R_append_rows (Kd.int .u8) (w0 := w) w.heap.size rfl (.const (.slice none 0 0)) (.tmp 6) 22 5 (.int .u8 0) 1 rfl Try.underlying22 info5 rfl (by decide) (by omega) (.slice none 0 0) [] xs _ _ _ (fun _ => True) (fun _ => False) rfl rfl ?aO ?aR (fun _ _ h => h) (fun _ h => h.elim) ?aF ?aB ?aS ?aL ?_; (case aR => exact HR.out); (case aB => exact Below.refl _ _); (case aF => exact (fun _ _ => trivial)); (case aO => exact Kd.R_nil _ _ _ _ _); (case aS => exact Nat.le_refl _); (case aL => have := HL.out; simp only [List.length_nil]; omega); intro v1 w1 ho hb hg hat; rw [List.nil_append] at ho; have HO := Aside0.mk ho; have HB := Aside0.mk hb; clear ho hb hg hat)
  go_ret
  exact ⟨_, rfl, HO.out, HB.out⟩
theorem new_any (w : World) : Calls Try.prog 22 #[] w fun e w' => e = .returned (.pointer (some ⟨w.heap.size, 0, none⟩)) ∧ w' = w.alloc (.cells #[.slice none 0 0] 81) := by
  go_enter Try.func22, Try.ntmps22
  go_wp2
  go_ret
  exact ⟨rfl, rfl⟩
end Go.Proofs.Ytkikbbmgibgamaa.Z
