/- messuagelaw23.alive. -/
import Derived.Test.YtmcihkfbgcfccaaHPure
namespace Go.Proofs.Ytmcihkfbgcfccaa.H
open Go.RowKit Go.Proofs.Ytmcihkfbgcfccaa.Z Go.Proofs.YtmcihkfbgcfccaaW.PrintWords Go.Proofs.YtmcihkfbgcfccaaW.PrintLast Go.Proofs.YtmcihkfbgcfccaaW.PrintMore
set_option linter.unusedVariables false
set_option linter.unusedSimpArgs false
theorem flatten_at (n : Nat) : ∀ (ps : List (List Value)) (j i : Nat) (c : List Value), (∀ c ∈ ps, c.length = n) → ps[j]? = some c → i < n → ps.flatten[j * n + i]? = c[i]?
  | [], j, i, c, _, h, _ => by simp at h
  | p :: ps, 0, i, c, hl, h, hi => by
    obtain rfl : p = c := by simpa using h
    have := hl p (by simp)
    rw [List.flatten_cons, Nat.zero_mul, Nat.zero_add, List.getElem?_append_left (by omega)]
  | p :: ps, j + 1, i, c, hl, h, hi => by
    have hp := hl p (by simp)
    rw [List.flatten_cons, List.getElem?_append_right (by rw [hp, Nat.add_mul]; omega), hp, show (j + 1) * n + i - n = j * n + i by rw [Nat.add_mul]; omega]
    exact flatten_at n ps j i c (fun c hc => hl c (by simp [hc])) (by simpa using h) hi
/-- A row written out, read. -/
theorem C_lit {α : Type} {d : Kd α} {W : World} {g e : Nat} {cs : Array Value} (hb : W.heap[g]? = some (.cells cs e (0, 0))) (xs : List α) (ps : List (List Value)) (hp : ps.length = xs.length) (hl : ∀ c ∈ ps, c.length = d.sz) (hcs : cs.toList = ps.flatten) (hK : ∀ (j : Nat) (x : α) (c : List Value), xs[j]? = some x → ps[j]? = some c → d.K W x c) (hn : xs.length ≤ 1000000) :
    d.C W (some ⟨g, 0, none⟩) xs.length xs := by
  refine ⟨rfl, by omega, fun _ => ⟨_, rfl, fun j p hj => ?_⟩⟩
  have hjl := (List.getElem?_eq_some_iff.1 hj).1
  have hc := List.getElem?_eq_getElem (show j < ps.length by omega)
  refine ⟨ps[j]'(by omega), hl _ (List.getElem_mem _), hK j p _ hj hc, fun i u hu => ?_⟩
  have hi : i < d.sz := by
    have := (List.getElem?_eq_some_iff.1 hu).1
    rw [hl _ (List.getElem_mem _)] at this
    exact this
  rw [Addr.add_mid, Nat.zero_add, blk_cell hb, ← Array.getElem?_toList, hcs, flatten_at d.sz ps j i _ hl hc hi]
  exact hu
def symF : S76 := ⟨⟨#[102]⟩, ⟨#[]⟩, false, 1, true, 0, 0⟩
def symU : S76 := ⟨⟨#[102]⟩, ⟨#[]⟩, false, 1, false, 0, 0⟩
/-- The chapter's example. -/
def exNet : List S81 := [⟨0, false, false, false, [z76, symU], [1, 2]⟩, ⟨0, false, false, false, [z76, symF], [2]⟩, ⟨0, false, false, false, [z76, symF], []⟩]
theorem ex_res : resOf fuel (netOf exNet) 1 1 1 = some (2, 1, true, 0) := by kernel_rfl
theorem ex_group : groupOf (netOf exNet) 1 = [1, 2, 3] := by kernel_rfl
theorem ex_row : messuageref22_Row.f 10 ([1, 2, 3] : List Int) ([1, 2, 3] : List Int) = some true := by kernel_rfl
theorem ex_small : exNet.length ≤ 12 ∧ ∀ x ∈ exNet, x.f4.length ≤ 40 ∧ x.f5.length ≤ 12 := by
  refine ⟨by decide, fun x hx => ?_⟩
  simp only [exNet, List.mem_cons, List.not_mem_nil, or_false] at hx
  rcases hx with rfl | rfl | rfl <;> decide
theorem k76_K (W : World) (x : S76) : k76.K W x [.string x.f0, .string x.f1, .bool x.f2, .int .i64 x.f3, .bool x.f4, .int .u64 x.f5, .int .u64 x.f6] := by
  exact ⟨[.string x.f0], _, rfl, rfl, ⟨[.string x.f1], _, rfl, rfl, ⟨[.bool x.f2], _, rfl, rfl, ⟨[.int .i64 x.f3], _, rfl, rfl, ⟨[.bool x.f4], _, rfl, rfl, ⟨[.int .u64 x.f5], _, rfl, rfl, rfl⟩⟩⟩⟩⟩⟩
def sF : Array Value := #[.string ⟨#[]⟩, .string ⟨#[]⟩, .bool false, .int .i64 0, .bool false, .int .u64 0, .int .u64 0, .string ⟨#[102]⟩, .string ⟨#[]⟩, .bool false, .int .i64 1, .bool true, .int .u64 0, .int .u64 0]
def sU : Array Value := #[.string ⟨#[]⟩, .string ⟨#[]⟩, .bool false, .int .i64 0, .bool false, .int .u64 0, .int .u64 0, .string ⟨#[102]⟩, .string ⟨#[]⟩, .bool false, .int .i64 1, .bool false, .int .u64 0, .int .u64 0]
def sN (n : Nat) : Array Value := #[.int .i64 0, .bool false, .bool false, .bool false, .slice (some ⟨n + 1 + 1, 0, none⟩) 2 2, .slice (some ⟨n + 1, 0, none⟩) 2 2, .int .i64 0, .bool false, .bool false, .bool false, .slice (some ⟨n, 0, none⟩) 2 2, .slice (some ⟨n + 1 + 1 + 1, 0, none⟩) 1 1, .int .i64 0, .bool false, .bool false, .bool false, .slice (some ⟨n, 0, none⟩) 2 2, .slice none 0 0]
/-- The world with the example's net laid out. -/
def exW (w : World) : World := ((((w.alloc (.cells sF 76)).alloc (.cells #[.int .i64 1, .int .i64 2] 3)).alloc (.cells sU 76)).alloc (.cells #[.int .i64 2] 3)).alloc (.cells (sN w.heap.size) 81)
theorem ex_below (w : World) : Below w.heap.size w (exW w) :=
  ((((below_alloc (Below.refl _ _) _).alloc (by simp) _).alloc (by simp; omega) _).alloc (by simp; omega) _).alloc (by simp; omega) _
theorem ex_read (w : World) : k81.C (exW w) (some ⟨w.heap.size + 1 + 1 + 1 + 1, 0, none⟩) exNet.length exNet := by
  have b0 : (exW w).heap[w.heap.size]? = some (.cells sF 76 (0, 0)) := by
    unfold exW
    rw [Below.heap_alloc _ _ _ (by simp only [World.size_alloc]; omega), Below.heap_alloc _ _ _ (by simp only [World.size_alloc]; omega), Below.heap_alloc _ _ _ (by simp only [World.size_alloc]; omega), Below.heap_alloc _ _ _ (by simp only [World.size_alloc]; omega)]
    exact heap_alloc_new w _
  have b1 : (exW w).heap[w.heap.size + 1]? = some (.cells #[.int .i64 1, .int .i64 2] 3 (0, 0)) := by
    unfold exW
    rw [Below.heap_alloc _ _ _ (by simp only [World.size_alloc]; omega), Below.heap_alloc _ _ _ (by simp only [World.size_alloc]; omega), Below.heap_alloc _ _ _ (by simp only [World.size_alloc]; omega)]
    have := heap_alloc_new (w.alloc (.cells sF 76)) (.cells #[.int .i64 1, .int .i64 2] 3)
    rwa [World.size_alloc] at this
  have b2 : (exW w).heap[w.heap.size + 1 + 1]? = some (.cells sU 76 (0, 0)) := by
    unfold exW
    rw [Below.heap_alloc _ _ _ (by simp only [World.size_alloc]; omega), Below.heap_alloc _ _ _ (by simp only [World.size_alloc]; omega)]
    have := heap_alloc_new ((w.alloc (.cells sF 76)).alloc (.cells #[.int .i64 1, .int .i64 2] 3)) (.cells sU 76)
    rwa [World.size_alloc, World.size_alloc] at this
  have b3 : (exW w).heap[w.heap.size + 1 + 1 + 1]? = some (.cells #[.int .i64 2] 3 (0, 0)) := by
    unfold exW
    rw [Below.heap_alloc _ _ _ (by simp only [World.size_alloc]; omega)]
    have := heap_alloc_new (((w.alloc (.cells sF 76)).alloc (.cells #[.int .i64 1, .int .i64 2] 3)).alloc (.cells sU 76)) (.cells #[.int .i64 2] 3)
    rwa [World.size_alloc, World.size_alloc, World.size_alloc] at this
  have b4 : (exW w).heap[w.heap.size + 1 + 1 + 1 + 1]? = some (.cells (sN w.heap.size) 81 (0, 0)) := by
    unfold exW
    have := heap_alloc_new ((((w.alloc (.cells sF 76)).alloc (.cells #[.int .i64 1, .int .i64 2] 3)).alloc (.cells sU 76)).alloc (.cells #[.int .i64 2] 3)) (.cells (sN w.heap.size) 81)
    rwa [World.size_alloc, World.size_alloc, World.size_alloc, World.size_alloc] at this
  have cell7 : ∀ x : S76, (k76.sz = 7) := fun _ => rfl
  have s0 : k76.C (exW w) (some ⟨w.heap.size, 0, none⟩) 2 [z76, symF] := by
    refine C_lit b0 [z76, symF] [[.string z76.f0, .string z76.f1, .bool z76.f2, .int .i64 z76.f3, .bool z76.f4, .int .u64 z76.f5, .int .u64 z76.f6], [.string symF.f0, .string symF.f1, .bool symF.f2, .int .i64 symF.f3, .bool symF.f4, .int .u64 symF.f5, .int .u64 symF.f6]] rfl (fun c hc => ?_) rfl (fun j x c hx hc => ?_) (by decide)
    · simp only [List.mem_cons, List.not_mem_nil, or_false] at hc
      rcases hc with rfl | rfl <;> rfl
    · match j with
      | 0 => simp at hx hc; subst hx; subst hc; exact k76_K _ _
      | 1 => simp at hx hc; subst hx; subst hc; exact k76_K _ _
      | j + 2 => simp at hx
  have s2 : k76.C (exW w) (some ⟨w.heap.size + 1 + 1, 0, none⟩) 2 [z76, symU] := by
    refine C_lit b2 [z76, symU] [[.string z76.f0, .string z76.f1, .bool z76.f2, .int .i64 z76.f3, .bool z76.f4, .int .u64 z76.f5, .int .u64 z76.f6], [.string symU.f0, .string symU.f1, .bool symU.f2, .int .i64 symU.f3, .bool symU.f4, .int .u64 symU.f5, .int .u64 symU.f6]] rfl (fun c hc => ?_) rfl (fun j x c hx hc => ?_) (by decide)
    · simp only [List.mem_cons, List.not_mem_nil, or_false] at hc
      rcases hc with rfl | rfl <;> rfl
    · match j with
      | 0 => simp at hx hc; subst hx; subst hc; exact k76_K _ _
      | 1 => simp at hx hc; subst hx; subst hc; exact k76_K _ _
      | j + 2 => simp at hx
  have s1 : (Kd.int .i64).C (exW w) (some ⟨w.heap.size + 1, 0, none⟩) 2 [1, 2] := by
    refine C_lit b1 [1, 2] [[.int .i64 1], [.int .i64 2]] rfl (fun c hc => ?_) rfl (fun j x c hx hc => ?_) (by decide)
    · simp only [List.mem_cons, List.not_mem_nil, or_false] at hc
      rcases hc with rfl | rfl <;> rfl
    · match j with
      | 0 => simp at hx hc; subst hx; subst hc; rfl
      | 1 => simp at hx hc; subst hx; subst hc; rfl
      | j + 2 => simp at hx
  have s3 : (Kd.int .i64).C (exW w) (some ⟨w.heap.size + 1 + 1 + 1, 0, none⟩) 1 [2] := by
    refine C_lit b3 [2] [[.int .i64 2]] rfl (fun c hc => ?_) rfl (fun j x c hx hc => ?_) (by decide)
    · simp only [List.mem_cons, List.not_mem_nil, or_false] at hc
      subst hc; rfl
    · match j with
      | 0 => simp at hx hc; subst hx; subst hc; rfl
      | j + 1 => simp at hx
  refine C_lit b4 exNet [[.int .i64 0, .bool false, .bool false, .bool false, .slice (some ⟨w.heap.size + 1 + 1, 0, none⟩) 2 2, .slice (some ⟨w.heap.size + 1, 0, none⟩) 2 2], [.int .i64 0, .bool false, .bool false, .bool false, .slice (some ⟨w.heap.size, 0, none⟩) 2 2, .slice (some ⟨w.heap.size + 1 + 1 + 1, 0, none⟩) 1 1], [.int .i64 0, .bool false, .bool false, .bool false, .slice (some ⟨w.heap.size, 0, none⟩) 2 2, .slice none 0 0]] rfl (fun c hc => ?_) rfl (fun j x c hx hc => ?_) (by decide)
  · simp only [List.mem_cons, List.not_mem_nil, or_false] at hc
    rcases hc with rfl | rfl | rfl <;> rfl
  · match j with
    | 0 => simp [exNet] at hx hc; subst hx; subst hc; exact k81_mk (exW w) ⟨0, false, false, false, [z76, symU], [1, 2]⟩ (Nat.le_refl _) s2 (Nat.le_refl _) s1
    | 1 => simp [exNet] at hx hc; subst hx; subst hc; exact k81_mk (exW w) ⟨0, false, false, false, [z76, symF], [2]⟩ (Nat.le_refl _) s0 (Nat.le_refl _) s3
    | 2 => simp [exNet] at hx hc; subst hx; subst hc; exact k81_mk (exW w) ⟨0, false, false, false, [z76, symF], []⟩ (Nat.le_refl _) s0 (Nat.zero_le _) (Kd.C_nil _ _)
    | j + 3 => simp [exNet] at hx
theorem ints_lit {W : World} {g : Nat} (hb : W.heap[g]? = some (.cells #[.int .i64 1, .int .i64 2, .int .i64 3] 3 (0, 0))) : (Kd.int .i64).C W (some ⟨g, 0, none⟩) ([1, 2, 3] : List Int).length [1, 2, 3] := by
  refine C_lit hb [1, 2, 3] [[.int .i64 1], [.int .i64 2], [.int .i64 3]] rfl (fun c hc => ?_) rfl (fun j x c hx hc => ?_) (by decide)
  · simp only [List.mem_cons, List.not_mem_nil, or_false] at hc
    rcases hc with rfl | rfl | rfl <;> rfl
  · match j with
    | 0 => simp at hx hc; subst hx; subst hc; rfl
    | 1 => simp at hx hc; subst hx; subst hc; rfl
    | 2 => simp at hx hc; subst hx; subst hc; rfl
    | j + 3 => simp at hx
set_option maxRecDepth 100000 in
set_option maxHeartbeats 4000000 in
theorem alive_calls (w : World) : Calls Try.prog 17 #[] w fun e w' => e = .returned (.bool true) ∧ Below w.heap.size w w' := by
  have HM := Aside0.mk (made_calls (exW w) (some ⟨w.heap.size + 1 + 1 + 1 + 1, 0, none⟩) 3 exNet (ex_read w) ex_small.1 ex_small.2)
  have HBX := Aside0.mk (ex_below w)
  have hsm := Aside0.mk (netOf_small ex_small.1 ex_small.2)
  go_enter Try.func17, Try.ntmps17
  go_upto_region 2 with (fail)
  go_upto_region 3 with (go_at_call 9; refine HM.out.mono ?_; rintro e w1 ⟨bt, A, c, rs, S, rfl, q1, q2, q3⟩; have HT := Aside0.mk q1; have HB1 := Aside0.mk (below_then HBX.out HBX.out.size q3); clear q1 q2 q3)
  obtain ⟨w2, hw2⟩ : ∃ w2, w2 = w1.alloc (.cells #[.int .i64 12, .int .i64 ((exNet.length : Int) + 1), .slice A exNet.length c] 27) := ⟨_, rfl⟩
  rw [← hw2]
  have HB2 := Aside0.mk (show Below w1.heap.size w1 w2 by rw [hw2]; exact below_alloc (Below.refl _ _) _)
  clear hw2
  have HRS := Aside0.mk (resolve_calls fuel w2 bt (netOf exNet) 1 1 1 2 1 true 0 (HT.out.below HB2.out) hsm.out.len hsm.out.needs (by decide) (by decide) ex_res)
  go_upto_region 6 with (go_at_call 18; refine HRS.out.mono ?_; rintro e w3 ⟨rfl, hb⟩; have HB3 := Aside0.mk (HB2.out.trans (hb.mono HB2.out.size)); clear hb)
  obtain ⟨w4, hw4⟩ : ∃ w4, w4 = w3.alloc (.cells #[.int .i64 2, .int .i64 1] 41) := ⟨_, rfl⟩
  rw [← hw4]
  have hk4 : w4.heap[w3.heap.size]? = some (.cells #[.int .i64 2, .int .i64 1] 41 (0, 0)) := by rw [hw4]; exact heap_alloc_new w3 _
  have HB4 := Aside0.mk (show Below w1.heap.size w1 w4 by rw [hw4]; exact HB3.out.alloc HB3.out.size _)
  have HK4 := Aside0.mk hk4
  clear hw4 hk4
  have hg := group_calls w4 bt (netOf exNet) 1 (HT.out.below HB4.out) hsm.out.len hsm.out.needs (by decide)
  rw [ex_group] at hg
  have HG := Aside0.mk hg
  clear hg
  go_wp2_with fail
  refine HG.out.mono ?_
  rintro e w5 ⟨v5, rfl, hv, hb⟩
  obtain ⟨A5, c5, rfl⟩ := Kd.R_slice hv
  have HB5 := Aside0.mk (HB4.out.trans (hb.mono HB4.out.size))
  have HC5 := Aside0.mk (Kd.R_reads' hv).2
  have hk5 := (hb.block _ (heap_lt_of HK4.out)).trans HK4.out
  have HK5 := Aside0.mk hk5
  clear hv hb hk5
  go_wp2_with fail
  refine (messuageref22_Row.calls 10 A5 c5 ([1, 2, 3] : List Int) (some ⟨w5.heap.size, 0, none⟩) 3 ([1, 2, 3] : List Int) true _ (Kd.C_alloc HC5.out.2 _) HC5.out.1 (ints_lit (heap_alloc_new w5 (.cells #[.int .i64 1, .int .i64 2, .int .i64 3] 3))) (Nat.le_refl _) ex_row).mono ?_
  rintro e w6 ⟨rfl, hdr⟩
  obtain ⟨n6, rfl⟩ := hdr.out
  obtain ⟨w7, hw7⟩ : ∃ w7, w7 = (w5.alloc (.cells #[.int .i64 1, .int .i64 2, .int .i64 3] 3)).drewN n6 := ⟨_, rfl⟩
  rw [← hw7]
  have hb57 : Below w5.heap.size w5 w7 := by rw [hw7]; exact pw_below_drewN (below_alloc (Below.refl _ _) _) n6
  have hk7 := (hb57.block _ (heap_lt_of HK5.out)).trans HK5.out
  have r0 : w7.cell? ⟨w3.heap.size, 0, none⟩ = some (.int .i64 2) := (blk_cell hk7 0).trans rfl
  have r1 : w7.cell? ⟨w3.heap.size, 1, none⟩ = some (.int .i64 1) := (blk_cell hk7 1).trans rfl
  have HB7 := Aside0.mk (HB5.out.trans (hb57.mono HB5.out.size))
  clear hw7 hb57 hk7
  go_wp2
  go_ret
  exact ⟨rfl, below_then HB1.out HB1.out.size HB7.out⟩
end Go.Proofs.Ytmcihkfbgcfccaa.H
