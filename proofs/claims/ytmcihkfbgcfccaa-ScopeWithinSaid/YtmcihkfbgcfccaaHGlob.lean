/- (*Table).Get of a table that is read; scope.Globals. -/
import Derived.Test.YtmcihkfbgcfccaaHRead
namespace Go.Proofs.Ytmcihkfbgcfccaa.H
open Go.RowKit Go.Proofs.Ytmcihkfbgcfccaa.Z Go.Proofs.YtmcihkfbgcfccaaW.PrintWords Go.Proofs.YtmcihkfbgcfccaaW.PrintLast Go.Proofs.YtmcihkfbgcfccaaW.PrintMore
set_option linter.unusedVariables false
set_option linter.unusedSimpArgs false

/-- The instance of a number. -/
def insAt (l : List Ins) (id : Int) : Option Ins := if 1 ≤ id then l[(id - 1).toNat]? else none
theorem get_T (w : World) (bt : Nat) (l : List Ins) (id : Int) (h : TabR w bt l) (hw : (Lit.int .i64 id).wf = true) :
    Calls Try.prog 22 #[.pointer (some ⟨bt, 0, none⟩), .int .i64 id] w fun e w' => w' = w ∧ ((∃ b x, e = .returned (.pointer (some ⟨b, 0, none⟩)) ∧ insAt l id = some x ∧ InsR w b id x) ∨ (e = .returned (.pointer none) ∧ insAt l id = none)) := by
  obtain ⟨bm, g, A, c, h1, h2, h3, h4, h5, h6⟩ := h.out
  refine (get_calls w bt bm _ _ _ g id h1 h2 hw).mono ?_
  rintro e w' ⟨rfl, rfl⟩
  refine ⟨rfl, ?_⟩
  unfold look insAt
  by_cases h0 : 1 ≤ id
  · rw [if_pos h0, if_pos h0]
    by_cases hk : (id - 1).toNat < l.length
    · have hk' : (id - 1).toNat < g.length := by omega
      refine .inl ⟨g[(id - 1).toNat], l[(id - 1).toNat], ?_, List.getElem?_eq_getElem hk, ?_⟩
      · rw [List.getElem?_eq_getElem hk']
        rfl
      · have := h6 _ hk hk'
        rwa [show (((id - 1).toNat : Nat) : Int) + 1 = id by omega] at this
    · refine .inr ⟨?_, List.getElem?_eq_none (by omega)⟩
      rw [List.getElem?_eq_none (by omega)]
      rfl
  · rw [if_neg h0, if_neg h0]
    exact .inr ⟨rfl, rfl⟩
theorem InsR.cells {W : World} {b : Nat} {id : Int} {x : Ins} (h : InsR W b id x) : W.cell? ⟨b, 0, none⟩ = some (.int .i64 id) ∧ W.cell? ⟨b, 1, none⟩ = some (.int .i64 x.sp) ∧ W.cell? ⟨b, 25, none⟩ = some (.bool x.sy) ∧ W.cell? ⟨b, 71, none⟩ = some (.bool x.gl) := by
  obtain ⟨sA, sc, nA, nc, h1, _⟩ := h.out
  exact ⟨(blk_cell h1 0).trans rfl, (blk_cell h1 1).trans rfl, (blk_cell h1 25).trans rfl, (blk_cell h1 71).trans rfl⟩
/-- The global ones of a namespace, of the first so many. -/
def isGlob (s : Int) (x : Ins) : Bool := decide (x.sp = s) && x.gl
def globsOf (l : List Ins) (s : Int) : Nat → List Int
  | 0 => []
  | n + 1 => match l[n]? with
    | some x => if isGlob s x = true then globsOf l s n ++ [(n : Int) + 1] else globsOf l s n
    | none => globsOf l s n
theorem globsOf_len (l : List Ins) (s : Int) : ∀ n, (globsOf l s n).length ≤ n
  | 0 => Nat.le_refl _
  | n + 1 => by
    have := globsOf_len l s n
    rw [globsOf]
    split
    · split
      · rw [List.length_append]; simp only [List.length_singleton]; omega
      · omega
    · omega
theorem int_at {w : World} {A : Option Addr} {xs : List Int} (h : Kd.C (Kd.int .i64) w A xs.length xs) (i : Nat) (hi : i < xs.length) : ∃ ad, A = some ad ∧ w.cell? (ad.add i) = some (.int .i64 xs[i]) := by
  obtain ⟨h1, h2, h3⟩ := h
  obtain ⟨ad, e, hc⟩ := h3 (by omega)
  obtain ⟨c, _, hk, hu⟩ := hc i xs[i] (List.getElem?_eq_getElem hi)
  have hk : c = [.int .i64 xs[i]] := hk
  subst hk
  have := hu 0 _ rfl
  exact ⟨ad, e, by simpa [Kd.int, Kd.scalar] using this⟩
theorem wf_small {i : Int} (h0 : -1000000 ≤ i) (h1 : i ≤ 1000000) : (Lit.int .i64 i).wf = true := by simp [Lit.wf, IntKind.min, IntKind.max, IntKind.signed, IntKind.bits]; omega
set_option maxRecDepth 100000 in
set_option maxHeartbeats 1000000 in
theorem globals_calls (w : World) (bt : Nat) (l : List Ins) (s : Int) (h : TabR w bt l) (hl : l.length ≤ 1000) :
    Calls Try.prog 15 #[.pointer (some ⟨bt, 0, none⟩), .int .i64 s] w fun e w' => ∃ v, e = .returned v ∧ (Kd.int .i64).R 3 w' w.heap.size (fun _ => True) v (globsOf l s l.length) ∧ Below w.heap.size w w' := by
  have HT := Aside0.mk h
  clear h
  go_enter Try.func15, Try.ntmps15
  go_wp2_with fail
  refine (ids_calls w bt l HT.out hl).mono ?_
  rintro e w1 ⟨v, rfl, hv, hb⟩
  obtain ⟨A, c, rfl⟩ := Kd.R_slice hv
  have HI := Aside0.mk (Kd.R_reads' hv).2.2
  have HB1 := Aside0.mk hb
  have HT1 := Aside0.mk (HT.out.below hb)
  have hlen := idsOf_length l.length
  clear hv hb HT
  go_wp2
  go_loopw [5, 12] (fun v5 v12 wr => ∃ i : Nat, i ≤ l.length ∧ v12 = .int .i64 i ∧ Aside0 ((Kd.int .i64).R 3 wr w1.heap.size (fun _ => True) v5 (globsOf l s i)) ∧ Aside0 (Below w1.heap.size w1 wr)) (fun _ v12 _ => l.length - (intOf v12).toNat)
  case atStart => exact ⟨0, by omega, rfl, ⟨Kd.R_nil _ _ _ _ _⟩, ⟨Below.refl _ _⟩⟩
  case round =>
    obtain ⟨i, hi, rfl, HO, HB⟩ := hrel
    by_cases hlt : (i : Int) < l.length
    · have hin : i < l.length := by omega
      have hidx : (idsOf l.length)[i]'(by omega) = (i : Int) + 1 := by simp [idsOf]
      obtain ⟨ad, rfl, hp⟩ := int_at HI.out i (by omega)
      rw [hidx] at hp
      replace hp := (HB.out.cell (World.block_lt_of_cell? w1 _ hp)).trans hp
      go_wp2_with fail
      refine (get_T wr bt l ((i : Int) + 1) (HT1.out.below HB.out) (wf_small (by omega) (by omega))).mono ?_
      have hl0 : insAt l ((i : Int) + 1) = some l[i] := by
        rw [insAt, if_pos (by omega), show ((i : Int) + 1 - 1).toNat = i by omega, List.getElem?_eq_getElem hin]
      rintro e w2 ⟨rfl, ⟨b, x, rfl, hx, hI⟩ | ⟨rfl, hx⟩⟩
      · obtain rfl : l[i] = x := by rw [hl0] at hx; injection hx
        obtain ⟨_, z1, _, z2⟩ := hI.cells
        have hstep : globsOf l s (i + 1) = if isGlob s l[i] = true then globsOf l s i ++ [(i : Int) + 1] else globsOf l s i := by
          rw [globsOf, List.getElem?_eq_getElem hin]
        have hgl := globsOf_len l s i
        have HS := Aside0.mk hstep
        clear hx hI hl0 hp hstep
        by_cases e1 : l[i].sp = s
        · rw [e1] at z1
          cases e2 : l[i].gl with
          | true =>
            rw [e2] at z2
            have hs2 := HS.out
            rw [if_pos (by simp [isGlob, e1, e2])] at hs2
            have HS2 := Aside0.mk hs2
            have hsz := HB.out.size
            clear hs2 HS
            go_wp2_with ((with_reducible refine gate_builtin (b := .append) (xs := #[.tmp 31, .tmp 33]) rfl ?_); at_builtin; refine Kd.R_append (Kd.int .i64) (w0 := w1) w1.heap.size rfl (.tmp 31) (.tmp 33) 31 3 (.int .i64 0) 8 rfl Try.underlying31 info3 rfl (by decide) (by omega) u5 (globsOf l s i) ((i : Int) + 1) [.int .i64 ((i : Int) + 1)] (fun _ => True) (fun _ => False) rfl rfl ?aP (fun _ hk => hk.elim) ?aF ?aO ?aB ?aS ?aL ?_; (case aP => exact rfl); (case aB => exact HB.out); (case aF => exact (fun _ _ => trivial)); (case aO => exact HO.out); (case aS => exact hsz); (case aL => omega); intro v5 w5 ho hb hg hat; rw [← HS2.out] at ho; have HO5 := Aside0.mk ho; have HB5 := Aside0.mk hb; clear ho hb hg hat HO HB z1 z2)
            refine ⟨⟨i + 1, by omega, by simp, HO5, HB5⟩, ?_⟩
            simp only [intOf]
            omega
          | false =>
            rw [e2] at z2
            have hs2 := HS.out
            rw [if_neg (by simp [isGlob, e2])] at hs2
            have HO5 : Aside0 ((Kd.int .i64).R 3 w2 w1.heap.size (fun _ => True) u5 (globsOf l s (i + 1))) := ⟨by rw [hs2]; exact HO.out⟩
            clear hs2 HS HO
            go_wp2
            refine ⟨⟨i + 1, by omega, by simp, HO5, HB⟩, ?_⟩
            simp only [intOf]
            omega
        · have b1 : (l[i].sp == s) = false := beq_eq_false_iff_ne.mpr e1
          have hs2 := HS.out
          rw [if_neg (by simp [isGlob, e1])] at hs2
          have HO5 : Aside0 ((Kd.int .i64).R 3 w2 w1.heap.size (fun _ => True) u5 (globsOf l s (i + 1))) := ⟨by rw [hs2]; exact HO.out⟩
          clear hs2 HS HO
          go_wp2
          refine ⟨⟨i + 1, by omega, by simp, HO5, HB⟩, ?_⟩
          simp only [intOf]
          omega
      · rw [hl0] at hx
        cases hx
    · obtain rfl : i = l.length := by omega
      go_wp2
      go_ret
      exact ⟨_, rfl, Kd.R_lower HO.out HB1.out.size, below_then HB1.out HB1.out.size HB.out⟩
end Go.Proofs.Ytmcihkfbgcfccaa.H
