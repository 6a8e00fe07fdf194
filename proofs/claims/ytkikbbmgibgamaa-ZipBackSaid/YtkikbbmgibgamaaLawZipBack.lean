/- The row of ZipBack: each file of an archive that was made is found in it. -/
import Derived.Test.YtkikbbmgibgamaaRows
import Derived.Test.YtkikbbmgibgamaaZ11
import Derived.Test.YtkikbbmgibgamaaHGreat
import Derived.Test.YtkikbbmgibgamaaHBack
import Derived.WalkKit
import Derived.ProofKit
import Derived.OpenShut
import Derived.ShutString
import Derived.ChangeOld
import Derived.Below
import Derived.SizedLaws
namespace Go.Proofs.Ytkikbbmgibgamaa.Z
open Go.RowKit Go.Proofs.Ytkikbbmgibgamaa.H Go.Proofs.YtkikbbmgibgamaaW.PrintWords Go.Proofs.YtkikbbmgibgamaaW.PrintLast Go.Proofs.YtkikbbmgibgamaaW.PrintMore
set_option linter.unusedVariables false
theorem entsOf_get : ∀ (l : List S50) (p : Int), (entsOf l p).length = l.length ∧ ∀ (i : Nat) (h : i < l.length) (h' : i < (entsOf l p).length), (entsOf l p)[i].f0 = l[i].f0 := by
  intro l
  induction l with
  | nil => intro p; exact ⟨rfl, fun i h => by simp at h⟩
  | cons x l ih =>
    intro p
    obtain ⟨h1, h2⟩ := ih (p + lenOf x p)
    refine ⟨by simp [entsOf, h1], fun i h h' => ?_⟩
    cases i with
    | zero => rfl
    | succ i => simpa [entsOf] using h2 i (by simpa using h) (by rw [h1]; simpa using h)
section
variable {l0 : List S50} {B : List Int} {es : List S32} (hl : l0.length ≤ 300) (hB : Byt B) (hlen : B.length ≤ 262144) (heslen : es.length = l0.length) (hnames : ∀ (i : Nat) (h : i < l0.length) (h' : i < es.length), es[i].f0 = l0[i].f0)
  (hfind : ∀ (i : Nat) (h : i < l0.length), ∃ a x, findOf B l0[i].f0 = (a, (x.f1.length : Int), 0) ∧ Found B B.length l0[i].f0 a x ∧ l0.find? (fun y => decide (y.f0.toList = l0[i].f0.toList)) = some x)
include hl hB hlen heslen hnames hfind
theorem back_l1 (i : Nat) (hi : i < l0.length) {r : Option Bool} (next : ∀ k, 1000000 + 1000 * (299 - i) ≤ k → messuagelaw07_ZipBack.l0 k l0 B es (i + 1 : Nat) = r) : ∀ (c f : Nat) (k : Nat), c ≤ i + 1 → c ≤ f + 1 → f ≤ i → (hf : f < l0.length) → l0[f].f0.toList = l0[i].f0.toList →
    (∀ j, c ≤ j → j < f → (hj : j < l0.length) → l0[j].f0.toList ≠ l0[i].f0.toList) → 1000000 + 1000 * (299 - i) + c + 10 ≤ k →
    messuagelaw07_ZipBack.l1 k l0 B es i f ((c : Int) - 1) = r := by
  intro c
  induction c with
  | zero =>
    intro f k _ _ hfi hf hname hmin hk
    obtain ⟨k, rfl⟩ : ∃ m, k = m + 1 := ⟨k - 1, by omega⟩
    obtain ⟨a, x, q1, q2, q3⟩ := hfind i hi
    have e1 : rd_T50 l0 (i : Int) = l0[i] := by simp [rd_T50, List.getElem?_eq_getElem hi]
    have e2 : rd_T50 l0 (f : Int) = l0[f] := by simp [rd_T50, List.getElem?_eq_getElem hf]
    have e3 : (rd_T32 es (i : Int)).f0 = l0[i].f0 := by
      have h' : i < es.length := by omega
      rw [← hnames i hi h']
      simp [rd_T32, List.getElem?_eq_getElem h']
    have hx : x = l0[f] := by
      rw [List.find?_eq_some_iff_getElem] at q3
      obtain ⟨p1, j, hj, p2, p3⟩ := q3
      have : j = f := by
        rcases Nat.lt_trichotomy j f with h | h | h
        · refine absurd ?_ (hmin j (Nat.zero_le _) h hj)
          rw [p2]
          simpa using p1
        · exact h
        · have := p3 f h
          simp [hname] at this
      subst this
      exact p2.symm
    have hp := q2.page
    have hlo := q2.lo
    have hhi := q2.hi
    have hcut := q2.cut
    rw [messuagelaw07_ZipBack.l1, if_neg (by omega), if_pos (by omega), if_pos (by omega), e1, find_f hB (by omega) _ (by omega), q1]
    simp only [Option.bind_some]
    rw [if_pos (by omega)]
    refine (if_pos (by rw [e3])).trans ?_
    rw [if_pos (by trivial), tmod_pos hlo, if_pos hp, if_pos (by omega), if_pos (by omega), e2, ← hx, wu64 (n := (x.f1.length : Int)) (by omega) (by omega), if_pos rfl, wu64 (n := (B.length : Int)) (by omega) (by omega), if_neg (by omega),
      wu64 (n := (B.length : Int) - a) (by omega) (by omega), if_neg (by omega), if_pos hlo, wu64 (n := a + (x.f1.length : Int)) (by omega) (by omega), if_pos (by omega), if_pos (by omega), w64 (n := (i : Int) + 1) (by omega) (by omega)]
    refine (if_pos (by rw [show (B.take (a + (x.f1.length : Int)).toNat).drop a.toNat = x.f1 from hcut])).trans ?_
    exact next k (by omega)
  | succ c ih =>
    intro f k hci hcf hfi hf hname hmin hk
    obtain ⟨k, rfl⟩ : ∃ m, k = m + 1 := ⟨k - 1, by omega⟩
    have hc : c < l0.length := by omega
    have e1 : rd_T50 l0 (i : Int) = l0[i] := by simp [rd_T50, List.getElem?_eq_getElem hi]
    have e2 : rd_T50 l0 (c : Int) = l0[c] := by simp [rd_T50, List.getElem?_eq_getElem hc]
    rw [messuagelaw07_ZipBack.l1, show (((c + 1 : Nat) : Int) - 1) = (c : Int) by omega, if_pos (by omega), if_pos (by omega), if_pos (by omega), if_pos (by omega), if_pos (by omega), e1, e2, w64 (n := (c : Int) - 1) (by omega) (by omega)]
    by_cases g : l0[c].f0.toList = l0[i].f0.toList
    · rw [if_pos g]
      exact ih c k (by omega) (by omega) (by omega) hc g (fun j h1 h2 => by omega) (by omega)
    · rw [if_neg g]
      have hcf' : c ≠ f := fun e => g (by subst e; exact hname)
      refine ih f k (by omega) (by omega) hfi hf hname (fun j h1 h2 hj => ?_) (by omega)
      by_cases hjc : j = c
      · subst hjc
        exact g
      · exact hmin j (by omega) h2 hj
theorem back_l0 : ∀ (d i : Nat) (k : Nat), l0.length - i = d → i ≤ l0.length → 1000000 + 1000 * (300 - i) ≤ k → messuagelaw07_ZipBack.l0 k l0 B es i = some true := by
  intro d
  induction d with
  | zero =>
    intro i k hd hi hk
    obtain ⟨k, rfl⟩ : ∃ m, k = m + 1 := ⟨k - 1, by omega⟩
    rw [messuagelaw07_ZipBack.l0, if_neg (by omega)]
    rfl
  | succ d ih =>
    intro i k hd hi hk
    obtain ⟨k, rfl⟩ : ∃ m, k = m + 1 := ⟨k - 1, by omega⟩
    have hi' : i < l0.length := by omega
    rw [messuagelaw07_ZipBack.l0, if_pos (by omega)]
    have := back_l1 hl hB hlen heslen hnames hfind i hi' (r := some true) (fun k' hk' => ih (i + 1) k' (by omega) (by omega) (by omega)) (i + 1) i k (by omega) (by omega) (by omega) hi' rfl (fun j h1 h2 => by omega) (by omega)
    rwa [show (((i + 1 : Nat) : Int) - 1) = (i : Int) by omega] at this
end
theorem back_pure (l0 : List S50) (hb : ∀ x ∈ l0, Byt x.f1) : ∃ k, messuagelaw07_ZipBack.f k l0 = some true := by
  refine ⟨2000000, ?_⟩
  obtain ⟨r, hr, hl⟩ := great_f l0 (k := 2000000) (by omega)
  rw [messuagelaw07_ZipBack.f, hr]
  simp only [Option.bind_some]
  cases r with
  | true => rfl
  | false =>
    have hl := hl rfl
    rw [if_neg (by decide)]
    obtain ⟨⟨B, e⟩, hq⟩ : ∃ q, zip_Make.f l0 = some q := by
      unfold zip_Make.f
      split
      · exact ⟨_, rfl⟩
      · split <;> exact ⟨_, rfl⟩
    rw [hq]
    simp only [Option.bind_some]
    by_cases he : e = 0
    · subst he
      obtain ⟨hB, hlen, st, hst0, hst, hlist, hloc⟩ := made_back hb hq
      have hn := entsOf_get l0 0
      rw [if_pos rfl, zip_List.f, list_f hB (by omega) (by omega), hlist]
      simp only [Option.bind_some, outOf]
      rw [if_pos (by first | rfl | trivial), messuagelaw07_ZipBack.j0.eq_2, if_neg (by simp [hn.1])]
      refine back_l0 hl hB hlen hn.1 (fun i h h' => hn.2 i h h') (fun i h => ?_) l0.length 0 _ (by omega) (by omega) (by omega)
      obtain ⟨f1, f2⟩ := findGo_back (B := B) (st := st) (by omega) l0[i].f0 l0 0 hloc
      have f3 := posGo_find l0[i].f0 l0 0
      have hsome : (l0.find? (fun y => decide (y.f0.toList = l0[i].f0.toList))).isSome := by
        rw [List.find?_isSome]
        exact ⟨l0[i], List.getElem_mem h, by simp⟩
      cases hp : posGo l0[i].f0 l0 0 with
      | none => rw [hp] at f3; rw [← f3] at hsome; simp at hsome
      | some q =>
        obtain ⟨a, x⟩ := q
        rw [hp] at f3
        have hf := f2 a x hp
        refine ⟨a, x, ?_, ⟨hf.page, hf.lo, by have := hf.hi; omega, hf.cut, hf.name⟩, f3.symm⟩
        rw [findOf, hlist]
        simp only
        rw [f1, hp]
        rfl
    · have : B = [] := by
        unfold zip_Make.f at hq
        split at hq
        · injection hq with hq
          injection hq with hq _
          exact hq.symm
        · split at hq
          · injection hq with hq
            injection hq with hq _
            exact hq.symm
          · injection hq with hq
            injection hq with _ hq
            exact absurd hq.symm he
      subst this
      rw [if_neg he, if_pos (by rfl)]
      rfl
end Go.Proofs.Ytkikbbmgibgamaa.Z
namespace Go.Proofs.Ytkikbbmgibgamaa.zipBack
open Go.ChangeShapes Go.WideShapes Go.ChangeAt Go.RowKit
open Go.ChangeMaps (open_string shut_string)
set_option linter.unusedVariables false
theorem own : ownKnob Try.prog.godebug = none := by kernel_rfl
theorem laidOut : laidOutB Try.prog = true := by kernel_rfl
set_option maxRecDepth 100000 in
theorem lifted (os : Os) (started : os.Started) (H : Type) (enc : TypeId × Value → H) :
    ReturnsInHanded {} Try.checked os 6 .any (Rows.zipBackSpec.pre6 enc Try.prog Try.f6 Rows.zipBackRow.domain false) (Rows.zipBackSpec.post enc Try.prog Try.f6 false true false false) := by
  refine returnsInHanded_of_change_sized (C := Try.checked) own started (by kernel_rfl) Try.func6
    (ChangeSpec.witness6 (enc := enc) (C := Try.checked) false ⟨#[], #[.slice none 0 0], []⟩ 8 (by kernel_rfl) (by kernel_rfl) (by kernel_rfl) (by kernel_rfl)) ?_
  intro W base args ds gs before hval0 hW hcnd hsz0 _
  have hval : ∀ (j : Nat) t v, Try.f6.params[j]? = some t → args[j]? = some v → Value.okWide Try.prog W .any base t v := hval0
  have hW' := hW
  obtain ⟨p, q, hA0, hV, rfl, hfz, hnd⟩ := hW
  have hA : DataW.TrodAll enc Try.prog W 0 (fun _ => true) true Try.f6.params.toList args.toList ds p := hA0
  rw [Try.params6] at hA hval
  obtain ⟨v0, vs0, d0, ds0, p0, q0, hargs, rfl, rfl, h0, r0⟩ := trodAll_cons hA
  obtain ⟨rfl, rfl, rfl⟩ := trodAll_nil r0
  obtain rfl : args = #[v0] := by cases args; simp_all
  obtain ⟨rfl, rfl⟩ := trodVars_none hV
  obtain ⟨a0, len0, cap0, rfl⟩ := okWide_slice Try.underlying41 (hval 0 41 v0 rfl rfl)
  have k0 := h0
  have lt0 : ∀ x ∈ p0, x.block < W.heap.size := by obtain ⟨m, hm⟩ := k0; exact DataW.trod_lt m _ _ _ hm
  obtain ⟨l0, rfl, hcap, hmx, hC, hx⟩ := Z.files_read h0
  clear hA0 hval0 hsz0
  obtain ⟨k, hk⟩ := Z.back_pure l0 (fun x h => (hx x h).1)
  refine (Z.messuagelaw07_ZipBack.calls k a0 cap0 l0 true W hC hcap hk).mono fun e W' ⟨he, bel⟩ => ?_
  subst he
  exact ⟨_, rfl, _, _, _, [], _, [], hW', trodAll_mk1 (shut_bool Try.underlying4 _), (trodAll_cons_mk (Below.trod laidOut (by kernel_rfl) (of_decide_eq_true (by kernel_rfl)) k0 bel lt0) trodAll_mk0), rfl, bel.frame _, fun h => by cases h⟩
theorem over : Rows.zipBackRow.holds Try.pinned (OpenSpec.ofChange Rows.zipBackSpec) :=
  OpenClaim.holds_of_wide 6 Try.f6 rfl rfl rfl rfl rfl rfl rfl ⟨rfl, rfl, rfl, rfl, rfl⟩ rfl rfl rfl rfl rfl (by kernel_rfl) Try.func6 (by kernel_rfl)
    (of_decide_eq_true (by kernel_rfl)) (by unfold Func.isWrapper; first | (rw [if_pos (by decide +kernel)]; kernel_rfl) | (rw [if_neg (by decide +kernel)]; exact ⟨rfl, rfl⟩))
    (fun os started H enc _ => lifted os started H enc)
theorem proved : Rows.ZipBackSaid := over
#print axioms proved
end Go.Proofs.Ytkikbbmgibgamaa.zipBack
namespace Go.Proofs.Ytkikbbmgibgamaa
/-- The row, under a short name, for the claim. -/
theorem zipBack_holds : Rows.ZipBackSaid := zipBack.proved
end Go.Proofs.Ytkikbbmgibgamaa
