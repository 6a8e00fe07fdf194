/- The row of ZipMore: with one file more an archive has all that it had. -/
import Derived.Test.YtkikbbmgibgamaaRows
import Derived.Test.YtkikbbmgibgamaaHMore
import Derived.Test.YtkikbbmgibgamaaHGreat
import Derived.Test.YtkikbbmgibgamaaHBack
import Derived.Lib.SmallJoins
import Derived.WalkKit
import Derived.ProofKit
import Derived.OpenShut
import Derived.ShutString
import Derived.ChangeOld
import Derived.Below
import Derived.SizedLaws
namespace Go.Proofs.Ytkikbbmgibgamaa.Z
open Go.RowKit Go.Proofs.Ytkikbbmgibgamaa.H Go.Proofs.YtkikbbmgibgamaaW.PrintWords Go.Proofs.YtkikbbmgibgamaaW.PrintLast Go.Proofs.YtkikbbmgibgamaaW.PrintMore
set_option linter.unusedVariables false
theorem k50_two {W : World} {x : S50} {V0 V1 : Value} (h : k50.K W x [V0, V1]) : ∃ A1 c1, V0 = .string x.f0 ∧ V1 = .slice A1 x.f1.length c1 := by
  obtain ⟨c0, c1, he, h0, A, c, rfl, _⟩ := h
  have h0 : c0 = [.string x.f0] := h0
  subst h0
  simp only [List.cons_append, List.nil_append, List.cons.injEq, and_true] at he
  exact ⟨A, c, he.1, he.2⟩
theorem mk_more (x : S50) : ∀ (l : List S50) (b c : List Int) (e : Int), mkLoop l b c = .inl e → mkLoop (l ++ [x]) b c = .inl e := by
  intro l
  induction l with
  | nil => intro b c e h; rw [mkLoop] at h; simp at h
  | cons y l ih =>
    intro b c e h
    rw [List.cons_append]
    rw [mkLoop] at h ⊢
    by_cases g1 : y.f0.size = 0
    · rw [if_pos g1] at h ⊢; exact h
    · rw [if_neg g1] at h ⊢
      by_cases g2 : 256 < y.f0.size
      · rw [if_pos g2] at h ⊢; exact h
      · rw [if_neg g2] at h ⊢
        by_cases g3 : 262144 < y.f1.length
        · rw [if_pos g3] at h ⊢; exact h
        · rw [if_neg g3] at h ⊢
          by_cases g4 : 262144 < (b ++ localB y.f0 y.f1 (padOf b.length y.f0.size)).length + (c ++ centralB y.f0 y.f1 b.length).length + 22
          · rw [if_pos g4] at h ⊢; exact h
          · rw [if_neg g4] at h ⊢; exact ih _ _ _ h
theorem make_more {l : List S50} {x : S50} {a b : List Int} {e f : Int} (h1 : zip_Make.f l = some (a, e)) (h2 : zip_Make.f (l ++ [x]) = some (b, f)) (he : e ≠ 0) : f ≠ 0 := by
  unfold zip_Make.f at h1 h2
  have hlen : (l ++ [x]).length = l.length + 1 := by simp
  by_cases g : 256 < l.length
  · rw [if_pos (by omega)] at h2
    injection h2 with h2
    injection h2 with _ h2
    omega
  · rw [if_neg g] at h1
    split at h2
    · injection h2 with h2
      injection h2 with _ h2
      omega
    · cases hm : mkLoop l [] [] with
      | inl e' =>
        rw [mk_more x l _ _ _ hm] at h2
        injection h2 with h2
        injection h2 with _ h2
        have := mk_inl _ _ _ _ hm
        omega
      | inr q =>
        rw [hm] at h1
        injection h1 with h1
        injection h1 with _ h1
        exact absurd h1.symm he
theorem posGo_more (nm : ByteArray) (x : S50) : ∀ (l : List S50) (p : Int), ∃ q, posGo nm (l ++ [x]) p = (posGo nm l p).or (if x.f0.toList = nm.toList then some (q, x) else none) := by
  intro l
  induction l with
  | nil =>
    intro p
    refine ⟨p + 30 + x.f0.size + padOf p x.f0.size, ?_⟩
    rw [List.nil_append, posGo, posGo, posGo]
    simp
  | cons y l ih =>
    intro p
    obtain ⟨q, hq⟩ := ih (p + lenOf y p)
    refine ⟨q, ?_⟩
    rw [List.cons_append, posGo, posGo, hq]
    split <;> simp
theorem make_some (l : List S50) : ∃ a e, zip_Make.f l = some (a, e) := by
  unfold zip_Make.f
  split
  · exact ⟨_, _, rfl⟩
  · split <;> exact ⟨_, _, rfl⟩
theorem more_pure (l0 : List S50) (x : S50) (nm : ByteArray) (hb : ∀ y ∈ l0, Byt y.f1) (hx : Byt x.f1) (hl : l0.length ≤ 300) :
    ∃ a e b f, zip_Make.f l0 = some (a, e) ∧ zip_Make.f (l0 ++ [⟨x.f0, x.f1⟩]) = some (b, f) ∧ l0.length ≤ 300 ∧ ((e ≠ 0 ∧ f ≠ 0) ∨ (e = 0 ∧ f ≠ 0) ∨ (e = 0 ∧ f = 0 ∧
      ∃ p n g p' n' h, zip_Find.f 2000000 a nm = some (p, n, g) ∧ zip_Find.f 2000000 b nm = some (p', n', h) ∧ ((g = 0 ∧ h = 0 ∧ p = p' ∧ n = n') ∨ (g = 71 ∧ ((h = 0 ∧ x.f0.toList = nm.toList) ∨ (h ≠ 0 ∧ x.f0.toList ≠ nm.toList)))))) := by
  obtain ⟨a, e, h1⟩ := make_some l0
  obtain ⟨b, f, h2⟩ := make_some (l0 ++ [x])
  refine ⟨a, e, b, f, h1, h2, hl, ?_⟩
  by_cases he : e = 0
  · by_cases hf : f = 0
    · subst he hf
      refine .inr (.inr ⟨rfl, rfl, ?_⟩)
      obtain ⟨hBa, hla, sa, _, hsa, hlista, hloca⟩ := made_back hb h1
      obtain ⟨hBb, hlb, sb, _, hsb, hlistb, hlocb⟩ := made_back (l := l0 ++ [x]) (fun y hy => by
        rcases List.mem_append.1 hy with hy | hy
        · exact hb y hy
        · rw [List.mem_singleton.1 hy]; exact hx) h2
      obtain ⟨f1, _⟩ := findGo_back (B := a) (st := sa) (by omega) nm l0 0 hloca
      obtain ⟨f2, _⟩ := findGo_back (B := b) (st := sb) (by omega) nm (l0 ++ [x]) 0 hlocb
      have q1 : zip_Find.f 2000000 a nm = some (posOut (posGo nm l0 0)) := by
        rw [find_f hBa (by omega) nm (by omega), findOf, hlista, ← f1]
      have q2 : zip_Find.f 2000000 b nm = some (posOut (posGo nm (l0 ++ [x]) 0)) := by
        rw [find_f hBb (by omega) nm (by omega), findOf, hlistb, ← f2]
      obtain ⟨q, hq⟩ := posGo_more nm x l0 0
      rw [hq] at q2
      cases hp : posGo nm l0 0 with
      | some r =>
        obtain ⟨p, y⟩ := r
        rw [hp] at q1 q2
        exact ⟨p, y.f1.length, 0, p, y.f1.length, 0, q1, q2, .inl ⟨rfl, rfl, rfl, rfl⟩⟩
      | none =>
        rw [hp] at q1 q2
        by_cases g : x.f0.toList = nm.toList
        · rw [if_pos g] at q2
          exact ⟨0, 0, 71, q, x.f1.length, 0, q1, q2, .inr ⟨rfl, .inl ⟨rfl, g⟩⟩⟩
        · rw [if_neg g] at q2
          exact ⟨0, 0, 71, 0, 0, 71, q1, q2, .inr ⟨rfl, .inr ⟨by decide, g⟩⟩⟩
    · exact .inr (.inl ⟨he, hf⟩)
  · exact .inl ⟨he, make_more h1 h2 he⟩
end Go.Proofs.Ytkikbbmgibgamaa.Z
namespace Go.Proofs.Ytkikbbmgibgamaa.zipMore
open Go.ChangeShapes Go.WideShapes Go.ChangeAt Go.RowKit
open Go.ChangeMaps (open_string shut_string)
set_option linter.unusedVariables false
theorem own : ownKnob Try.prog.godebug = none := by kernel_rfl
theorem laidOut : laidOutB Try.prog = true := by kernel_rfl
set_option maxRecDepth 100000 in
theorem lifted (os : Os) (started : os.Started) (H : Type) (enc : TypeId × Value → H) :
    ReturnsInHanded {} Try.checked os 8 .any (Rows.zipMoreSpec.pre6 enc Try.prog Try.f8 Rows.zipMoreRow.domain false) (Rows.zipMoreSpec.post enc Try.prog Try.f8 false true false false) := by
  refine returnsInHanded_of_change_sized (C := Try.checked) own started (by kernel_rfl) Try.func8
    (ChangeSpec.witness6 (enc := enc) (C := Try.checked) false ⟨#[], #[.slice none 0 0, .agg #[.string ByteArray.empty, .slice none 0 0], .string ByteArray.empty], []⟩ 8 (by kernel_rfl) (by kernel_rfl) (by kernel_rfl) (by kernel_rfl)) ?_
  intro W base args ds gs before hval0 hW hcnd hsz0 _
  have hval : ∀ (j : Nat) t v, Try.f8.params[j]? = some t → args[j]? = some v → Value.okWide Try.prog W .any base t v := hval0
  have hW' := hW
  obtain ⟨p, q, hA0, hV, rfl, hfz, hnd⟩ := hW
  have hA : DataW.TrodAll enc Try.prog W 0 (fun _ => true) true Try.f8.params.toList args.toList ds p := hA0
  rw [Try.params8] at hA hval
  obtain ⟨v0, vs0, d0, ds0, p0, q0, hargs, rfl, rfl, h0, r0⟩ := trodAll_cons hA
  obtain ⟨v1, vs1, d1, ds1, p1, q1, rfl, rfl, rfl, h1, r1⟩ := trodAll_cons r0
  obtain ⟨v2, vs2, d2, ds2, p2, q2, rfl, rfl, rfl, h2, r2⟩ := trodAll_cons r1
  obtain ⟨rfl, rfl, rfl⟩ := trodAll_nil r2
  obtain rfl : args = #[v0, v1, v2] := by cases args; simp_all
  obtain ⟨rfl, rfl⟩ := trodVars_none hV
  obtain ⟨a0, len0, cap0, rfl⟩ := okWide_slice Try.underlying41 (hval 0 41 v0 rfl rfl)
  have k0 := h0
  have lt0 : ∀ x ∈ p0, x.block < W.heap.size := by obtain ⟨m, hm⟩ := k0; exact DataW.trod_lt m _ _ _ hm
  have k1 := h1
  have lt1 : ∀ x ∈ p1, x.block < W.heap.size := by obtain ⟨m, hm⟩ := k1; exact DataW.trod_lt m _ _ _ hm
  obtain ⟨l0, rfl, hcap, hmx, hC, hx⟩ := Z.files_read h0
  obtain ⟨V0, V1, y0, y1, n, rfl, _, _, t0, t1⟩ := Go.Joins.open_agg2 Try.underlying50 (by kernel_rfl) (by kernel_rfl) (hval 1 50 v1 rfl rfl) h1
  obtain ⟨x, hk, hxb, _, _⟩ := Z.file_read t0 t1
  obtain ⟨A1, c1, rfl, rfl⟩ := Z.k50_two hk
  obtain ⟨a2, rfl, rfl, rfl, y2⟩ := open_string Try.underlying9 (hval 2 9 v2 rfl rfl) h2
  clear hA0 hval0 hsz0
  obtain ⟨g0, hg0, hl0⟩ := Z.great_f l0 (k := 2000000) (by omega)
  obtain ⟨g1, hg1, _⟩ := Z.great_f [x] (k := 2000000) (by omega)
  refine (Z.more_walk 2000000 a0 cap0 l0 x.f0 A1 c1 x.f1 a2 W hC hcap hk g0 g1 hg0 hg1 (fun e _ => Z.more_pure l0 x a2 (fun y hy => (hx y hy).1) hxb (hl0 e))).mono fun e W' ⟨he, bel⟩ => ?_
  subst he
  exact ⟨_, rfl, _, _, _, [], _, [], hW', trodAll_mk1 (shut_bool Try.underlying4 _), (trodAll_cons_mk (Below.trod laidOut (by kernel_rfl) (of_decide_eq_true (by kernel_rfl)) k0 bel lt0) (trodAll_cons_mk (Below.trod laidOut (by kernel_rfl) (of_decide_eq_true (by kernel_rfl)) k1 bel lt1) (trodAll_cons_mk (shut_string Try.underlying9 y2) trodAll_mk0))), rfl, bel.frame _, fun h => by cases h⟩
theorem over : Rows.zipMoreRow.holds Try.pinned (OpenSpec.ofChange Rows.zipMoreSpec) :=
  OpenClaim.holds_of_wide 8 Try.f8 rfl rfl rfl rfl rfl rfl rfl ⟨rfl, rfl, rfl, rfl, rfl⟩ rfl rfl rfl rfl rfl (by kernel_rfl) Try.func8 (by kernel_rfl)
    (of_decide_eq_true (by kernel_rfl)) (by unfold Func.isWrapper; first | (rw [if_pos (by decide +kernel)]; kernel_rfl) | (rw [if_neg (by decide +kernel)]; exact ⟨rfl, rfl⟩))
    (fun os started H enc _ => lifted os started H enc)
theorem proved : Rows.ZipMoreSaid := over
#print axioms proved
end Go.Proofs.Ytkikbbmgibgamaa.zipMore
namespace Go.Proofs.Ytkikbbmgibgamaa
/-- The row, under a short name, for the claim. -/
theorem zipMore_holds : Rows.ZipMoreSaid := zipMore.proved
end Go.Proofs.Ytkikbbmgibgamaa
