/- The row of ZipMakes: after the printed rows of this seat, with a slice of files as the input. -/
import Derived.Test.YtkikbbmgibgamaaRows
import Derived.Test.YtkikbbmgibgamaaZ10
import Derived.Test.YtkikbbmgibgamaaHGreat
import Derived.WalkKit
import Derived.ProofKit
import Derived.OpenShut
import Derived.ShutString
import Derived.ChangeOld
import Derived.Below
import Derived.SizedLaws
namespace Go.Proofs.Ytkikbbmgibgamaa.Z
open Go.RowKit Go.Proofs.Ytkikbbmgibgamaa.H Go.Proofs.YtkikbbmgibgamaaW.PrintWords Go.Proofs.YtkikbbmgibgamaaW.PrintLast Go.Proofs.YtkikbbmgibgamaaW.PrintMore
set_option linter.unusedVariables false
def to68 (x : S50) : S68 := ⟨x.f0, x.f1⟩
theorem files_l0 (l0 : List S50) (hl : (l0.length : Int) ≤ 100000) : ∀ (d j : Nat) (k : Nat), l0.length - j = d → j ≤ l0.length → d < k →
    messuagelaw07_files.l0 k l0 ((l0.take j).map to68) j = some (l0.map to68) := by
  intro d
  induction d with
  | zero =>
    intro j k hd hj hk
    obtain ⟨k, rfl⟩ : ∃ m, k = m + 1 := ⟨k - 1, by omega⟩
    rw [messuagelaw07_files.l0, if_neg (by omega), List.take_of_length_le (by omega)]
  | succ d ih =>
    intro j k hd hj hk
    obtain ⟨k, rfl⟩ : ∃ m, k = m + 1 := ⟨k - 1, by omega⟩
    have hlt : j < l0.length := by omega
    have e1 : rd_T50 l0 (j : Int) = l0[j] := by simp [rd_T50, List.getElem?_eq_getElem hlt]
    have hn : ((l0.take j).map to68).length = j := by simp; omega
    rw [messuagelaw07_files.l0, if_pos (by omega), if_pos (by omega), if_pos (by omega), e1, w64 (by omega) (by omega), show ((j : Int) + 1) = ((j + 1 : Nat) : Int) by omega, ← ih (j + 1) k (by omega) (by omega) (by omega), ← List.take_append_getElem hlt, List.map_append]
    rfl
theorem makes_pure (l0 : List S50) : ∃ k, messuagelaw07_ZipMakes.f k l0 = some true := by
  refine ⟨2000, ?_⟩
  obtain ⟨r, hr, hl⟩ := great_f l0 (k := 2000) (by omega)
  rw [messuagelaw07_ZipMakes.f, hr]
  simp only [Option.bind_some]
  cases r with
  | true => rfl
  | false =>
    have hl := hl rfl
    have hf : messuagelaw07_files.f 2000 l0 = some (l0.map to68) := files_l0 l0 (by omega) l0.length 0 2000 (by omega) (by omega) (by omega)
    have hm : messuageref07_Make.f (l0.map to68) = zip_Make.f l0 := by
      rw [messuageref07_Make.f, List.map_map]
      congr 1
      exact List.map_id'' (fun x => rfl) l0
    rw [if_neg (by decide), hf]
    obtain ⟨q, hq⟩ : ∃ q, zip_Make.f l0 = some q := by
      unfold zip_Make.f
      split
      · exact ⟨_, rfl⟩
      · split <;> exact ⟨_, rfl⟩
    simp only [Option.bind_some]
    rw [hm, hq]
    simp only [Option.bind_some, if_true]
    rfl
end Go.Proofs.Ytkikbbmgibgamaa.Z
namespace Go.Proofs.Ytkikbbmgibgamaa.zipMakes
open Go.ChangeShapes Go.WideShapes Go.ChangeAt Go.RowKit
open Go.ChangeMaps (open_string shut_string)
set_option linter.unusedVariables false
theorem own : ownKnob Try.prog.godebug = none := by kernel_rfl
theorem laidOut : laidOutB Try.prog = true := by kernel_rfl
set_option maxRecDepth 100000 in
theorem lifted (os : Os) (started : os.Started) (H : Type) (enc : TypeId × Value → H) :
    ReturnsInHanded {} Try.checked os 5 .any (Rows.zipMakesSpec.pre6 enc Try.prog Try.f5 Rows.zipMakesRow.domain false) (Rows.zipMakesSpec.post enc Try.prog Try.f5 false true false false) := by
  refine returnsInHanded_of_change_sized (C := Try.checked) own started (by kernel_rfl) Try.func5
    (ChangeSpec.witness6 (enc := enc) (C := Try.checked) false ⟨#[], #[.slice none 0 0], []⟩ 8 (by kernel_rfl) (by kernel_rfl) (by kernel_rfl) (by kernel_rfl)) ?_
  intro W base args ds gs before hval0 hW hcnd hsz0 _
  have hval : ∀ (j : Nat) t v, Try.f5.params[j]? = some t → args[j]? = some v → Value.okWide Try.prog W .any base t v := hval0
  have hW' := hW
  obtain ⟨p, q, hA0, hV, rfl, hfz, hnd⟩ := hW
  have hA : DataW.TrodAll enc Try.prog W 0 (fun _ => true) true Try.f5.params.toList args.toList ds p := hA0
  rw [Try.params5] at hA hval
  obtain ⟨v0, vs0, d0, ds0, p0, q0, hargs, rfl, rfl, h0, r0⟩ := trodAll_cons hA
  obtain ⟨rfl, rfl, rfl⟩ := trodAll_nil r0
  obtain rfl : args = #[v0] := by cases args; simp_all
  obtain ⟨rfl, rfl⟩ := trodVars_none hV
  obtain ⟨a0, len0, cap0, rfl⟩ := okWide_slice Try.underlying41 (hval 0 41 v0 rfl rfl)
  have k0 := h0
  have lt0 : ∀ x ∈ p0, x.block < W.heap.size := by obtain ⟨m, hm⟩ := k0; exact DataW.trod_lt m _ _ _ hm
  obtain ⟨l0, rfl, hcap, hmx, hC, hx⟩ := Z.files_read h0
  clear hA0 hval0 hsz0
  obtain ⟨k, hk⟩ := Z.makes_pure l0
  refine (Z.messuagelaw07_ZipMakes.calls k a0 cap0 l0 true W hC hcap hk).mono fun e W' ⟨he, bel⟩ => ?_
  subst he
  exact ⟨_, rfl, _, _, _, [], _, [], hW', trodAll_mk1 (shut_bool Try.underlying4 _), (trodAll_cons_mk (Below.trod laidOut (by kernel_rfl) (of_decide_eq_true (by kernel_rfl)) k0 bel lt0) trodAll_mk0), rfl, bel.frame _, fun h => by cases h⟩
theorem over : Rows.zipMakesRow.holds Try.pinned (OpenSpec.ofChange Rows.zipMakesSpec) :=
  OpenClaim.holds_of_wide 5 Try.f5 rfl rfl rfl rfl rfl rfl rfl ⟨rfl, rfl, rfl, rfl, rfl⟩ rfl rfl rfl rfl rfl (by kernel_rfl) Try.func5 (by kernel_rfl)
    (of_decide_eq_true (by kernel_rfl)) (by unfold Func.isWrapper; first | (rw [if_pos (by decide +kernel)]; kernel_rfl) | (rw [if_neg (by decide +kernel)]; exact ⟨rfl, rfl⟩))
    (fun os started H enc _ => lifted os started H enc)
theorem proved : Rows.ZipMakesSaid := over
#print axioms proved
end Go.Proofs.Ytkikbbmgibgamaa.zipMakes
namespace Go.Proofs.Ytkikbbmgibgamaa
/-- The row, under a short name, for the claim. -/
theorem zipMakes_holds : Rows.ZipMakesSaid := zipMakes.proved
end Go.Proofs.Ytkikbbmgibgamaa
