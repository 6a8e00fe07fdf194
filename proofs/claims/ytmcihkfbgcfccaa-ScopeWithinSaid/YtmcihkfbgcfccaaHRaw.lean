/- The document's instances, as plain cells; messuageref22.New, Find. -/
import Derived.Test.YtmcihkfbgcfccaaHNeed
namespace Go.Proofs.Ytmcihkfbgcfccaa.H
open Go.RowKit Go.Proofs.Ytmcihkfbgcfccaa.Z Go.Proofs.YtmcihkfbgcfccaaW.PrintWords Go.Proofs.YtmcihkfbgcfccaaW.PrintLast Go.Proofs.YtmcihkfbgcfccaaW.PrintMore
set_option linter.unusedVariables false
set_option linter.unusedSimpArgs false
/-- An instance of the document's, its slices as they stand in the cells. -/
structure Raw where
  id : Int
  sp : Int
  sy : Bool
  vd : Int
  s : Option Addr × Nat × Nat
  n : Option Addr × Nat × Nat
  gl : Bool
def sl (v : Option Addr × Nat × Nat) : Value := .slice v.1 v.2.1 v.2.2
def Raw.cells (r : Raw) : Array Value := instR r.id r.sp r.sy r.vd (sl r.s) (sl r.n) r.gl
theorem Raw.len (r : Raw) : r.cells.toList.length = 74 := rfl
theorem Raw.size (r : Raw) : r.cells.size = 74 := rfl
theorem Raw.one (r : Raw) : ∀ u ∈ r.cells.toList, u.oneCell' = true := by
  intro v hv
  simp only [Raw.cells, instR, List.mem_cons, List.not_mem_nil, or_false] at hv
  repeat' (first | (rcases hv with h | hv; (subst h; rfl)) | (subst hv; rfl))
def kI : Kd Raw where
  sz := 74
  E := []
  K := fun _ x cs => cs = x.cells.toList
  M := fun _ _ _ x cs => cs = x.cells.toList
  K_len := fun h => by rw [h]; rfl
  K_one := fun h u hu => by rw [h] at hu; exact Raw.one _ u hu
  K_below := fun _ h => h
  K_of_M := fun h => h
  M_mono := fun _ h => h
  M_bound := fun h => h
  M_move := fun _ h => h
  M_lower := fun _ h => h
theorem at_I {w : World} {A : Option Addr} {n : Nat} {rs : List Raw} (h : kI.C w A n rs) (i : Nat) (hi : i < n) (hr : i < rs.length) : ∃ ad, A = some ad ∧ ∀ j v, rs[i].cells[j]? = some v → w.cell? (ad.add (i * 74 + j)) = some v := by
  obtain ⟨h1, h2, h3⟩ := h
  obtain ⟨ad, e, hc⟩ := h3 (by omega)
  obtain ⟨c, _, hk, hu⟩ := hc i rs[i] (List.getElem?_eq_getElem hr)
  have hk : c = rs[i].cells.toList := hk
  subst hk
  exact ⟨ad, e, fun j v hv => hu j v (by rw [Array.getElem?_toList]; exact hv)⟩
theorem info94 : (Try.prog.info? 94).map (fun i => (i.zero, i.size, i.bytes)) = some (some (.agg (instR 0 0 false 0 (.slice none 0 0) (.slice none 0 0) false)), 74, 696) := by kernel_rfl
/-- The place of an instance. -/
def findIx (n : Nat) (id : Int) : Int := if 1 ≤ id ∧ id ≤ n then id - 1 else -1
set_option maxRecDepth 100000 in
set_option maxHeartbeats 1000000 in
theorem find_calls (w : World) (m n : Int) (A : Option Addr) (c : Nat) (rs : List Raw) (id : Int) (hC : kI.C w A rs.length rs) (hl : rs.length ≤ 1000) (hids : ∀ k (h : k < rs.length), rs[k].id = k + 1) :
    Calls Try.prog 32 #[.agg #[.int .i64 m, .int .i64 n, .slice A rs.length c], .int .i64 id] w fun e w' => e = .returned (.int .i64 (findIx rs.length id)) ∧ Below w.heap.size w w' := by
  obtain ⟨w1, hw1⟩ : ∃ w1, w1 = w.alloc (.cells #[.int .i64 m, .int .i64 n, .slice A rs.length c] 27) := ⟨_, rfl⟩
  have hbk : w1.heap[w.heap.size]? = some (.cells #[.int .i64 m, .int .i64 n, .slice A rs.length c] 27 (0, 0)) := by rw [hw1]; exact heap_alloc_new w _
  have HB := Aside0.mk (show Below w.heap.size w w1 by rw [hw1]; exact below_alloc (Below.refl _ _) _)
  have HC := Aside0.mk (Kd.C_below hC HB.out)
  have HI := Aside0.mk hids
  have HW := Aside0.mk hw1
  have hc2 : w1.cell? ⟨w.heap.size, 2, none⟩ = some (.slice A rs.length c) := (blk_cell hbk 2).trans rfl
  obtain ⟨res, hres⟩ : ∃ res, findIx rs.length id = res := ⟨_, rfl⟩
  rw [hres]
  have HR := Aside0.mk hres
  clear hC hids hw1 hbk hres
  go_enter Try.func32, Try.ntmps32
  go_wp2_with fail
  rw [← HW.out]
  go_loop [5] (fun v5 => ∃ i : Nat, i ≤ rs.length ∧ v5 = .int .i64 i ∧ ¬ (1 ≤ id ∧ id ≤ i)) (fun v5 => rs.length - (intOf v5).toNat)
  case atStart => exact ⟨0, by omega, rfl, by omega⟩
  case round =>
    obtain ⟨i, hi, rfl, hno⟩ := hrel
    by_cases hlt : (i : Int) < rs.length
    · have hin : i < rs.length := by omega
      obtain ⟨ad, rfl, hcl⟩ := at_I HC.out i hin hin
      have hc0 : w1.cell? (ad.add (i * 74)) = some (.int .i64 ((i : Int) + 1)) := hcl 0 _ (by rw [← HI.out i hin]; rfl)
      clear hcl
      by_cases he : (i : Int) + 1 = id
      · subst he
        have hr : res = (i : Int) := by
          rw [← HR.out, findIx, if_pos (by omega)]
          omega
        have HR2 := Aside0.mk hr
        clear hr HR
        go_wp2
        go_ret
        exact ⟨by rw [HR2.out]; rfl, HB.out⟩
      · have hb : ((i : Int) + 1 == id) = false := beq_eq_false_iff_ne.mpr he
        go_wp2
        refine ⟨⟨i + 1, by omega, by simp, by omega⟩, ?_⟩
        simp only [intOf]
        omega
    · obtain rfl : i = rs.length := by omega
      have hr : res = -1 := by rw [← HR.out, findIx, if_neg (by omega)]
      have HR2 := Aside0.mk hr
      clear hr HR
      go_wp2
      go_ret
      exact ⟨by rw [HR2.out]; rfl, HB.out⟩
end Go.Proofs.Ytmcihkfbgcfccaa.H
