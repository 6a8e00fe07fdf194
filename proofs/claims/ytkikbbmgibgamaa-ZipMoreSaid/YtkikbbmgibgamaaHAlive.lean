import Derived.Test.YtkikbbmgibgamaaHEval
import Derived.Lib.SlBytesConst
namespace Go.Proofs.Ytkikbbmgibgamaa.Z
open Go.RowKit Go.Proofs.Ytkikbbmgibgamaa.H Go.Proofs.YtkikbbmgibgamaaW.PrintWords Go.Proofs.YtkikbbmgibgamaaW.PrintLast Go.Proofs.YtkikbbmgibgamaaW.PrintMore
set_option linter.unusedVariables false
set_option linter.unusedSimpArgs false

def messuagelaw07_alive.f (k : Nat) : Option Bool := some true
theorem messuagelaw07_alive.mono (k : Nat) : LeO (messuagelaw07_alive.f k) (messuagelaw07_alive.f (k + 1)) := fun r h => h
def aliveW (w : World) : World := (w.alloc (.cells #[.int .u8 120, .int .u8 121] 5 (2, 3))).alloc (.cells #[.string ⟨#[97]⟩, .slice (some ⟨w.heap.size, 0, none⟩) 2 2] 50)
theorem alive_C (w : World) : Kd.C k50 (aliveW w) (some ⟨w.heap.size + 1, 0, none⟩) aliveL.length aliveL := by
  have h0 : (aliveW w).heap[w.heap.size]? = some (.cells #[.int .u8 120, .int .u8 121] 5 (2, 3)) := by
    rw [aliveW, Below.heap_alloc _ _ _ (by simp)]; exact heap_alloc_new w _
  have h1 : (aliveW w).heap[w.heap.size + 1]? = some (.cells #[.string ⟨#[97]⟩, .slice (some ⟨w.heap.size, 0, none⟩) 2 2] 50 (0, 0)) := by
    have := heap_alloc_new (w.alloc (.cells #[.int .u8 120, .int .u8 121] 5 (2, 3))) (.cells #[.string ⟨#[97]⟩, .slice (some ⟨w.heap.size, 0, none⟩) 2 2] 50)
    rw [World.size_alloc] at this
    exact this
  refine ⟨rfl, by decide, fun _ => ⟨_, rfl, fun j p hj => ?_⟩⟩
  have hj0 : j = 0 := by
    have := (List.getElem?_eq_some_iff.1 hj).1
    simp [aliveL] at this; omega
  subst hj0
  obtain rfl : p = ⟨⟨#[97]⟩, [120, 121]⟩ := by simpa [aliveL] using hj.symm
  refine ⟨[.string ⟨#[97]⟩, .slice (some ⟨w.heap.size, 0, none⟩) 2 2], rfl, k50_mk (aliveW w) ⟨⟨#[97]⟩, [120, 121]⟩ (A1 := some ⟨w.heap.size, 0, none⟩) (c1 := 2) (by decide) ?_, fun i u hu => ?_⟩
  · refine Kd.C_of_reads (d := (0 : Int)) (h1 := fun _ => rfl) ⟨rfl, by decide, fun _ => ⟨_, rfl, fun i hi => ?_⟩⟩
    rw [add_plain]
    have hc : (aliveW w).cell? ⟨w.heap.size, i, none⟩ = (#[Value.int .u8 120, Value.int .u8 121] : Array Value)[i]? := by
      simp [World.cell?, h0]
    rw [hc]
    have hi2 : i < 2 := hi
    obtain rfl | rfl : i = 0 ∨ i = 1 := by omega
    all_goals rfl
  · rw [Nat.zero_mul, Nat.zero_add, add_plain, blk_cell h1 i, ← hu]
    simp

set_option maxRecDepth 100000 in
theorem messuagelaw07_alive.calls (k : Nat)  (r : Bool) (w : World) (h : messuagelaw07_alive.f k  = some r) :
    Calls Try.prog 11 #[] w fun e w' => e = .returned (.bool r) ∧ Below w.heap.size w w' := by
  obtain rfl : true = r := by simpa [messuagelaw07_alive.f] using h
  have kc := fun (w : World) (C : Array Value) (n c : Nat) => Lib.run_convert_bytes_const (P := Try.prog) w 22 5 C n c Try.underlying22 Try.underlying5
  clear h
  go_enter Try.func11, Try.ntmps11
  go_wp2_with fail
  refine (zip_Make.calls (some ⟨w.heap.size + 1, 0, none⟩) 1 aliveL aliveB 0 (aliveW w) (alive_C w) (by decide) ev_make).mono ?_
  rintro e w1 ⟨v, rfl, hv, hb⟩
  obtain ⟨A, c, rfl⟩ := Kd.R_slice hv
  have hW : Below w.heap.size w (aliveW w) := ((Below.refl _ w).alloc (Nat.le_refl _) _).alloc (by simp) _
  have HB := Aside0.mk (below_then hW hW.size hb)
  have HV := Aside0.mk hv
  clear hv hb hW kc
  go_wp2_with fail
  refine (zip_Find.calls 600 A c aliveB ⟨#[97]⟩ 256 2 0 w1 (Kd.R_reads' HV.out).2.2 (Kd.R_reads' HV.out).2.1 ev_a).mono ?_
  rintro e w2 ⟨rfl, hb⟩
  have HV2 := Aside0.mk (Kd.R_below HV.out hb)
  have HB2 := Aside0.mk (below_then HB.out HB.out.size hb)
  clear hb HV HB
  go_wp2_with fail
  refine (zip_Find.calls 600 A c aliveB ⟨#[98]⟩ 0 0 71 w2 (Kd.R_reads' HV2.out).2.2 (Kd.R_reads' HV2.out).2.1 ev_b).mono ?_
  rintro e w3 ⟨rfl, hb⟩
  have HB3 := Aside0.mk (below_then HB2.out HB2.out.size hb)
  clear hb HV2 HB2
  go_wp2_with fail
  refine (zip_List.calls 600 none 0 [] [] 70 w3 (Kd.C_nil _ _) (Nat.le_refl _) ev_list).mono ?_
  rintro e w4 ⟨v4, rfl, hv4, hb⟩
  have HB4 := Aside0.mk (below_then HB3.out HB3.out.size hb)
  clear hb HB3 hv4
  go_wp2
  go_ret
  exact ⟨rfl, HB4.out⟩
end Go.Proofs.Ytkikbbmgibgamaa.Z
