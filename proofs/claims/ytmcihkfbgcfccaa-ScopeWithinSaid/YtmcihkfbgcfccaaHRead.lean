/- The table, read: its instances, their symbols and needs. -/
import Derived.Test.YtmcihkfbgcfccaaHTab
import Derived.Test.YtmcihkfbgcfccaaZ0
namespace Go.Proofs.Ytmcihkfbgcfccaa.H
open Go.RowKit Go.Proofs.Ytmcihkfbgcfccaa.Z Go.Proofs.YtmcihkfbgcfccaaW.PrintWords Go.Proofs.YtmcihkfbgcfccaaW.PrintLast Go.Proofs.YtmcihkfbgcfccaaW.PrintMore
set_option linter.unusedVariables false
set_option linter.unusedSimpArgs false

/-- An instance, as far as this layer looks at it. -/
structure Ins where
  sp : Int
  sy : Bool
  vd : Int
  gl : Bool
  syms : List S76
  needs : List Int
/-- Pointers, as the numbers of their blocks. -/
def kP : Kd Nat := Kd.scalar (fun b => .pointer (some ⟨b, 0, none⟩)) (fun _ => rfl)
structure InsR (W : World) (b : Nat) (id : Int) (x : Ins) : Prop where
  out : ∃ sA sc nA nc, W.heap[b]? = some (.cells (instT id x.sp x.sy x.vd (.slice sA x.syms.length sc) (.slice nA x.needs.length nc) x.gl) 74 (0, 0)) ∧ Kd.C k76 W sA x.syms.length x.syms ∧ x.syms.length ≤ sc ∧
    Kd.C (Kd.int .i64) W nA x.needs.length x.needs ∧ x.needs.length ≤ nc
structure TabR (W : World) (bt : Nat) (l : List Ins) : Prop where
  out : ∃ bm g A c, W.heap[bt]? = some (.cells #[.int .i64 12, .int .i64 (l.length + 1), .slice A l.length c, .map (some bm)] 114 (0, 0)) ∧ TabMap W bm g ∧ g.length = l.length ∧ Kd.C kP W A l.length g ∧ l.length ≤ c ∧
    ∀ (k : Nat) (h : k < l.length) (h' : k < g.length), InsR W g[k] (k + 1) l[k]
theorem heap_lt_of {W : World} {b : Nat} {o : Obj} (h : W.heap[b]? = some o) : b < W.heap.size := by rw [Array.getElem?_eq_some_iff] at h; exact h.1
theorem InsR.below {W W1 : World} {b : Nat} {id : Int} {x : Ins} (h : InsR W b id x) (hb : Below W.heap.size W W1) : InsR W1 b id x := by
  obtain ⟨sA, sc, nA, nc, h1, h2, h3, h4, h5⟩ := h.out
  exact ⟨sA, sc, nA, nc, (hb.block b (heap_lt_of h1)).trans h1, Kd.C_below h2 hb, h3, Kd.C_below h4 hb, h5⟩
theorem TabR.below {W W1 : World} {bt : Nat} {l : List Ins} (h : TabR W bt l) (hb : Below W.heap.size W W1) : TabR W1 bt l := by
  obtain ⟨bm, g, A, c, h1, h2, h3, h4, h5, h6⟩ := h.out
  exact ⟨bm, g, A, c, (hb.block bt (heap_lt_of h1)).trans h1, h2.below hb, h3, Kd.C_below h4 hb, h5, fun k a b => (h6 k a b).below hb⟩
/-- The numbers of so many instances. -/
def idsOf (n : Nat) : List Int := (List.range n).map fun k : Nat => (k : Int) + 1
theorem idsOf_succ (n : Nat) : idsOf (n + 1) = idsOf n ++ [(n : Int) + 1] := by simp [idsOf, List.range_succ]
theorem idsOf_zero : idsOf 0 = [] := rfl
theorem idsOf_length (n : Nat) : (idsOf n).length = n := by simp [idsOf]
theorem kP_at {w : World} {A : Option Addr} {n : Nat} {g : List Nat} (h : Kd.C kP w A n g) (i : Nat) (hi : i < n) (hg : i < g.length) : ∃ ad, A = some ad ∧ w.cell? (ad.add i) = some (.pointer (some ⟨g[i], 0, none⟩)) := by
  obtain ⟨h1, h2, h3⟩ := h
  obtain ⟨ad, e, hc⟩ := h3 (by omega)
  obtain ⟨c, _, hk, hu⟩ := hc i g[i] (List.getElem?_eq_getElem hg)
  have hk : c = [.pointer (some ⟨g[i], 0, none⟩)] := hk
  subst hk
  have := hu 0 _ rfl
  exact ⟨ad, e, by simpa [kP, Kd.scalar] using this⟩
theorem InsR.cell {W : World} {b : Nat} {id : Int} {x : Ins} (h : InsR W b id x) : W.cell? ⟨b, 0, none⟩ = some (.int .i64 id) := by
  obtain ⟨sA, sc, nA, nc, h1, _⟩ := h.out
  exact (blk_cell h1 0).trans rfl
theorem info3 : (Try.prog.info? 3).map (fun i => (i.zero, i.size, i.bytes)) = some (some (.int .i64 0), 1, 8) := by kernel_rfl
set_option maxRecDepth 100000 in
set_option maxHeartbeats 1000000 in
/-- (*Table).IDs. -/
theorem ids_calls (w : World) (bt : Nat) (l : List Ins) (h : TabR w bt l) (hl : l.length ≤ 1000) :
    Calls Try.prog 34 #[.pointer (some ⟨bt, 0, none⟩)] w fun e w' => ∃ v, e = .returned v ∧ (Kd.int .i64).R 3 w' w.heap.size (fun _ => True) v (idsOf l.length) ∧ Below w.heap.size w w' := by
  have HT := Aside0.mk h
  obtain ⟨bm, g, A, c, h1, h2, h3, h4, h5, h6⟩ := h.out
  have hc : w.cell? ⟨bt, 2, none⟩ = some (.slice A l.length c) := (blk_cell h1 2).trans rfl
  have HP := Aside0.mk h4
  have HI := Aside0.mk h6
  have hg := h3
  clear h h1 h2 h3 h4 h6
  go_enter Try.func34, Try.ntmps34
  go_wp2
  go_loopw [3, 11] (fun v3 v11 wr => ∃ i : Nat, i ≤ l.length ∧ v11 = .int .i64 i ∧ Aside0 ((Kd.int .i64).R 3 wr w.heap.size (fun _ => True) v3 (idsOf i)) ∧ Aside0 (Below w.heap.size w wr)) (fun _ v11 _ => l.length - (intOf v11).toNat)
  case atStart => exact ⟨0, by omega, rfl, ⟨by rw [idsOf_zero]; exact Kd.R_nil _ _ _ _ _⟩, ⟨Below.refl _ _⟩⟩
  case round =>
    obtain ⟨i, hi, rfl, HO, HB⟩ := hrel
    by_cases hlt : (i : Int) < l.length
    · have hin : i < l.length := by omega
      obtain ⟨ad, rfl, hp⟩ := kP_at HP.out i hin (by omega)
      replace hp := (HB.out.cell (World.block_lt_of_cell? w _ hp)).trans hp
      have hid := (HI.out i hin (by omega)).cell
      replace hid := (HB.out.cell (World.block_lt_of_cell? w _ hid)).trans hid
      have hs := HB.out.size
      go_wp2_with ((with_reducible refine gate_builtin (b := .append) (xs := #[.tmp 15, .tmp 20]) rfl ?_); at_builtin; refine Kd.R_append (Kd.int .i64) (w0 := w) w.heap.size rfl (.tmp 15) (.tmp 20) 31 3 (.int .i64 0) 8 rfl Try.underlying31 info3 rfl (by decide) (by omega) u3 (idsOf i) ((i : Int) + 1) [.int .i64 ((i : Int) + 1)] (fun _ => True) (fun _ => False) rfl rfl ?aP (fun _ hk => hk.elim) ?aF ?aO ?aB ?aS ?aL ?_; (case aP => exact rfl); (case aB => exact HB.out); (case aF => exact (fun _ _ => trivial)); (case aO => exact HO.out); (case aS => exact hs); (case aL => rw [idsOf_length]; omega); intro v5 w5 ho hb hg hat; rw [← idsOf_succ] at ho; have HO5 := Aside0.mk ho; have HB5 := Aside0.mk hb; clear ho hb hg hat HO HB)
      refine ⟨⟨i + 1, by omega, by simp, HO5, HB5⟩, ?_⟩
      simp only [intOf]
      omega
    · obtain rfl : i = l.length := by omega
      go_wp2
      go_ret
      exact ⟨_, rfl, HO.out, HB.out⟩
end Go.Proofs.Ytmcihkfbgcfccaa.H
