/- The slice of files with one more: its elements lead to what came in. -/
import Derived.Test.YtkikbbmgibgamaaHAlive
import Derived.Test.YtkikbbmgibgamaaZ6
import Derived.Test.YtkikbbmgibgamaaZ9
namespace Go.Proofs.Ytkikbbmgibgamaa.Z
open Go.RowKit Go.Proofs.Ytkikbbmgibgamaa.H Go.Proofs.YtkikbbmgibgamaaW.PrintWords Go.Proofs.YtkikbbmgibgamaaW.PrintLast Go.Proofs.YtkikbbmgibgamaaW.PrintMore
set_option linter.unusedVariables false
set_option linter.unusedSimpArgs false

/-- A slice as it stands in a cell. -/
def kS : Kd (Option Addr × Nat × Nat) := Kd.scalar (fun v => .slice v.1 v.2.1 v.2.2) (fun _ => rfl)
def kw : Kd (ByteArray × Option Addr × Nat × Nat) := Kd.pair Kd.string kS
def cellsOfW (v : ByteArray × Option Addr × Nat × Nat) : List Value := [.string v.1, .slice v.2.1 v.2.2.1 v.2.2.2]
/-- The files, as their cells lead to them. -/
def Rel (W : World) (ws : List (ByteArray × Option Addr × Nat × Nat)) (l : List S50) : Prop := ws.length = l.length ∧ ∀ (j : Nat) (h : j < ws.length) (h' : j < l.length), k50.K W l[j] (cellsOfW ws[j])
theorem Rel.below {W W1 : World} {ws : List (ByteArray × Option Addr × Nat × Nat)} {l : List S50} (h : Rel W ws l) (hb : Below W.heap.size W W1) : Rel W1 ws l := ⟨h.1, fun j a b => k50.K_below hb (h.2 j a b)⟩
theorem Rel.app {W : World} {ws : List (ByteArray × Option Addr × Nat × Nat)} {l : List S50} (h : Rel W ws l) {v : ByteArray × Option Addr × Nat × Nat} {x : S50} (hv : k50.K W x (cellsOfW v)) : Rel W (ws ++ [v]) (l ++ [x]) := by
  refine ⟨by simp [h.1], fun j a b => ?_⟩
  by_cases hj : j < l.length
  · rw [List.getElem_append_left hj, List.getElem_append_left (by rw [h.1]; exact hj)]
    exact h.2 j _ hj
  · have : j = l.length := by simp at b; omega
    subst this
    have h0 := h.1
    rw [List.getElem_append_right (Nat.le_refl _), List.getElem_append_right (by omega)]
    simpa [h0] using hv
theorem kw_K {W : World} {v : ByteArray × Option Addr × Nat × Nat} {cs : List Value} : kw.K W v cs ↔ cs = cellsOfW v := by
  constructor
  · rintro ⟨c0, c1, rfl, rfl, rfl⟩
    rfl
  · rintro rfl
    exact ⟨_, _, rfl, rfl, rfl⟩
theorem k50_cells {W : World} {x : S50} {cs : List Value} (h : k50.K W x cs) : ∃ v, cs = cellsOfW v := by
  obtain ⟨c0, c1, rfl, h0, A, c, rfl, _⟩ := h
  have h0 : c0 = [.string x.f0] := h0
  subst h0
  exact ⟨(x.f0, A, x.f1.length, c), rfl⟩
theorem split_C {W : World} {A : Option Addr} {n : Nat} {l : List S50} (h : Kd.C k50 W A n l) : ∃ ws, Kd.C kw W A n ws ∧ Rel W ws l := by
  obtain ⟨h1, h2, h3⟩ := h
  by_cases hn : 0 < n
  · obtain ⟨ad, e, hc⟩ := h3 hn
    have : ∀ j, ∃ v : ByteArray × Option Addr × Nat × Nat, ∀ (hj : j < l.length), k50.K W l[j] (cellsOfW v) ∧ ∀ i u, (cellsOfW v)[i]? = some u → W.cell? (ad.add (j * 2 + i)) = some u := by
      intro j
      by_cases hj : j < l.length
      · obtain ⟨c, _, hk, hu⟩ := hc j l[j] (List.getElem?_eq_getElem hj)
        obtain ⟨v, rfl⟩ := k50_cells hk
        exact ⟨v, fun _ => ⟨hk, hu⟩⟩
      · exact ⟨(⟨#[]⟩, none, 0, 0), fun h => absurd h hj⟩
    obtain ⟨g, hg⟩ := Classical.axiomOfChoice this
    refine ⟨(List.range n).map g, ⟨by simp, h2, fun _ => ⟨ad, e, fun j p hj => ?_⟩⟩, by simp [h1], fun j a b => ?_⟩
    · rw [List.getElem?_map, Option.map_eq_some_iff] at hj
      obtain ⟨j', hj, rfl⟩ := hj
      obtain ⟨hj1, hj2⟩ := List.getElem?_eq_some_iff.1 hj
      simp at hj1 hj2
      subst hj2
      exact ⟨cellsOfW (g j), rfl, kw_K.2 rfl, (hg j (by omega)).2⟩
    · simpa using (hg j b).1
  · have : l = [] := by cases l with | nil => rfl | cons x l => simp at h1; omega
    subst this
    exact ⟨[], ⟨h1, h2, fun h => absurd h hn⟩, rfl, fun j a b => by simp at b⟩
theorem join_C {W : World} {A : Option Addr} {n : Nat} {ws : List (ByteArray × Option Addr × Nat × Nat)} {l : List S50} (h : Kd.C kw W A n ws) (hr : Rel W ws l) : Kd.C k50 W A n l := by
  obtain ⟨h1, h2, h3⟩ := h
  refine ⟨hr.1 ▸ h1, h2, fun hn => ?_⟩
  obtain ⟨ad, e, hc⟩ := h3 hn
  refine ⟨ad, e, fun j p hj => ?_⟩
  obtain ⟨hj1, hj2⟩ := List.getElem?_eq_some_iff.1 hj
  subst hj2
  have hj' : j < ws.length := by rw [hr.1]; exact hj1
  obtain ⟨c, hl, hk, hu⟩ := hc j ws[j] (List.getElem?_eq_getElem hj')
  rw [kw_K] at hk
  subst hk
  exact ⟨_, rfl, hr.2 j hj' hj1, hu⟩
theorem one_C (W : World) (x : S50) {v : ByteArray × Option Addr × Nat × Nat} (g : Nat) (hv : k50.K W x (cellsOfW v)) (hb : W.heap[g]? = some (.cells (cellsOfW v).toArray 50 (0, 0))) : Kd.C k50 W (some ⟨g, 0, none⟩) [x].length [x] := by
  refine ⟨rfl, by simp, fun _ => ⟨_, rfl, fun j p hj => ?_⟩⟩
  have hj0 : j = 0 := by
    have := (List.getElem?_eq_some_iff.1 hj).1
    simp at this; omega
  subst hj0
  obtain rfl : x = p := by simpa using hj
  refine ⟨cellsOfW v, rfl, hv, fun i u hu => ?_⟩
  rw [Nat.zero_mul, Nat.zero_add, add_plain, blk_cell hb i, ← hu]
  simp

/-- The world with the box of the file that came in. -/
structure Boxed (w W : World) (s : ByteArray) (A1 : Option Addr) (n c1 : Nat) : Prop where
  down : Below w.heap.size w W
  blk : W.heap[w.heap.size]? = some (.cells #[.string s, .slice A1 n c1] 50 (0, 0))
theorem Boxed.below {w W W1 : World} {s : ByteArray} {A1 : Option Addr} {n c1 : Nat} (h : Boxed w W s A1 n c1) (hb : Below W.heap.size W W1) : Boxed w W1 s A1 n c1 :=
  ⟨below_then h.down h.down.size hb, by
    have hlt : w.heap.size < W.heap.size := by
      have := h.blk
      rw [Array.getElem?_eq_some_iff] at this
      exact this.1
    rw [hb.block _ hlt]
    exact h.blk⟩
theorem Boxed.start (w : World) (s : ByteArray) (A1 : Option Addr) (n c1 : Nat) : Boxed w (w.alloc (.cells #[.string s, .slice A1 n c1] 50)) s A1 n c1 :=
  ⟨below_alloc (Below.refl _ _) _, heap_alloc_new w _⟩
theorem Boxed.c0 {w W : World} {s : ByteArray} {A1 : Option Addr} {n c1 : Nat} (h : Boxed w W s A1 n c1) : W.cell? ⟨w.heap.size, 0, none⟩ = some (.string s) := (blk_cell h.blk 0).trans rfl
theorem Boxed.c1 {w W : World} {s : ByteArray} {A1 : Option Addr} {n c1 : Nat} (h : Boxed w W s A1 n c1) : W.cell? ⟨w.heap.size, 1, none⟩ = some (.slice A1 n c1) := (blk_cell h.blk 1).trans rfl

theorem more_call {w5 : World} {B0 : Nat} (A5 : Option Addr) (c5 : Nat) {ws : List (ByteArray × Option Addr × Nat × Nat)} {v : ByteArray × Option Addr × Nat × Nat} {l0 : List S50} {x : S50} {b : List Int} {f : Int} (hwl : ws.length = l0.length)
    (ho : kw.R 50 w5 B0 (fun _ => True) (.slice A5 (ws ++ [v]).length c5) (ws ++ [v])) (hs : B0 ≤ w5.heap.size) (hr : Rel w5 ws l0) (hx : k50.K w5 x (cellsOfW v)) (hm : zip_Make.f (l0 ++ [x]) = some (b, f)) :
    Calls Try.prog 15 #[.slice A5 (l0.length + 1) c5] w5 fun e w' => ∃ v0_ : Value, e = .returned (.tuple #[v0_, .int .i64 f]) ∧ Kd.R (Kd.int .u8) 5 w' w5.heap.size (fun _ => True) v0_ b ∧ Below w5.heap.size w5 w' := by
  have hn : (l0 ++ [x]).length = l0.length + 1 := by simp
  have hn' : (ws ++ [v]).length = (l0 ++ [x]).length := by simp [hwl]
  rw [← hn]
  have hR := Kd.R_reads' ho
  rw [hn'] at hR
  exact zip_Make.calls A5 c5 (l0 ++ [x]) b f w5 (join_C hR.2.2 (hr.app hx)) hR.2.1 hm
set_option maxRecDepth 100000 in
set_option maxHeartbeats 1000000 in
theorem more_walk (k : Nat) (A0 : Option Addr) (c0 : Nat) (l0 : List S50) (s : ByteArray) (A1 : Option Addr) (c1 : Nat) (d : List Int) (nm : ByteArray) (w : World) (hr0 : Kd.C k50 w A0 l0.length l0) (hc0 : l0.length ≤ c0)
    (hd : k50.K w ⟨s, d⟩ (cellsOfW (s, A1, d.length, c1))) (g0 g1 : Bool) (hg0 : messuagelaw07_great.f k l0 = some g0) (hg1 : messuagelaw07_great.f k [⟨s, d⟩] = some g1)
    (hmid : g0 = false → g1 = false → ∃ a e b f, zip_Make.f l0 = some (a, e) ∧ zip_Make.f (l0 ++ [⟨s, d⟩]) = some (b, f) ∧ l0.length ≤ 300 ∧ ((e ≠ 0 ∧ f ≠ 0) ∨ (e = 0 ∧ f ≠ 0) ∨ (e = 0 ∧ f = 0 ∧
      ∃ p n g p' n' h, zip_Find.f k a nm = some (p, n, g) ∧ zip_Find.f k b nm = some (p', n', h) ∧ ((g = 0 ∧ h = 0 ∧ p = p' ∧ n = n') ∨ (g = 71 ∧ ((h = 0 ∧ s.toList = nm.toList) ∨ (h ≠ 0 ∧ s.toList ≠ nm.toList))))))) :
    Calls Try.prog 8 #[.slice A0 l0.length c0, .agg #[.string s, .slice A1 d.length c1], .string nm] w fun e w' => e = .returned (.bool true) ∧ Below w.heap.size w w' := by
  have HR0 := Aside0.mk hr0
  have HD := Aside0.mk hd
  have HM := Aside0.mk hmid
  have G0 := Aside0.mk hg0
  have G1 := Aside0.mk hg1
  have hC1 : (cellsOfW (s, A1, d.length, c1)).toArray = #[.string s, .slice A1 d.length c1] := rfl
  clear hr0 hd hmid hg0 hg1
  go_enter Try.func8, Try.ntmps8
  go_wp2_with fail
  refine (messuagelaw07_great.calls k A0 c0 l0 g0 _ (Kd.C_alloc HR0.out _) hc0 G0.out).mono ?_
  rintro e w1 ⟨rfl, hdr⟩
  have HX := Aside0.mk (Boxed.below (Boxed.start w s A1 d.length c1) (W1 := w1) (by obtain ⟨n, rfl⟩ := hdr.out; exact pw_below_drewN (Below.refl _ _) n))
  clear hdr
  cases g0 with
  | true =>
    go_wp2
    go_ret
    exact ⟨rfl, HX.out.down⟩
  | false =>
    have hz0 := HX.out.c0
    have hz1 := HX.out.c1
    go_wp2_with fail
    refine (messuagelaw07_great.calls k (some ⟨w1.heap.size, 0, none⟩) 1 [⟨s, d⟩] g1 _ (one_C _ _ _ (k50.K_below (HX.out.below (below_alloc (Below.refl _ _) _)).down HD.out) (heap_alloc_new w1 _)) (by simp) G1.out).mono ?_
    rintro e w2 ⟨rfl, hdr⟩
    have HX2 := Aside0.mk (HX.out.below (W1 := w2) (by obtain ⟨n, rfl⟩ := hdr.out; exact pw_below_drewN (below_alloc (Below.refl _ _) _) n))
    clear hdr hz0 hz1 HX
    cases g1 with
    | true =>
      go_wp2
      go_ret
      exact ⟨rfl, HX2.out.down⟩
    | false =>
      obtain ⟨a, e, b, f, hm1, hm2, hl3, hrest⟩ := HM.out (by first | rfl | trivial) (by first | rfl | trivial)
      have M2 := Aside0.mk hm2
      have HRE := Aside0.mk hrest
      clear HM hm2 hrest
      go_wp2_with fail
      refine (zip_Make.calls A0 c0 l0 a e w2 (Kd.C_below HR0.out HX2.out.down) hc0 hm1).mono ?_
      rintro q w3 ⟨v, rfl, hv, hb⟩
      obtain ⟨A, c, rfl⟩ := Kd.R_slice hv
      have HX3 := Aside0.mk (HX2.out.below hb)
      have HV := Aside0.mk hv
      clear hv hb HX2
      obtain ⟨ws, hws, hrel⟩ := split_C (Kd.C_below HR0.out HX3.out.down)
      have HW := Aside0.mk hws
      have HREL := Aside0.mk hrel
      have hwl : ws.length = l0.length := hrel.1
      clear hws hrel
      go_wp2_with (first
        | ((with_reducible refine gate_builtin (b := .append) (xs := #[.tmp 30, .tmp 31]) rfl ?_); at_builtin; refine Kd.R_append_rows kw (Rr := kw.K w3) (w0 := w3) w3.heap.size rfl (.tmp 30) (.tmp 31) 41 50 _ 40 rfl Try.underlying41 info50 rfl (by decide) (by omega) (.slice none 0 0) [] ws A0 l0.length c0 (fun _ => True) (fun _ => False) rfl rfl ?aO ?aR (fun _ _ h => h) (fun _ h => h.elim) ?aF ?aB ?aS ?aL ?_; (case aR => exact HW.out); (case aB => exact Below.refl _ _); (case aF => exact (fun _ _ => trivial)); (case aO => exact Kd.R_nil _ _ _ _ _); (case aS => exact Nat.le_refl _); (case aL => simp only [List.length_nil]; omega); intro v4 w4 ho hb hg hat; rw [List.nil_append] at ho; obtain ⟨A4, c4, rfl⟩ := Kd.R_slice ho; have HO4 := Aside0.mk (show kw.R 50 w4 w3.heap.size (fun _ => True) (.slice A4 l0.length c4) ws from hwl ▸ ho); have HB4 := Aside0.mk hb; have HX4 := Aside0.mk (HX3.out.below hb); have hz0 := HX4.out.c0; have hz1 := HX4.out.c1; clear ho hb hg hat HW)
        | ((with_reducible refine gate_builtin (b := .append) (xs := #[.tmp 33, .tmp 35]) rfl ?_); at_builtin; refine Kd.R_append kw (w0 := w3) w3.heap.size rfl (.tmp 33) (.tmp 35) 41 50 _ 40 rfl Try.underlying41 info50 rfl (by decide) (by omega) (.slice A4 l0.length c4) ws (s, A1, d.length, c1) [.string s, .slice A1 d.length c1] (fun _ => True) (fun _ => False) rfl rfl ?aP (fun _ hk => hk.elim) ?aF ?aO ?aB ?aS ?aL ?_; (case aP => exact ⟨[.string s], [.slice A1 d.length c1], rfl, rfl, rfl⟩); (case aB => exact HB4.out); (case aF => exact (fun _ _ => trivial)); (case aO => exact HO4.out); (case aS => exact HB4.out.size); (case aL => rw [hwl]; omega); intro v5 w5 ho hb hg hat; obtain ⟨A5, c5, rfl⟩ := Kd.R_slice ho; have HO5 := Aside0.mk ho; have HX5 := Aside0.mk (HX3.out.below hb); have HB5 := Aside0.mk hb; clear ho hb hg hat HO4 HX4 HB4 hz0 hz1))
      have hMk := more_call A5 c5 hwl HO5.out HB5.out.size (HREL.out.below HB5.out) (k50.K_below HX5.out.down HD.out) M2.out
      refine hMk.mono ?_
      rintro q w6 ⟨v, rfl, hv, hb⟩
      obtain ⟨B6, c6, rfl⟩ := Kd.R_slice hv
      have HX6 := Aside0.mk (HX5.out.below hb)
      have HV6 := Aside0.mk hv
      have HA6 := Aside0.mk (Kd.R_below (Kd.R_below HV.out HB5.out) hb)
      clear hv hb hMk HO5 HX5 HB5 HREL HV
      rcases HRE.out with ⟨he, hf⟩ | ⟨rfl, hf⟩ | ⟨rfl, rfl, p, n, g, p', n', h, hf1, hf2, hcase⟩
      · have e1 : (e != 0) = true := bne_iff_ne.mpr he
        have e2 : (e == 0) = false := beq_eq_false_iff_ne.mpr he
        have f1 : (f != 0) = true := bne_iff_ne.mpr hf
        clear HRE M2 he hf
        go_wp2_with fail
        refine (messuagelaw07_alive.calls 0 true _ rfl).mono ?_
        rintro q w7 ⟨rfl, hb⟩
        have HX7 := Aside0.mk (HX6.out.below hb)
        clear hb
        go_wp2
        go_ret
        exact ⟨rfl, HX7.out.down⟩
      · have f1 : (f != 0) = true := bne_iff_ne.mpr hf
        clear HRE M2 hf
        go_wp2_with fail
        refine (messuagelaw07_alive.calls 0 true _ rfl).mono ?_
        rintro q w7 ⟨rfl, hb⟩
        have HX7 := Aside0.mk (HX6.out.below hb)
        clear hb
        go_wp2
        go_ret
        exact ⟨rfl, HX7.out.down⟩
      · have F1 := Aside0.mk hf1
        have F2 := Aside0.mk hf2
        have HCS := Aside0.mk hcase
        clear HRE M2 hf1 hf2 hcase
        go_wp2_with fail
        refine (zip_Find.calls k A c a nm p n g w6 (Kd.R_reads' HA6.out).2.2 (Kd.R_reads' HA6.out).2.1 F1.out).mono ?_
        rintro q w7 ⟨rfl, hb⟩
        have HX7 := Aside0.mk (HX6.out.below hb)
        have HV7 := Aside0.mk (Kd.R_below HV6.out hb)
        clear hb HV6 HA6 HX6
        go_wp2_with fail
        refine (zip_Find.calls k B6 c6 b nm p' n' h w7 (Kd.R_reads' HV7.out).2.2 (Kd.R_reads' HV7.out).2.1 F2.out).mono ?_
        rintro q w8 ⟨rfl, hb⟩
        have HX8 := Aside0.mk (HX7.out.below hb)
        clear hb HV7 HX7
        have hz0 := HX8.out.c0
        rcases HCS.out with ⟨rfl, rfl, rfl, rfl⟩ | ⟨rfl, ⟨rfl, hs⟩ | ⟨hh, hs⟩⟩
        · clear HCS F1 F2
          go_wp2_with fail
          refine (messuagelaw07_alive.calls 0 true _ rfl).mono ?_
          rintro q w9 ⟨rfl, hb⟩
          have HX9 := Aside0.mk (HX8.out.below hb)
          clear hb
          go_wp2
          go_ret
          exact ⟨rfl, HX9.out.down⟩
        · have s1 : (s.toList == nm.toList) = true := beq_iff_eq.mpr hs
          clear HCS F1 F2 hs
          go_wp2_with fail
          refine (messuagelaw07_alive.calls 0 true _ rfl).mono ?_
          rintro q w9 ⟨rfl, hb⟩
          have HX9 := Aside0.mk (HX8.out.below hb)
          clear hb
          go_wp2
          go_ret
          exact ⟨rfl, HX9.out.down⟩
        · have h1 : (h == 0) = false := beq_eq_false_iff_ne.mpr hh
          have s1 : (s.toList == nm.toList) = false := beq_eq_false_iff_ne.mpr hs
          clear HCS F1 F2 hh hs
          go_wp2_with fail
          refine (messuagelaw07_alive.calls 0 true _ rfl).mono ?_
          rintro q w9 ⟨rfl, hb⟩
          have HX9 := Aside0.mk (HX8.out.below hb)
          clear hb
          go_wp2
          go_ret
          exact ⟨rfl, HX9.out.down⟩
end Go.Proofs.Ytkikbbmgibgamaa.Z
