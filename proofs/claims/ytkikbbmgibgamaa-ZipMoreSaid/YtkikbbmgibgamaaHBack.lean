/- Plain Lean: what is made is listed and found again. -/
import Derived.Test.YtkikbbmgibgamaaHFindA
import Derived.Test.YtkikbbmgibgamaaHMake
namespace Go.Proofs.Ytkikbbmgibgamaa.Z
open Go.RowKit Go.Proofs.Ytkikbbmgibgamaa.H Go.Proofs.YtkikbbmgibgamaaW.PrintWords Go.Proofs.YtkikbbmgibgamaaW.PrintLast Go.Proofs.YtkikbbmgibgamaaW.PrintMore
set_option linter.unusedVariables false
set_option linter.unusedSimpArgs false

/-- Bytes that stand at a place. -/
def At (l : List Int) (p : Int) (ys : List Int) : Prop := ∃ pre post, l = pre ++ (ys ++ post) ∧ (pre.length : Int) = p
theorem At.move {l : List Int} {p q : Int} {ys : List Int} (h : At l p ys) (e : p = q) : At l q ys := e ▸ h
theorem At.left {l : List Int} {p : Int} {ys zs : List Int} (h : At l p (ys ++ zs)) : At l p ys := by
  obtain ⟨a, b, rfl, rfl⟩ := h
  exact ⟨a, zs ++ b, by simp, rfl⟩
theorem At.right {l : List Int} {p : Int} {ys zs : List Int} (h : At l p (ys ++ zs)) : At l (p + ys.length) zs := by
  obtain ⟨a, b, rfl, rfl⟩ := h
  exact ⟨a ++ ys, b, by simp, by simp⟩
theorem At.bd {l : List Int} {p : Int} {ys : List Int} (h : At l p ys) : 0 ≤ p ∧ p + ys.length ≤ l.length := by
  obtain ⟨a, b, rfl, rfl⟩ := h
  simp only [List.length_append]
  omega
theorem at_rd {l : List Int} {p : Int} {ys : List Int} (h : At l p ys) (j : Nat) (hj : j < ys.length) (q : Int) (hq : q = p + j) : rd l q = ys.getD j 0 := by
  obtain ⟨a, b, rfl, rfl⟩ := h
  subst hq
  rw [rd, show ((a.length : Int) + j).toNat = a.length + j by omega, List.getD_eq_getElem?_getD, List.getD_eq_getElem?_getD, List.getElem?_append_right (by omega), show a.length + j - a.length = j by omega, List.getElem?_append_left hj]
theorem At.cut {l : List Int} {p : Int} {ys : List Int} (h : At l p ys) (c : Int) (hc : c = ys.length) : cutOf l p c = ys := by
  obtain ⟨a, b, rfl, rfl⟩ := h
  subst hc
  rw [cutOf, show ((a.length : Int) + ys.length).toNat = a.length + ys.length by omega, show ((a.length : Int)).toNat = a.length by omega, ← List.append_assoc, List.take_append_of_le_length (by simp), List.take_of_length_le (by simp), List.drop_left]
theorem At.n2 {l : List Int} {p n : Int} (h : At l p (leB 2 n)) (h0 : 0 ≤ n) (h1 : n < 65536) (q : Int) (hq : q = p) : N2 l q = n := by
  subst hq
  have b := h.bd
  rw [leB_length] at b
  have r0 := at_rd h 0 (by simp [leB_length]) q (by omega)
  have r1 := at_rd h 1 (by simp [leB_length]) (q + 1) (by omega)
  simp [leB] at r0 r1
  rw [N2, if_pos ⟨b.1, b.2⟩, r0, r1]
  omega
theorem At.n4 {l : List Int} {p n : Int} (h : At l p (leB 4 n)) (h0 : 0 ≤ n) (h1 : n < 4294967296) (q : Int) (hq : q = p) : N4 l q = n := by
  subst hq
  have b := h.bd
  rw [leB_length] at b
  have r0 := at_rd h 0 (by simp [leB_length]) q (by omega)
  have r1 := at_rd h 1 (by simp [leB_length]) (q + 1) (by omega)
  have r2 := at_rd h 2 (by simp [leB_length]) (q + 2) (by omega)
  have r3 := at_rd h 3 (by simp [leB_length]) (q + 3) (by omega)
  simp [leB] at r0 r1 r2 r3
  rw [N4, if_pos ⟨b.1, b.2⟩, r0, r1, r2, r3]
  omega
theorem str_bytesOf (s : ByteArray) : strOfNums (bytesOf s) = s := by
  cases s with
  | mk d =>
    simp only [strOfNums, bytesOf, List.map_map]
    congr 1
    have : ((fun n : Int => UInt8.ofNat n.toNat) ∘ fun b : UInt8 => ((b.toNat : Nat) : Int)) = id := by
      funext b
      simp
    rw [this, List.map_id]
def lenOf (x : S50) (p : Int) : Int := 30 + x.f0.size + padOf p x.f0.size + x.f1.length
def localsB : List S50 → Int → List Int
  | [], _ => []
  | x :: l, p => localB x.f0 x.f1 (padOf p x.f0.size) ++ localsB l (p + lenOf x p)
def centralsB : List S50 → Int → List Int
  | [], _ => []
  | x :: l, p => centralB x.f0 x.f1 p ++ centralsB l (p + lenOf x p)
def entsOf : List S50 → Int → List S32
  | [], _ => []
  | x :: l, p => ⟨x.f0, 0, x.f1.length, x.f1.length, p⟩ :: entsOf l (p + lenOf x p)
theorem local_len (x : S50) (p : Int) : ((localB x.f0 x.f1 (padOf p x.f0.size)).length : Int) = lenOf x p := by
  have := padOf_bd p x.f0.size
  rw [localB_length, lenOf]
  omega
def Good (x : S50) : Prop := 0 < x.f0.size ∧ x.f0.size ≤ 256 ∧ x.f1.length ≤ 262144
theorem mk_spec : ∀ (l : List S50) (b c b' c' : List Int), mkLoop l b c = .inr (b', c') → b' = b ++ localsB l b.length ∧ c' = c ++ centralsB l b.length ∧ (∀ x ∈ l, Good x) ∧ (l = [] ∨ b'.length + c'.length + 22 ≤ 262144) := by
  intro l
  induction l with
  | nil =>
    intro b c b' c' h
    rw [mkLoop] at h
    injection h with h
    injection h with h1 h2
    subst h1 h2
    exact ⟨by simp [localsB], by simp [centralsB], by simp, .inl rfl⟩
  | cons x l ih =>
    intro b c b' c' h
    rw [mkLoop] at h
    split at h
    · simp at h
    · split at h
      · simp at h
      · split at h
        · simp at h
        · split at h
          · simp at h
          · obtain ⟨rfl, rfl, h3, h4⟩ := ih _ _ _ _ h
            have hl : (((b ++ localB x.f0 x.f1 (padOf b.length x.f0.size)).length : Nat) : Int) = b.length + lenOf x b.length := by
              rw [List.length_append, ← local_len]; omega
            rw [hl] at h4 ⊢
            refine ⟨by rw [localsB, List.append_assoc], by rw [centralsB, List.append_assoc], ?_, .inr ?_⟩
            · intro y hy
              rcases List.mem_cons.1 hy with rfl | hy
              · exact ⟨by omega, by omega, by omega⟩
              · exact h3 y hy
            · rcases h4 with rfl | h4
              · simp only [localsB, centralsB, List.append_nil]
                omega
              · exact h4
theorem mk_inl : ∀ (l : List S50) (b c : List Int) (e : Int), mkLoop l b c = .inl e → e ≠ 0 := by
  intro l
  induction l with
  | nil => intro b c e h; rw [mkLoop] at h; simp at h
  | cons x l ih =>
    intro b c e h
    rw [mkLoop] at h
    split at h
    · injection h with h; omega
    · split at h
      · injection h with h; omega
      · split at h
        · injection h with h; omega
        · split at h
          · injection h with h; omega
          · exact ih _ _ _ h
theorem listGo_back {B : List Int} {stop : Int} : ∀ (l : List S50) (p q : Int), 0 ≤ p → p + (localsB l p).length ≤ 262144 → At B q (centralsB l p) → q + (centralsB l p).length = stop → (∀ x ∈ l, Good x) → listGo B stop l.length q = some (entsOf l p) := by
  intro l
  induction l with
  | nil =>
    intro p q _ _ h hs _
    simp only [centralsB, List.length_nil] at hs
    rw [List.length_nil, listGo, if_pos (by omega)]
    rfl
  | cons x l ih =>
    intro p q hp0 hp h hs hg
    rw [centralsB] at h
    have hx := hg x (by simp)
    have h1 := h.left
    have h2 := h.right
    simp only [localsB, List.length_append, Int.natCast_add] at hp
    rw [local_len] at hp
    have hpd := padOf_bd p x.f0.size
    have hln : lenOf x p = 30 + x.f0.size + padOf p x.f0.size + x.f1.length := rfl
    have hcl := centralB_length x.f0 x.f1 p
    have e0 := h1
    have e0 : At B q (leB 4 33639248 ++ (leB 2 10 ++ (leB 2 10 ++ (leB 2 0 ++ (leB 2 0 ++ (leB 2 0 ++ (leB 2 0 ++ (leB 4 0 ++ (leB 4 x.f1.length ++ (leB 4 x.f1.length ++ (leB 2 x.f0.size ++ (leB 2 0 ++ (leB 2 0 ++ (leB 2 0 ++ (leB 2 0 ++ (leB 4 0 ++ (leB 4 p ++ bytesOf x.f0))))))))))))))))) := by
      have := h1
      simpa only [centralB, List.append_assoc] using this
    have s0 := e0.left.n4 (by omega) (by omega) q rfl
    have e1 := e0.right.right.right.right
    simp only [leB_length] at e1
    have s1 := e1.left.n2 (by omega) (by omega) (q + 10) (by omega)
    have e2 := e1.right.right.right.right
    simp only [leB_length] at e2
    have s2 := e2.left.n4 (by omega) (by omega) (q + 20) (by omega)
    have e3 := e2.right
    simp only [leB_length] at e3
    have s3 := e3.left.n4 (by omega) (by omega) (q + 24) (by omega)
    have e4 := e3.right
    simp only [leB_length] at e4
    have s4 := e4.left.n2 (by omega) (by have := hx.2.1; omega) (q + 28) (by omega)
    have e5 := e4.right
    simp only [leB_length] at e5
    have s5 := e5.left.n2 (by omega) (by omega) (q + 30) (by omega)
    have e6 := e5.right
    simp only [leB_length] at e6
    have s6 := e6.left.n2 (by omega) (by omega) (q + 32) (by omega)
    have e7 := e6.right.right.right.right
    simp only [leB_length] at e7
    have s7 := e7.left.n4 (by omega) (by omega) (q + 42) (by omega)
    have e8 := e7.right
    simp only [leB_length] at e8
    have s8 := (e8.move (q := q + 46) (by omega)).cut x.f0.size (by rw [bytesOf_length])
    have hst : stepOf B q = 46 + x.f0.size := by rw [stepOf, s4, s5, s6]; omega
    rw [hcl] at h2
    simp only [centralsB, List.length_append, hcl, Int.natCast_add] at hs
    rw [List.length_cons, listGo, if_pos ⟨by omega, s0, by rw [hst]; omega⟩, hst]
    have := ih (p + lenOf x p) (q + (46 + x.f0.size)) (by omega) (by omega) (by rw [show q + (46 + (x.f0.size : Int)) = q + ((46 + x.f0.size : Nat) : Int) by omega]; exact h2) (by omega) (fun y hy => hg y (by simp [hy]))
    rw [this, entsOf, entryOf, s1, s2, s3, s4, s7, s8, str_bytesOf]
    rfl

def Loc (B : List Int) (st : Int) : List S50 → Int → Prop
  | [], _ => True
  | x :: l, p => At B p (localB x.f0 x.f1 (padOf p x.f0.size)) ∧ p + lenOf x p ≤ st ∧ Good x ∧ Loc B st l (p + lenOf x p)
theorem loc_of {B : List Int} {st : Int} : ∀ (l : List S50) (p : Int), At B p (localsB l p) → p + (localsB l p).length ≤ st → (∀ x ∈ l, Good x) → Loc B st l p := by
  intro l
  induction l with
  | nil => intro p _ _ _; trivial
  | cons x l ih =>
    intro p h hp hg
    rw [localsB] at h
    simp only [localsB, List.length_append, Int.natCast_add] at hp
    rw [local_len] at hp
    have h2 := h.right
    rw [local_len] at h2
    exact ⟨h.left, by omega, hg x (by simp), ih _ h2 (by omega) (fun y hy => hg y (by simp [hy]))⟩
/-- Where the bytes of the first file of a name are laid. -/
def posGo (nm : ByteArray) : List S50 → Int → Option (Int × S50)
  | [], _ => none
  | x :: l, p => if x.f0.toList = nm.toList then some (p + 30 + x.f0.size + padOf p x.f0.size, x) else posGo nm l (p + lenOf x p)
def posOut : Option (Int × S50) → Int × Int × Int
  | none => (0, 0, 71)
  | some (a, x) => (a, x.f1.length, 0)
structure Found (B : List Int) (st : Int) (nm : ByteArray) (a : Int) (x : S50) : Prop where
  page : a % 256 = 0
  lo : 0 ≤ a
  hi : a + x.f1.length ≤ st
  cut : cutOf B a x.f1.length = x.f1
  name : x.f0.toList = nm.toList
theorem place_back {B : List Int} {st : Int} (hst : st ≤ 262144) (x : S50) (p : Int) (h : At B p (localB x.f0 x.f1 (padOf p x.f0.size))) (hp : p + lenOf x p ≤ st) (hx : Good x) :
    placeOf B ⟨x.f0, 0, x.f1.length, x.f1.length, p⟩ st = (p + 30 + x.f0.size + padOf p x.f0.size, (x.f1.length : Int), 0) ∧ Found B st x.f0 (p + 30 + x.f0.size + padOf p x.f0.size) x := by
  have hpd := padOf_bd p x.f0.size
  have hln : lenOf x p = 30 + x.f0.size + padOf p x.f0.size + x.f1.length := rfl
  have hb := h.bd
  rw [local_len] at hb
  have e0 : At B p (leB 4 67324752 ++ (leB 2 10 ++ (leB 2 0 ++ (leB 2 0 ++ (leB 2 0 ++ (leB 2 0 ++ (leB 4 0 ++ (leB 4 x.f1.length ++ (leB 4 x.f1.length ++ (leB 2 x.f0.size ++ (leB 2 (padOf p x.f0.size) ++ (bytesOf x.f0 ++ (List.replicate (padOf p x.f0.size).toNat 0 ++ x.f1))))))))))))) := by
    have := h
    simpa only [localB, List.append_assoc] using this
  have s0 := e0.left.n4 (by omega) (by omega) p rfl
  have e1 := e0.right.right.right
  simp only [leB_length] at e1
  have s1 := e1.left.n2 (by omega) (by omega) (p + 8) (by omega)
  have e2 := e1.right.right.right.right.right.right
  simp only [leB_length] at e2
  have s2 := e2.left.n2 (by omega) (by have := hx.2.1; omega) (p + 26) (by omega)
  have e3 := e2.right
  simp only [leB_length] at e3
  have s3 := e3.left.n2 (by omega) (by omega) (p + 28) (by omega)
  have e4 := e3.right
  simp only [leB_length] at e4
  replace e4 := e4.move (q := p + 30) (by omega)
  have s4 := e4.left.cut x.f0.size (by rw [bytesOf_length])
  have e5 := e4.right.right
  rw [bytesOf_length, List.length_replicate, show p + 30 + (x.f0.size : Int) + ((padOf p x.f0.size).toNat : Int) = p + 30 + x.f0.size + padOf p x.f0.size by omega] at e5
  have s5 := e5.cut x.f1.length rfl
  have hmod : (p + 30 + x.f0.size + padOf p x.f0.size) % 256 = 0 := by unfold padOf; omega
  refine ⟨?_, hmod, by omega, by omega, s5, rfl⟩
  rw [placeOf, if_neg (by simp)]
  simp only [s0, s1, s2, s3, s4, str_bytesOf]
  rw [if_pos ⟨by omega, trivial, by omega, trivial, trivial, trivial, by omega⟩, if_pos hmod]
theorem findGo_back {B : List Int} {st : Int} (hst : st ≤ 262144) (nm : ByteArray) : ∀ (l : List S50) (p : Int), Loc B st l p → findGo B nm st (entsOf l p) = posOut (posGo nm l p) ∧ ∀ a x, posGo nm l p = some (a, x) → Found B st nm a x := by
  intro l
  induction l with
  | nil => intro p _; exact ⟨rfl, fun a x h => by simp [posGo] at h⟩
  | cons x l ih =>
    intro p h
    obtain ⟨h1, h2, h3, h4⟩ := h
    obtain ⟨k1, k2⟩ := place_back hst x p h1 h2 h3
    rw [entsOf, findGo, posGo]
    by_cases g : x.f0.toList = nm.toList
    · rw [if_pos g, if_pos g]
      refine ⟨?_, ?_⟩
      · rw [k1]
        rfl
      · intro a y hy
        injection hy with hy
        injection hy with hy1 hy2
        subst hy1 hy2
        exact ⟨k2.page, k2.lo, k2.hi, k2.cut, g⟩
    · rw [if_neg g, if_neg g]
      exact ih (p + lenOf x p) h4
theorem posGo_find (nm : ByteArray) : ∀ (l : List S50) (p : Int), (posGo nm l p).map (·.2) = l.find? (fun x => decide (x.f0.toList = nm.toList)) := by
  intro l
  induction l with
  | nil => intro p; rfl
  | cons x l ih =>
    intro p
    rw [posGo, List.find?_cons]
    by_cases g : x.f0.toList = nm.toList
    · simp [g]
    · simp [g, ih]

theorem leB_byt : ∀ (k : Nat) (n : Int), Byt (leB k n) := by
  intro k
  induction k with
  | zero => intro n x hx; simp [leB] at hx
  | succ k ih =>
    intro n x hx
    rw [leB] at hx
    rcases List.mem_cons.1 hx with rfl | hx
    · omega
    · exact ih _ x hx
theorem byt_app {a b : List Int} (ha : Byt a) (hb : Byt b) : Byt (a ++ b) := fun x hx => (List.mem_append.1 hx).elim (ha x) (hb x)
theorem bytesOf_byt (s : ByteArray) : Byt (bytesOf s) := by
  intro x hx
  simp only [bytesOf, List.mem_map] at hx
  obtain ⟨u, _, rfl⟩ := hx
  have := u.toNat_lt
  omega
theorem localB_byt (s : ByteArray) {d : List Int} (hd : Byt d) (p : Int) : Byt (localB s d p) := by
  unfold localB
  refine byt_app (byt_app (byt_app ?_ (bytesOf_byt s)) ?_) hd
  · repeat' first | exact leB_byt _ _ | apply byt_app
  · intro x hx
    have := List.eq_of_mem_replicate hx
    omega
theorem centralB_byt (s : ByteArray) (d : List Int) (p : Int) : Byt (centralB s d p) := by
  unfold centralB
  refine byt_app ?_ (bytesOf_byt s)
  repeat' first | exact leB_byt _ _ | apply byt_app
theorem localsB_byt : ∀ (l : List S50) (p : Int), (∀ x ∈ l, Byt x.f1) → Byt (localsB l p) := by
  intro l
  induction l with
  | nil => intro p _ x hx; simp [localsB] at hx
  | cons y l ih => intro p h; exact byt_app (localB_byt _ (h y (by simp)) _) (ih _ (fun x hx => h x (by simp [hx])))
theorem centralsB_byt : ∀ (l : List S50) (p : Int), Byt (centralsB l p) := by
  intro l
  induction l with
  | nil => intro p x hx; simp [centralsB] at hx
  | cons y l ih => intro p; exact byt_app (centralB_byt _ _ _) (ih _)
/-- An archive that was made. -/
theorem made_back {l : List S50} {B : List Int} (hb : ∀ x ∈ l, Byt x.f1) (hB : zip_Make.f l = some (B, 0)) :
    Byt B ∧ B.length ≤ 262144 ∧ ∃ st : Int, 0 ≤ st ∧ st ≤ B.length ∧ listOf B = some (entsOf l 0, st) ∧ Loc B st l 0 := by
  unfold zip_Make.f at hB
  split at hB
  · simp at hB
  · rename_i hn
    split at hB
    · rename_i e he
      injection hB with hB
      injection hB with _ hB
      exact absurd hB (mk_inl _ _ _ _ he)
    · rename_i b c he
      injection hB with hB
      injection hB with hB _
      obtain ⟨h1, h2, h3, h4⟩ := mk_spec _ _ _ _ _ he
      simp only [List.nil_append, List.length_nil, Int.natCast_zero] at h1 h2
      have hE : (endB l.length b.length c.length).length = 22 := by simp only [endB, List.length_append, leB_length]
      have hsz : b.length + c.length + 22 ≤ 262144 := by
        rcases h4 with rfl | h4
        · subst h1 h2
          simp [localsB, centralsB]
        · exact h4
      have hBl : B.length = b.length + c.length + 22 := by rw [← hB]; simp only [List.length_append, hE]
      have aE : At B (b.length + c.length) (endB l.length b.length c.length) := ⟨b ++ c, [], by simp [← hB], by simp⟩
      have aC : At B b.length c := ⟨b, endB l.length b.length c.length, by simp [← hB], rfl⟩
      have aB : At B 0 b := ⟨[], c ++ endB l.length b.length c.length, by simp [← hB], rfl⟩
      have byt : Byt B := by
        rw [← hB]
        refine byt_app (byt_app (h1 ▸ localsB_byt l 0 hb) (h2 ▸ centralsB_byt l 0)) ?_
        unfold endB
        repeat' first | exact leB_byt _ _ | apply byt_app
      have e0 : At B (b.length + c.length) (leB 4 101010256 ++ (leB 4 0 ++ (leB 2 l.length ++ (leB 2 l.length ++ (leB 4 c.length ++ (leB 4 b.length ++ leB 2 0)))))) := by
        simpa only [endB, List.append_assoc] using aE
      have s0 := e0.left.n4 (by omega) (by omega) _ rfl
      have e1 := e0.right
      simp only [leB_length] at e1
      have e1' : At B ((b.length : Int) + c.length + (4 : Nat)) (leB 2 0 ++ leB 2 0) := e1.left
      have s1 := e1'.left.n2 (by omega) (by omega) ((b.length : Int) + c.length + 4) (by omega)
      have s1' := e1'.right.n2 (by omega) (by omega) ((b.length : Int) + c.length + 6) (by simp only [leB_length]; omega)
      have e2 := e1.right
      simp only [leB_length] at e2
      have s2 := e2.left.n2 (by omega) (by omega) ((b.length : Int) + c.length + 8) (by omega)
      have e3 := e2.right
      simp only [leB_length] at e3
      have s3 := e3.left.n2 (by omega) (by omega) ((b.length : Int) + c.length + 10) (by omega)
      have e4 := e3.right
      simp only [leB_length] at e4
      have s4 := e4.left.n4 (by omega) (by omega) ((b.length : Int) + c.length + 12) (by omega)
      have e5 := e4.right
      simp only [leB_length] at e5
      have s5 := e5.left.n4 (by omega) (by omega) ((b.length : Int) + c.length + 16) (by omega)
      have e6 := e5.right
      simp only [leB_length] at e6
      have s6 := e6.n2 (by omega) (by omega) ((b.length : Int) + c.length + 20) (by omega)
      have hend : endOf B = some ((b.length : Int) + c.length) := by
        rw [endOf, lastGo, show (B.length : Int) - 22 = b.length + c.length by omega, if_pos ⟨by omega, by omega⟩, if_pos ⟨s0, by rw [s6]; omega⟩]
      have hok : okEnd B ((b.length : Int) + c.length) = true := by
        rw [okEnd, decide_eq_true_eq, s1, s1', s2, s3, s4, s5]
        exact ⟨rfl, rfl, rfl, Int.le_refl _⟩
      refine ⟨byt, by omega, b.length, by omega, by omega, ?_, ?_⟩
      · rw [listOf, if_neg (by omega), hend]
        refine (if_pos hok).trans ?_
        rw [s3, s4, s5, show ((l.length : Nat) : Int).toNat = l.length by omega]
        rw [listGo_back l 0 b.length (by omega) (by rw [← h1]; omega) (by rw [← h2]; exact aC) (by rw [← h2]) h3]
        rfl
      · exact loc_of l 0 (by rw [← h1]; exact aB) (by rw [← h1]; omega) h3
end Go.Proofs.Ytkikbbmgibgamaa.Z
