/- Polygons: plain facts of signs of areas. -/
import Derived.Test.YthclikeipdplpaaGreatDoorVk
namespace Go.Proofs.YthclikeipdplpaaGreatDoor.Ab
set_option linter.unusedVariables false
set_option linter.unusedSimpArgs false
set_option maxRecDepth 100000

/-- A point. -/
abbrev V2 := Rat × Rat
def pget (l : List V2) (i : Nat) : V2 := l.getD i (0, 0)
def crs (a b c : V2) : Rat := (b.1 - a.1) * (c.2 - a.2) - (b.2 - a.2) * (c.1 - a.1)
def dt (m p : V2) : Rat := m.1 * p.1 + m.2 * p.2
/-- Is a polygon convex, in the order of the document? -/
def cvxB (l : List V2) : Bool := (List.range l.length).all fun i => (List.range (l.length - 2)).all fun k => decide (0 < crs (pget l i) (pget l ((i + 1) % l.length)) (pget l ((i + (k + 2)) % l.length)))
def Cvx (l : List V2) : Prop := ∀ i, i < l.length → ∀ k, 2 ≤ k → k < l.length → 0 < crs (pget l i) (pget l ((i + 1) % l.length)) (pget l ((i + k) % l.length))
theorem cvxB_iff {l : List V2} : cvxB l = true ↔ Cvx l := by
  unfold cvxB Cvx
  simp only [List.all_eq_true, List.mem_range, decide_eq_true_eq]
  constructor
  · intro h i hi k h2 hk
    have := h i hi (k - 2) (by omega)
    rwa [show k - 2 + 2 = k by omega] at this
  · intro h i hi k hk
    exact h i hi (k + 2) (by omega) (by omega)
/-- What poly.check returns. -/
def pchk (l : List V2) (most : Nat) : Int := if most < l.length then 2 else if l.length < 3 then 3 else if cvxB l then 0 else 3
theorem pchk_ok {l : List V2} {most : Nat} : pchk l most = 0 ↔ 3 ≤ l.length ∧ l.length ≤ most ∧ Cvx l := by
  unfold pchk
  rw [← cvxB_iff]
  split
  · constructor
    · intro h; exact absurd h (by decide)
    · intro h; omega
  · split
    · constructor
      · intro h; exact absurd h (by decide)
      · intro h; omega
    · split
      · rename_i h; exact ⟨fun _ => ⟨by omega, by omega, h⟩, fun _ => rfl⟩
      · rename_i h; exact ⟨fun h => absurd h (by decide), fun h' => absurd h'.2.2 h⟩
/-- Every other corner is to the left of an edge, or on its line. -/
theorem Cvx.left {l : List V2} (h : Cvx l) {i j : Nat} (hi : i < l.length) (hj : j < l.length) : 0 ≤ crs (pget l i) (pget l ((i + 1) % l.length)) (pget l j) := by
  by_cases h0 : j = i
  · subst h0
    have : crs (pget l j) (pget l ((j + 1) % l.length)) (pget l j) = 0 := by unfold crs; grind
    rw [this]; exact Rat.le_refl
  · by_cases h1 : j = (i + 1) % l.length
    · rw [h1]
      have : crs (pget l i) (pget l ((i + 1) % l.length)) (pget l ((i + 1) % l.length)) = 0 := by unfold crs; grind
      rw [this]; exact Rat.le_refl
    · by_cases hlt : i < j
      · have h2 : 2 ≤ j - i := by
          rcases Nat.lt_or_ge (i + 1) l.length with hh | hh
          · rw [Nat.mod_eq_of_lt hh] at h1; omega
          · omega
        have := h i hi (j - i) h2 (by omega)
        rw [show i + (j - i) = j by omega, Nat.mod_eq_of_lt hj] at this
        exact Rat.le_of_lt this
      · have h2 : 2 ≤ j + l.length - i := by
          rcases Nat.lt_or_ge (i + 1) l.length with hh | hh
          · omega
          · have e : i + 1 = l.length := by omega
            rw [e, Nat.mod_self] at h1; omega
        have := h i hi (j + l.length - i) h2 (by omega)
        rw [show i + (j + l.length - i) = j + l.length by omega, Nat.add_mod_right, Nat.mod_eq_of_lt hj] at this
        exact Rat.le_of_lt this

/-- Does a convex polygon contain a point? -/
def hasB (l : List V2) (p : V2) : Bool := (List.range l.length).all fun i => decide (0 ≤ crs (pget l i) (pget l ((i + 1) % l.length)) p)
def phas (l : List V2) (p : V2) : Bool := pchk l 64 == 0 && hasB l p
/-- Twice the area. -/
def dbl (l : List V2) : Nat → Rat
  | 0 => 0
  | n + 1 => dbl l n + ((pget l n).1 * (pget l ((n + 1) % l.length)).2 - (pget l n).2 * (pget l ((n + 1) % l.length)).1)
def parea (l : List V2) : Rat := if pchk l 64 = 0 then 1 / 2 * dbl l l.length else 0

/-! frames -/
def mv (x y : Rat) (o : Option Rat) (p : V2) : V2 := (x + rx o p.1 p.2, y + ry o p.1 p.2)
theorem crs_mv (x y : Rat) (o : Option Rat) (a b c : V2) : crs (mv x y o a) (mv x y o b) (mv x y o c) = crs a b c := by
  have h := tsq o
  unfold crs mv rx ry
  simp only
  generalize tcos o = C at *
  generalize tsin o = T at *
  grind
theorem pget_map {l : List V2} {f : V2 → V2} {i : Nat} (h : i < l.length) : pget (l.map f) i = f (pget l i) := by
  simp [pget, h]
theorem mod_lt' {n i : Nat} (h : i < n) (k : Nat) : k % n < n := Nat.mod_lt _ (by omega)
theorem cvxB_mv (x y : Rat) (o : Option Rat) (l : List V2) : cvxB (l.map (mv x y o)) = cvxB l := by
  rw [Bool.eq_iff_iff, cvxB_iff, cvxB_iff]
  unfold Cvx
  rw [List.length_map]
  constructor
  · intro h i hi k h2 hk
    have := h i hi k h2 hk
    rwa [pget_map hi, pget_map (mod_lt' hi _), pget_map (mod_lt' hi _), crs_mv] at this
  · intro h i hi k h2 hk
    rw [pget_map hi, pget_map (mod_lt' hi _), pget_map (mod_lt' hi _), crs_mv]
    exact h i hi k h2 hk
theorem pchk_mv (x y : Rat) (o : Option Rat) (l : List V2) (m : Nat) : pchk (l.map (mv x y o)) m = pchk l m := by
  unfold pchk; rw [cvxB_mv, List.length_map]
theorem hasB_mv (x y : Rat) (o : Option Rat) (l : List V2) (p : V2) : hasB (l.map (mv x y o)) (mv x y o p) = hasB l p := by
  unfold hasB
  rw [List.length_map, Bool.eq_iff_iff]
  simp only [List.all_eq_true, List.mem_range, decide_eq_true_eq]
  constructor
  · intro h i hi
    have := h i hi
    rwa [pget_map hi, pget_map (mod_lt' hi _), crs_mv] at this
  · intro h i hi
    rw [pget_map hi, pget_map (mod_lt' hi _), crs_mv]
    exact h i hi
theorem phas_mv (x y : Rat) (o : Option Rat) (l : List V2) (p : V2) : phas (l.map (mv x y o)) (mv x y o p) = phas l p := by
  unfold phas; rw [pchk_mv, hasB_mv]
/-- Twice the area of the first corners, moved. -/
theorem dbl_mv (x y : Rat) (o : Option Rat) (l : List V2) : ∀ n, n < l.length → dbl (l.map (mv x y o)) n = dbl l n + (x * (ry o (pget l n).1 (pget l n).2 - ry o (pget l 0).1 (pget l 0).2) - y * (rx o (pget l n).1 (pget l n).2 - rx o (pget l 0).1 (pget l 0).2))
  | 0, h => by unfold dbl; grind
  | n + 1, h => by
    have ih := dbl_mv x y o l n (by omega)
    unfold dbl
    rw [ih, List.length_map, Nat.mod_eq_of_lt h, pget_map (by omega), pget_map h]
    have hs := tsq o
    unfold mv rx ry
    simp only
    generalize pget l n = p at *
    generalize pget l (n + 1) = q at *
    generalize pget l 0 = r at *
    generalize tcos o = C at *
    generalize tsin o = T at *
    grind
theorem dbl_mv_all (x y : Rat) (o : Option Rat) (l : List V2) : dbl (l.map (mv x y o)) l.length = dbl l l.length := by
  rcases Nat.eq_zero_or_pos l.length with h | h
  · rw [h]; rfl
  · obtain ⟨n, hn⟩ : ∃ n, l.length = n + 1 := ⟨l.length - 1, by omega⟩
    have ih := dbl_mv x y o l n (by omega)
    rw [hn]
    unfold dbl
    rw [ih, List.length_map, hn, Nat.mod_self, pget_map (by omega), pget_map (by omega)]
    have hs := tsq o
    unfold mv rx ry
    simp only
    generalize pget l n = p at *
    generalize pget l 0 = r at *
    generalize tcos o = C at *
    generalize tsin o = T at *
    grind
theorem parea_mv (x y : Rat) (o : Option Rat) (l : List V2) : parea (l.map (mv x y o)) = parea l := by
  unfold parea; rw [pchk_mv, List.length_map, dbl_mv_all]
end Go.Proofs.YthclikeipdplpaaGreatDoor.Ab

/- Two convex polygons that a line separates are separated along an edge of one of them: plain facts. -/
namespace Go.Proofs.YthclikeipdplpaaGreatDoor.Ab
set_option linter.unusedVariables false
set_option linter.unusedSimpArgs false
set_option maxRecDepth 100000

def cr (u v : V2) : Rat := u.1 * v.2 - u.2 * v.1
theorem cr_pl (a b c d : V2) : cr a b * cr c d - cr a c * cr b d + cr a d * cr b c = 0 := by unfold cr; grind
theorem cr_sw (a b : V2) : cr b a = -cr a b := by unfold cr; grind
theorem pos_of_mul {a b : Rat} (h : 0 < a * b) (hb : 0 < b) : 0 < a := by
  rcases Rat.le_total (a := a) (b := 0) with h1 | h1
  · have := Rat.mul_nonneg (show 0 ≤ -a by grind) (Rat.le_of_lt hb); grind
  · rcases Rat.le_iff_lt_or_eq.1 h1 with h2 | h2
    · exact h2
    · rw [← h2] at h; grind
theorem nonneg_of_mul {a b : Rat} (h : 0 ≤ a * b) (hb : 0 < b) : 0 ≤ a := by
  rcases Rat.le_total (a := 0) (b := a) with h1 | h1
  · exact h1
  · have h2 := Rat.mul_nonneg (show 0 ≤ -a by grind) (Rat.le_of_lt hb)
    have h3 : a * b = 0 := by grind
    rcases Rat.mul_eq_zero.1 h3 with h4 | h4
    · grind
    · grind
/-- A direction within a sector. -/
def Sec (g0 g1 x : V2) : Prop := 0 ≤ cr g0 x ∧ 0 ≤ cr x g1
/-- Where the direction is one end of a sector, that end does. -/
theorem sec_end1 {g0 g1 u w x y : V2} (hg : 0 < cr g0 g1) (h0 : 0 ≤ cr g0 u) (h1 : cr u g1 = 0) (hw : 0 < cr w u) (hs : Sec x y u) : 0 < cr w g1 ∧ Sec x y g1 := by
  have key : ∀ z, cr z u * cr g0 g1 = cr z g1 * cr g0 u := fun z => by
    have := cr_pl z u g0 g1
    rw [h1] at this
    have e := cr_sw g0 u
    grind
  have hp : 0 < cr g0 u := by
    rcases Rat.le_iff_lt_or_eq.1 h0 with h | h
    · exact h
    · have := key w
      rw [← h] at this
      have := Rat.mul_pos hw hg
      grind
  refine ⟨pos_of_mul (b := cr g0 u) ?_ hp, nonneg_of_mul (b := cr g0 u) ?_ hp, ?_⟩
  · rw [← key]; exact Rat.mul_pos hw hg
  · rw [← key]; exact Rat.mul_nonneg hs.1 (Rat.le_of_lt hg)
  · have h2 : 0 ≤ cr u y := hs.2
    have h3 := key y
    have h4 := cr_sw y g1
    have h5 := cr_sw y u
    refine nonneg_of_mul (b := cr g0 u) ?_ hp
    rw [h4]
    have := Rat.mul_nonneg h2 (Rat.le_of_lt hg)
    rw [h5, Rat.neg_mul, h3, ← Rat.neg_mul] at this
    exact this
theorem sec_end0 {g0 g1 u w x y : V2} (hg : 0 < cr g0 g1) (h0 : cr g0 u = 0) (h1 : 0 ≤ cr u g1) (hw : 0 < cr w u) (hs : Sec x y u) : 0 < cr w g0 ∧ Sec x y g0 := by
  have key : ∀ z, cr z u * cr g0 g1 = cr z g0 * cr u g1 := fun z => by
    have := cr_pl z g0 u g1
    have e := cr_sw g0 u
    grind
  have hp : 0 < cr u g1 := by
    rcases Rat.le_iff_lt_or_eq.1 h1 with h | h
    · exact h
    · have := key w
      rw [← h] at this
      have := Rat.mul_pos hw hg
      grind
  refine ⟨pos_of_mul (b := cr u g1) ?_ hp, nonneg_of_mul (b := cr u g1) ?_ hp, ?_⟩
  · rw [← key]; exact Rat.mul_pos hw hg
  · rw [← key]; exact Rat.mul_nonneg hs.1 (Rat.le_of_lt hg)
  · have h2 : 0 ≤ cr u y := hs.2
    have h3 := key y
    have h4 := cr_sw y g0
    have h5 := cr_sw y u
    refine nonneg_of_mul (b := cr u g1) ?_ hp
    rw [h4]
    have := Rat.mul_nonneg h2 (Rat.le_of_lt hg)
    rw [h5, Rat.neg_mul, h3, ← Rat.neg_mul] at this
    exact this
/-- The upper end that comes first is in the other sector. -/
theorem sec_up {e0 e1 g0 g1 u : V2} (hg : 0 < cr g0 g1) (u0 : 0 < cr g0 u) (u1 : 0 < cr u g1) (v1 : 0 < cr u e1) (h : 0 ≤ cr e1 g1) : 0 < cr g0 e1 := by
  have := cr_pl g0 u e1 g1
  refine pos_of_mul (b := cr u g1) ?_ u1
  have a := Rat.mul_nonneg (Rat.le_of_lt u0) h
  have b := Rat.mul_pos hg v1
  grind
theorem sec_down {e0 e1 g0 g1 u : V2} (hg : 0 < cr g0 g1) (u0 : 0 < cr g0 u) (u1 : 0 < cr u g1) (v0 : 0 < cr e0 u) (h : 0 ≤ cr g0 e0) : 0 < cr e0 g1 := by
  have := cr_pl g0 e0 u g1
  refine pos_of_mul (b := cr g0 u) ?_ u0
  have a := Rat.mul_nonneg h (Rat.le_of_lt u1)
  have b := Rat.mul_pos hg v0
  grind
/-- Between two directions with a positive product, one does. -/
theorem sec_two {h0 h1 u w : V2} (h : 0 < cr h0 h1) (u0 : 0 < cr h0 u) (u1 : 0 < cr u h1) (hw : 0 < cr w u) : 0 < cr w h0 ∨ 0 < cr w h1 := by
  have := cr_pl w h0 u h1
  by_cases a : 0 < cr w h0
  · exact .inl a
  by_cases b : 0 < cr w h1
  · exact .inr b
  exfalso
  have := Rat.mul_pos hw h
  have := Rat.mul_nonneg (show 0 ≤ -cr w h0 by grind) (Rat.le_of_lt u1)
  have := Rat.mul_nonneg (show 0 ≤ -cr w h1 by grind) (Rat.le_of_lt u0)
  grind
/-- Of two sectors with a common direction, an end of one is in the other one. -/
theorem sec_main {e0 e1 g0 g1 u w : V2} (he : 0 < cr e0 e1) (hg : 0 < cr g0 g1) (hu : Sec e0 e1 u) (hv : Sec g0 g1 u) (hw : 0 < cr w u) :
    (0 < cr w e0 ∧ Sec g0 g1 e0) ∨ (0 < cr w e1 ∧ Sec g0 g1 e1) ∨ (0 < cr w g0 ∧ Sec e0 e1 g0) ∨ (0 < cr w g1 ∧ Sec e0 e1 g1) := by
  by_cases a0 : cr e0 u = 0
  · exact .inl (sec_end0 he a0 hu.2 hw hv)
  by_cases a1 : cr u e1 = 0
  · exact .inr (.inl (sec_end1 he hu.1 a1 hw hv))
  by_cases b0 : cr g0 u = 0
  · exact .inr (.inr (.inl (sec_end0 hg b0 hv.2 hw hu)))
  by_cases b1 : cr u g1 = 0
  · exact .inr (.inr (.inr (sec_end1 hg hv.1 b1 hw hu)))
  have a0 : 0 < cr e0 u := by have := hu.1; grind
  have a1 : 0 < cr u e1 := by have := hu.2; grind
  have b0 : 0 < cr g0 u := by have := hv.1; grind
  have b1 : 0 < cr u g1 := by have := hv.2; grind
  have s1 := cr_sw e1 g1
  have s0 := cr_sw e0 g0
  by_cases c1 : 0 ≤ cr e1 g1
  · have d1 := sec_up (e0 := e0) hg b0 b1 a1 c1
    by_cases c0 : 0 ≤ cr g0 e0
    · have d0 := sec_down (e1 := e1) hg b0 b1 a0 c0
      rcases sec_two he a0 a1 hw with h | h
      · exact .inl ⟨h, c0, Rat.le_of_lt d0⟩
      · exact .inr (.inl ⟨h, Rat.le_of_lt d1, c1⟩)
    · have c0' : 0 ≤ cr e0 g0 := by grind
      have d0 := sec_down (e1 := g1) he a0 a1 b0 c0'
      rcases sec_two d1 b0 a1 hw with h | h
      · exact .inr (.inr (.inl ⟨h, c0', Rat.le_of_lt d0⟩))
      · exact .inr (.inl ⟨h, Rat.le_of_lt d1, c1⟩)
  · have c1' : 0 ≤ cr g1 e1 := by grind
    have d1 := sec_up (e0 := g0) he a0 a1 b1 c1'
    by_cases c0 : 0 ≤ cr g0 e0
    · have d0 := sec_down (e1 := e1) hg b0 b1 a0 c0
      rcases sec_two d1 a0 b1 hw with h | h
      · exact .inl ⟨h, c0, Rat.le_of_lt d0⟩
      · exact .inr (.inr (.inr ⟨h, Rat.le_of_lt d1, c1'⟩))
    · have c0' : 0 ≤ cr e0 g0 := by grind
      have d0 := sec_down (e1 := g1) he a0 a1 b0 c0'
      rcases sec_two hg b0 b1 hw with h | h
      · exact .inr (.inr (.inl ⟨h, c0', Rat.le_of_lt d0⟩))
      · exact .inr (.inr (.inr ⟨h, Rat.le_of_lt d1, c1'⟩))

/-! corners -/
def psub (a b : V2) : V2 := (a.1 - b.1, a.2 - b.2)
def pneg (a : V2) : V2 := (-a.1, -a.2)
theorem crs_cr (a b c : V2) : crs a b c = cr (psub b a) (psub c a) := by unfold crs cr psub; grind
/-- The corner before. -/
def prv (l : List V2) (i : Nat) : Nat := (i + l.length - 1) % l.length
theorem prv_lt {l : List V2} {i : Nat} (hi : i < l.length) : prv l i < l.length := Nat.mod_lt _ (by omega)
theorem prv_next {l : List V2} {i : Nat} (hi : i < l.length) : (prv l i + 1) % l.length = i := by
  unfold prv
  by_cases h0 : i = 0
  · subst h0
    rw [Nat.zero_add, Nat.mod_eq_of_lt (show l.length - 1 < l.length by omega), Nat.sub_add_cancel (by omega), Nat.mod_self]
  · rw [show i + l.length - 1 = i - 1 + l.length by omega, Nat.add_mod_right, Nat.mod_eq_of_lt (show i - 1 < l.length by omega), Nat.sub_add_cancel (by omega), Nat.mod_eq_of_lt hi]
/-- The edge that leads to a corner, and the one that leaves it. -/
def ein (l : List V2) (i : Nat) : V2 := psub (pget l i) (pget l (prv l i))
def eout (l : List V2) (i : Nat) : V2 := psub (pget l ((i + 1) % l.length)) (pget l i)
theorem corner_pos {l : List V2} (h : Cvx l) (h3 : 3 ≤ l.length) {i : Nat} (hi : i < l.length) : 0 < cr (ein l i) (eout l i) := by
  have := h (prv l i) (prv_lt hi) 2 (by omega) (by omega)
  rw [prv_next hi, crs_cr] at this
  have e : (prv l i + 2) % l.length = (i + 1) % l.length := by
    rw [show prv l i + 2 = prv l i + 1 + 1 by omega, Nat.add_mod, prv_next hi, Nat.mod_eq_of_lt (show 1 < l.length by omega)]
  rw [e] at this
  unfold ein eout
  have e2 : ∀ a b c : V2, cr (psub b a) (psub c a) = cr (psub b a) (psub c b) := fun a b c => by unfold cr psub; grind
  rw [e2] at this
  exact this
/-- Seen from a corner, every other one is in its sector. -/
theorem corner_sec {l : List V2} (h : Cvx l) {i j : Nat} (hi : i < l.length) (hj : j < l.length) : 0 ≤ cr (ein l i) (psub (pget l j) (pget l i)) ∧ 0 ≤ cr (eout l i) (psub (pget l j) (pget l i)) := by
  constructor
  · have := h.left (prv_lt hi) hj
    rw [prv_next hi, crs_cr] at this
    unfold ein
    have e2 : ∀ a b c : V2, cr (psub b a) (psub c a) = cr (psub b a) (psub c b) := fun a b c => by unfold cr psub; grind
    rwa [e2] at this
  · have := h.left hi hj
    rw [crs_cr] at this
    exact this
/-- A direction in the sector of a corner: no other corner is farther to the right. -/
theorem corner_dir {l : List V2} (h : Cvx l) (h3 : 3 ≤ l.length) {i j : Nat} (hi : i < l.length) (hj : j < l.length) {u : V2} (hs : Sec (ein l i) (eout l i) u) : 0 ≤ cr u (psub (pget l j) (pget l i)) := by
  have hp := corner_pos h h3 hi
  obtain ⟨c0, c1⟩ := corner_sec h hi hj
  have k := cr_pl u (psub (pget l j) (pget l i)) (ein l i) (eout l i)
  refine nonneg_of_mul (b := cr (ein l i) (eout l i)) ?_ hp
  have s1 := cr_sw (ein l i) u
  have s2 := cr_sw (eout l i) (psub (pget l j) (pget l i))
  have s3 := cr_sw (ein l i) (psub (pget l j) (pget l i))
  have a := Rat.mul_nonneg hs.1 c1
  have b := Rat.mul_nonneg hs.2 c0
  rw [s1, s2, s3] at k
  generalize cr u (psub (pget l j) (pget l i)) = X1 at *
  generalize cr (ein l i) (psub (pget l j) (pget l i)) = X2 at *
  generalize cr (eout l i) (psub (pget l j) (pget l i)) = X3 at *
  generalize cr (ein l i) u = X4 at *
  generalize cr u (eout l i) = X5 at *
  generalize cr (ein l i) (eout l i) = X6 at *
  clear s1 s2 s3 h c0 c1 hs hp
  grind
/-- Is a polygon to the right of an edge of another one? -/
def Bey (a b : List V2) : Prop := ∃ i, i < a.length ∧ ∀ j, j < b.length → crs (pget a i) (pget a ((i + 1) % a.length)) (pget b j) < 0
theorem argmax (f : Nat → Rat) : ∀ n, 0 < n → ∃ i, i < n ∧ ∀ j, j < n → f j ≤ f i
  | 0, h => absurd h (by omega)
  | 1, _ => ⟨0, by omega, fun j hj => by
    obtain rfl : j = 0 := (by omega)
    exact Rat.le_refl⟩
  | n + 2, _ => by
    obtain ⟨i, hi, h⟩ := argmax f (n + 1) (by omega)
    by_cases hc : f (n + 1) ≤ f i
    · refine ⟨i, by omega, fun j hj => ?_⟩
      by_cases hj2 : j = n + 1
      · rw [hj2]; exact hc
      · exact h j (by omega)
    · refine ⟨n + 1, by omega, fun j hj => ?_⟩
      by_cases hj2 : j = n + 1
      · rw [hj2]; exact Rat.le_refl
      · have := h j (by omega); grind
/-- Separation along an edge. -/
theorem sat {a b : List V2} (ha : Cvx a) (hb : Cvx b) (a3 : 3 ≤ a.length) (b3 : 3 ≤ b.length) (m : V2)
    (h : ∀ i j, i < a.length → j < b.length → dt m (pget a i) < dt m (pget b j)) : Bey a b ∨ Bey b a := by
  obtain ⟨i, hi, mi⟩ := argmax (fun i => dt m (pget a i)) a.length (by omega)
  obtain ⟨j, hj, mj⟩ := argmax (fun j => -dt m (pget b j)) b.length (by omega)
  have hij := h i j hi hj
  have mod : ∀ {n k : Nat}, 3 ≤ n → k % n < n := fun h => Nat.mod_lt _ (by omega)
  have e1 := mi ((i + 1) % a.length) (mod a3)
  have e0 := mi (prv a i) (prv_lt hi)
  have f1 := mj ((j + 1) % b.length) (mod b3)
  have f0 := mj (prv b j) (prv_lt hj)
  have ne : ∀ u v, cr (pneg u) (pneg v) = cr u v := fun u v => by unfold cr pneg; grind
  have hu : Sec (ein a i) (eout a i) (-m.2, m.1) := by
    unfold Sec ein eout cr psub dt at *; constructor <;> grind
  have hv : Sec (pneg (ein b j)) (pneg (eout b j)) (-m.2, m.1) := by
    unfold Sec ein eout cr psub pneg dt at *; constructor <;> grind
  have hw : 0 < cr (psub (pget b j) (pget a i)) (-m.2, m.1) := by
    unfold cr psub dt at *; grind
  have hp := corner_pos ha a3 hi
  have hq := corner_pos hb b3 hj
  rw [← ne] at hq
  -- an edge of a
  have useA : ∀ k, k < a.length → (pget a k = pget a i ∨ pget a ((k + 1) % a.length) = pget a i) → 0 < cr (psub (pget b j) (pget a i)) (eout a k) → Sec (pneg (ein b j)) (pneg (eout b j)) (eout a k) → Bey a b := by
    intro k hk hki h1 h2
    refine ⟨k, hk, fun t ht => ?_⟩
    have h2' : Sec (ein b j) (eout b j) (pneg (eout a k)) := by
      unfold Sec at *
      rw [← ne (ein b j), ← ne (pneg (eout a k))]
      have e : pneg (pneg (eout a k)) = eout a k := by unfold pneg; simp only [Rat.neg_neg]
      rw [e]; exact h2
    have h3 := corner_dir hb b3 hj ht h2'
    rw [crs_cr]
    have h4 : psub (pget a ((k + 1) % a.length)) (pget a k) = eout a k := rfl
    rw [h4]
    have h5 : cr (eout a k) (psub (pget b t) (pget a k)) = cr (eout a k) (psub (pget b t) (pget a i)) := by
      rcases hki with e | e
      · rw [e]
      · rw [← e]; unfold eout cr psub; grind
    rw [h5]
    generalize eout a k = E at *
    unfold cr psub pneg at *
    grind
  have useB : ∀ k, k < b.length → (pget b k = pget b j ∨ pget b ((k + 1) % b.length) = pget b j) → 0 < cr (psub (pget b j) (pget a i)) (pneg (eout b k)) → Sec (ein a i) (eout a i) (pneg (eout b k)) → Bey b a := by
    intro k hk hki h1 h2
    refine ⟨k, hk, fun t ht => ?_⟩
    have h3 := corner_dir ha a3 hi ht h2
    rw [crs_cr]
    have h4 : psub (pget b ((k + 1) % b.length)) (pget b k) = eout b k := rfl
    rw [h4]
    have h5 : cr (eout b k) (psub (pget a t) (pget b k)) = cr (eout b k) (psub (pget a t) (pget b j)) := by
      rcases hki with e | e
      · rw [e]
      · rw [← e]; unfold eout cr psub; grind
    rw [h5]
    generalize eout b k = E at *
    unfold cr psub pneg at *
    grind
  have ia : ein a i = eout a (prv a i) := by unfold ein eout; rw [prv_next hi]
  have ib : ein b j = eout b (prv b j) := by unfold ein eout; rw [prv_next hj]
  rcases sec_main hp hq hu hv hw with ⟨h1, h2⟩ | ⟨h1, h2⟩ | ⟨h1, h2⟩ | ⟨h1, h2⟩
  · rw [ia] at h1 h2
    exact .inl (useA _ (prv_lt hi) (.inr (by rw [prv_next hi])) h1 (by rw [ib] at h2 ⊢; exact h2))
  · exact .inl (useA _ hi (.inl rfl) h1 h2)
  · rw [ib] at h1 h2
    exact .inr (useB _ (prv_lt hj) (.inr (by rw [prv_next hj])) h1 (by rw [ia] at h2 ⊢; exact h2))
  · exact .inr (useB _ hj (.inl rfl) h1 h2)
end Go.Proofs.YthclikeipdplpaaGreatDoor.Ab

/- Polygons: left, check, Has, Support, Area. -/
namespace Go.Proofs.YthclikeipdplpaaGreatDoor.Ab
open Go.RowKit
set_option linter.unusedVariables false
set_option linter.unusedSimpArgs false
set_option maxRecDepth 100000

/-- A point's cells; a point within bounds. -/
def vC (p : V2) : List Value := prC p.1 p.2
theorem vC_def (p : V2) : vC p = [.bool (decide (p.1.num < 0)), .string (S (nb p.1.num.natAbs)), .string (S (nb p.1.den)), .bool (decide (p.2.num < 0)), .string (S (nb p.2.num.natAbs)), .string (S (nb p.2.den))] := rfl
def Pz (p : V2) (k : Nat) : Prop := Rz p.1 k ∧ Rz p.2 k
def Lz (l : List V2) (k : Nat) : Prop := ∀ p ∈ l, Pz p k
theorem pget_mem {l : List V2} {i : Nat} (h : i < l.length) : pget l i ∈ l := by
  have : pget l i = l[i] := by simp [pget, h]
  rw [this]; exact List.getElem_mem _
theorem Lz.at {l : List V2} {k i : Nat} (h : Lz l k) (hi : i < l.length) : Pz (pget l i) k := h _ (pget_mem hi)
theorem vec_get {G : Gl} {B : Hp} {a : Addr} {n c : Nat} {l : List V2} (h : Sl B 6 (.slice (some a) n c) (l.map vC)) {i : Nat} (hi : i < l.length) :
    B.get G (aadd a (i * 6)) = some (.bool (decide ((pget l i).1.num < 0))) ∧ B.get G (aadd a (i * 6 + 1)) = some (.string (S (nb (pget l i).1.num.natAbs))) ∧ B.get G (aadd a (i * 6 + 2)) = some (.string (S (nb (pget l i).1.den))) ∧
    B.get G (aadd a (i * 6 + 3)) = some (.bool (decide ((pget l i).2.num < 0))) ∧ B.get G (aadd a (i * 6 + 4)) = some (.string (S (nb (pget l i).2.num.natAbs))) ∧ B.get G (aadd a (i * 6 + 5)) = some (.string (S (nb (pget l i).2.den))) := by
  have e : pget l i = l[i] := by simp [pget, hi]
  rw [e]
  obtain ⟨a', h1, h2⟩ := h.at (G := G) (i := i) (by simpa using hi)
  cases h1
  simp only [List.getElem_map] at h2
  exact ⟨h2 0 _ rfl, h2 1 _ rfl, h2 2 _ rfl, h2 3 _ rfl, h2 4 _ rfl, h2 5 _ rfl⟩
theorem tmod_nat (m n : Nat) : ((m : Nat) : Int).tmod ((n : Nat) : Int) = ((m % n : Nat) : Int) := by
  rw [Int.tmod_eq_emod_of_nonneg (by omega)]; rfl
theorem rsign_le {p : Rat} : rsign p ≤ 0 ↔ ¬ 0 < p := by
  unfold rsign
  have h : p.num < 0 ↔ p < 0 := num_neg_iff
  have h0 : p.num = 0 ↔ p = 0 := Rat.num_eq_zero
  split
  · rename_i e; rw [h0] at e; subst e; exact ⟨fun _ => by decide, fun _ => by decide⟩
  · rename_i e; rw [h0] at e
    split
    · rename_i h1; rw [h] at h1; exact ⟨fun _ => by grind, fun _ => by decide⟩
    · rename_i h1; rw [h] at h1; exact ⟨fun h2 => absurd h2 (by decide), fun h2 => by grind⟩
theorem rsign_lt0 {p : Rat} : rsign p < 0 ↔ ¬ 0 ≤ p := by
  unfold rsign
  have h : p.num < 0 ↔ p < 0 := num_neg_iff
  have h0 : p.num = 0 ↔ p = 0 := Rat.num_eq_zero
  split
  · rename_i e; rw [h0] at e; subst e; exact ⟨fun h => absurd h (by decide), fun h => absurd Rat.le_refl h⟩
  · rename_i e; rw [h0] at e
    split
    · rename_i h1; rw [h] at h1; exact ⟨fun _ => by grind, fun _ => by decide⟩
    · rename_i h1; rw [h] at h1; exact ⟨fun h2 => absurd h2 (by decide), fun h2 => by grind⟩
theorem cvx_no {l : List V2} {i k : Nat} (h2 : 2 ≤ k) (hk : k < l.length) (hi : i < l.length) (h : ¬ 0 < crs (pget l i) (pget l ((i + 1) % l.length)) (pget l ((i + k) % l.length))) : ¬ cvxB l = true := by
  rw [cvxB_iff]; exact fun hc => h (hc i hi k h2 hk)

section
variable {G : Gl} {fl : Nat} {A : Hp}

set_option maxHeartbeats 2000000 in
theorem pleft {a b c : V2} {k : Nat} (hG : G 1 = some tabV) (ha : Pz a k) (hb : Pz b k) (hc : Pz c k) (hk : k ≤ 2000) : Sound Tryz.prog G 71 [prV a.1 a.2, prV b.1 b.2, prV c.1 c.2] fl A (.int .i64 (rsign (crs a b c))) A := by
  refine Sound.of mixed Tryz.func71 Tryz.ntmps71 Tryz.results71 (by kernel_rfl) rfl (by kernel_rfl) (by simp) fun hA => ?_
  have hfl : fl ≤ A.next := by have := hA.floor; omega
  have hfl1 : fl ≤ A.next + 1 := by have := hA.floor; omega
  have hfl2 : fl ≤ A.next + 2 := by have := hA.floor; omega
  have hfl3 : fl ≤ A.next + 3 := by have := hA.floor; omega
  have hfl4 : fl ≤ A.next + 4 := by have := hA.floor; omega
  have hfl5 : fl ≤ A.next + 5 := by have := hA.floor; omega
  have hfl6 : fl ≤ A.next + 6 := by have := hA.floor; omega
  obtain ⟨ha1, ha2⟩ := ha
  obtain ⟨hb1, hb2⟩ := hb
  obtain ⟨hc1, hc2⟩ := hc
  have s1 := fun fl A => vsub (G := G) (fl := fl) (A := A) hG hb1 hb2 ha1 ha2 (by omega)
  have s2 := fun fl A => vsub (G := G) (fl := fl) (A := A) hG hc1 hc2 ha1 ha2 (by omega)
  have cr := fun fl A => vcross (G := G) (fl := fl) (A := A) hG (hb1.sub ha1) (hb2.sub ha2) (hc1.sub ha1) (hc2.sub ha2) (by omega)
  have sg := fun fl A => qsign (G := G) (fl := fl) (A := A) hG (((hb1.sub ha1).mul (hc2.sub ha2)).sub ((hb2.sub ha2).mul (hc1.sub ha1))) (by omega)
  simp only [prV_def] at s1 s2 cr ⊢
  simp only [ratV_def] at cr sg
  simp only [↓R1, R2, R3, R4, TY, reduceIte, Nat.reduceEqDiff, Nat.reduceAdd, Nat.reduceMul, Nat.reduceLT, Nat.reduceLeDiff, reduceCtorEq, decide_true, decide_false, Int.reduceLE, Int.reduceLT, Int.reduceToNat, Int.reduceAdd, Int.reduceSub, Int.reduceMul, Int.reduceEq, hfl, hfl1, hfl2, hfl3, hfl4, hfl5, hfl6, NE, NE9, Nat.add_assoc]
  refine call_of (s1 _ _) ?_
  simp only [↓R1, R2, R3, R4, TY, reduceIte, Nat.reduceEqDiff, Nat.reduceAdd, Nat.reduceMul, Nat.reduceLT, Nat.reduceLeDiff, reduceCtorEq, decide_true, decide_false, Int.reduceLE, Int.reduceLT, Int.reduceToNat, Int.reduceAdd, Int.reduceSub, Int.reduceMul, Int.reduceEq, hfl, hfl1, hfl2, hfl3, hfl4, hfl5, hfl6, NE, NE9, Nat.add_assoc]
  refine call_of (s2 _ _) ?_
  simp only [↓R1, R2, R3, R4, TY, reduceIte, Nat.reduceEqDiff, Nat.reduceAdd, Nat.reduceMul, Nat.reduceLT, Nat.reduceLeDiff, reduceCtorEq, decide_true, decide_false, Int.reduceLE, Int.reduceLT, Int.reduceToNat, Int.reduceAdd, Int.reduceSub, Int.reduceMul, Int.reduceEq, hfl, hfl1, hfl2, hfl3, hfl4, hfl5, hfl6, NE, NE9, Nat.add_assoc]
  refine call_of (cr _ _) ?_
  simp only [↓R1, R2, R3, R4, TY, reduceIte, Nat.reduceEqDiff, Nat.reduceAdd, Nat.reduceMul, Nat.reduceLT, Nat.reduceLeDiff, reduceCtorEq, decide_true, decide_false, Int.reduceLE, Int.reduceLT, Int.reduceToNat, Int.reduceAdd, Int.reduceSub, Int.reduceMul, Int.reduceEq, hfl, hfl1, hfl2, hfl3, hfl4, hfl5, hfl6, NE, NE9, Nat.add_assoc]
  refine call_of (sg _ _) ?_
  simp only [↓R1, R2, R3, R4, TY, reduceIte, Nat.reduceEqDiff, Nat.reduceAdd, Nat.reduceMul, Nat.reduceLT, Nat.reduceLeDiff, reduceCtorEq, decide_true, decide_false, Int.reduceLE, Int.reduceLT, Int.reduceToNat, Int.reduceAdd, Int.reduceSub, Int.reduceMul, Int.reduceEq, hfl, hfl1, hfl2, hfl3, hfl4, hfl5, hfl6, NE, NE9, Nat.add_assoc]
  refine Ended.back hA ?_ rfl (RB.int _ _)
  simp (maxDischargeDepth := 20) only [xt_push, xt_put, xt_refl, Nat.le_refl, Nat.le_add_right, Nat.add_assoc, Nat.reduceAdd]

set_option maxHeartbeats 4000000 in
theorem pcheck {v : Value} {l : List V2} {k most : Nat} (hG : G 1 = some tabV) (hs : Sl A 6 v (l.map vC)) (hz : Lz l k) (hk : k ≤ 2000) (hl : l.length < 4611686018427387904) (hm : most < 4611686018427387904) :
    Sound Tryz.prog G 72 [v, .int .i64 (most : Nat)] fl A (.int .i64 (pchk l most)) A := by
  refine Sound.of mixed Tryz.func72 Tryz.ntmps72 Tryz.results72 (by kernel_rfl) rfl (by kernel_rfl) (by simp) fun hA => ?_
  obtain ⟨o, c, rfl⟩ := hs.len
  rw [List.length_map] at hs ⊢
  have c3 : (((l.length : Nat) : Int) < 3) = (l.length < 3) := by simp only [eq_iff_iff]; omega
  simp only [↓R1, R2, R3, R4, TY, reduceIte, Nat.reduceEqDiff, Nat.reduceAdd, Nat.reduceMul, Nat.reduceLT, Nat.reduceLeDiff, reduceCtorEq, decide_true, decide_false, Int.reduceLE, Int.reduceLT, Int.reduceToNat, Int.reduceAdd, Int.reduceSub, Int.reduceMul, Int.reduceEq, c3]
  refine ⟨fun h1 => ?_, fun h1 => ⟨fun h2 => ?_, fun h2 => ?_⟩⟩
  · refine Ended.back hA (Xt.refl _) ?_ (RB.int _ _)
    unfold pchk; rw [if_pos (by omega)]
  · refine Ended.back hA (Xt.refl _) ?_ (RB.int _ _)
    unfold pchk; rw [if_neg (by omega), if_pos h2]
  refine range_of 20 l.length (fun i τ C => Xt A.next A C ∧ τ 0 = some (.slice o l.length c) ∧ τ 18 = some (.slice o l.length c) ∧ τ 19 = some (.int .i64 (l.length : Nat)) ∧ τ 20 = some (.int .i64 (i : Nat)) ∧ τ 5 = some (.int .i64 (l.length : Nat)) ∧
    ∀ j, j < i → ∀ m, 2 ≤ m → m < l.length → 0 < crs (pget l j) (pget l ((j + 1) % l.length)) (pget l ((j + m) % l.length))) ?_ ?_
  · exact ⟨Xt.refl _, rfl, rfl, rfl, rfl, rfl, fun j h => absurd h (by omega)⟩
  rintro i τ C hi ⟨hx, q0, q18, q19, q20, q5, hok⟩
  simp only [↓R1, R2, R3, R4, TY, reduceIte, Nat.reduceEqDiff, Nat.reduceAdd, Nat.reduceMul, Nat.reduceLT, Nat.reduceLeDiff, reduceCtorEq, decide_true, decide_false, Int.reduceLE, Int.reduceLT, Int.reduceToNat, Int.reduceAdd, Int.reduceSub, Int.reduceMul, Int.reduceEq, q0, q18, q19, q20, q5]
  refine ⟨fun hlt => ?_, fun hlt => ?_⟩
  rotate_left
  · refine Ended.back hA hx ?_ (RB.int _ _)
    have hc : cvxB l = true := cvxB_iff.2 fun j hj m h2 hm => hok j (by omega) m h2 hm
    unfold pchk; rw [if_neg (by omega), if_neg h2, if_pos hc]
  have hlt' : i < l.length := by omega
  obtain ⟨a, rfl, -⟩ := hs.at (G := G) (i := i) (by simpa using hlt')
  have hsC := hs.xt hA hx
  have hac : a.block < C.next := Nat.lt_of_lt_of_le (hs.lt hA) hx.next
  have hflC : fl ≤ C.next := Nat.le_trans hA.floor hx.next
  obtain ⟨g0, g1, g2, g3, g4, g5⟩ := vec_get (G := G) hsC hlt'
  have gs := g0
  simp only [↓R1, R2, R3, R4, TY, reduceIte, Nat.reduceEqDiff, Nat.reduceAdd, Nat.reduceMul, Nat.reduceLT, Nat.reduceLeDiff, reduceCtorEq, decide_true, decide_false, Int.reduceLE, Int.reduceLT, Int.reduceToNat, Int.reduceAdd, Int.reduceSub, Int.reduceMul, Int.reduceEq, q0, q18, q19, q20, q5, hlt, g0, g1, g2, g3, g4, g5, hac, hflC]
  generalize hD : Hp.put _ _ _ = D
  have hxD : Xt A.next A D := by rw [← hD]; simp only [xt_push, xt_put, hx, hx.next]
  have hnD : D.next = C.next + 1 := by rw [← hD]; rfl
  have k0 : ∀ j, D.get G ⟨C.next, j, some 0⟩ = (vC (pget l i))[j]? := fun j => by
    rw [← hD]; simp [Hp.get, Hp.put_blk, vC_def]
  clear hD
  refine for_of 8 2 (l.length - 2) (fun m τ E => Xt A.next A E ∧ C.next < E.next ∧ (∀ j, E.get G ⟨C.next, j, some 0⟩ = (vC (pget l i))[j]?) ∧ τ 0 = some (.slice (some a) l.length c) ∧ τ 18 = some (.slice (some a) l.length c) ∧ τ 19 = some (.int .i64 (l.length : Nat)) ∧ τ 20 = some (.int .i64 (i : Nat)) ∧ τ 5 = some (.int .i64 (l.length : Nat)) ∧
    τ 6 = some (.int .i64 (i : Nat)) ∧ τ 7 = some (.pointer (some ⟨C.next, 0, some 0⟩)) ∧ τ 8 = some (.int .i64 ((m + 2 : Nat) : Int)) ∧
    ∀ n, 2 ≤ n → n < m + 2 → 0 < crs (pget l i) (pget l ((i + 1) % l.length)) (pget l ((i + n) % l.length))) ?_ ?_
  · exact ⟨hxD, by omega, k0, q0, q18, q19, q20, q5, rfl, rfl, rfl, fun n h2 h => absurd h (by omega)⟩
  rintro m τ' E hm' ⟨hxE, hcE, kE, r0, r18, r19, r20, r5, r6, r7, r8, hokm⟩
  have hi63 : i < 9223372036854775807 := by omega
  have cm : (((m + 2 : Nat) : Int) < ((l.length : Nat) : Int)) = (m + 2 < l.length) := by simp only [eq_iff_iff]; omega
  have w1 : IntKind.i64.wrap (((i : Nat) : Int) + 1) = ((i + 1 : Nat) : Int) := wrapI (by omega)
  have w2 : IntKind.i64.wrap (((i : Nat) : Int) + ((m + 2 : Nat) : Int)) = ((i + (m + 2) : Nat) : Int) := by rw [wrapI (by omega)]; omega
  have w3 : IntKind.i64.wrap (((m + 2 : Nat) : Int) + 1) = ((m + 1 + 2 : Nat) : Int) := by rw [wrapI (by omega)]; omega
  have n0 : (((l.length : Nat) : Int) = 0) = False := eq_false (by omega)
  have l1 : (i + 1) % l.length < l.length := mod_lt' hlt' _
  have l2 : (i + (m + 2)) % l.length < l.length := mod_lt' hlt' _
  have hsE := hs.xt hA hxE
  obtain ⟨u0, u1, u2, u3, u4, u5⟩ := vec_get (G := G) hsE l1
  obtain ⟨v0, v1, v2, v3, v4, v5⟩ := vec_get (G := G) hsE l2
  have hflE : fl ≤ E.next := Nat.le_trans hA.floor hxE.next
  have pl := fun fl A => pleft (G := G) (fl := fl) (A := A) hG (hz.at hlt') (hz.at l1) (hz.at l2) hk
  simp only [prV_def] at pl
  simp only [↓R1, R2, R3, R4, TY, reduceIte, Nat.reduceEqDiff, Nat.reduceAdd, Nat.reduceMul, Nat.reduceLT, Nat.reduceLeDiff, reduceCtorEq, decide_true, decide_false, Int.reduceLE, Int.reduceLT, Int.reduceToNat, Int.reduceAdd, Int.reduceSub, Int.reduceMul, Int.reduceEq, r0, r18, r19, r20, r5, r6, r7, r8, cm]
  refine ⟨fun hml => ?_, fun hml => ?_⟩
  · simp only [↓R1, R2, R3, R4, TY, reduceIte, Nat.reduceEqDiff, Nat.reduceAdd, Nat.reduceMul, Nat.reduceLT, Nat.reduceLeDiff, reduceCtorEq, decide_true, decide_false, Int.reduceLE, Int.reduceLT, Int.reduceToNat, Int.reduceAdd, Int.reduceSub, Int.reduceMul, Int.reduceEq, r0, r18, r19, r20, r5, r6, r7, r8, w1, w2, tmod_nat, n0, l1, l2, kE, vC_def, u0, u1, u2, u3, u4, u5, v0, v1, v2, v3, v4, v5, hflE]
    refine call_of (pl _ _) ?_
    simp only [↓R1, R2, R3, R4, TY, reduceIte, Nat.reduceEqDiff, Nat.reduceAdd, Nat.reduceMul, Nat.reduceLT, Nat.reduceLeDiff, reduceCtorEq, decide_true, decide_false, Int.reduceLE, Int.reduceLT, Int.reduceToNat, Int.reduceAdd, Int.reduceSub, Int.reduceMul, Int.reduceEq, rsign_le]
    refine ⟨fun hbad => ?_, fun hgood => ?_⟩
    · refine Ended.back hA hxE ?_ (RB.int _ _)
      have hc := cvx_no (l := l) (by omega) hml hlt' hbad
      unfold pchk; rw [if_neg (by omega), if_neg h2, if_neg hc]
    · simp only [↓R1, R2, R3, R4, TY, reduceIte, Nat.reduceEqDiff, Nat.reduceAdd, Nat.reduceMul, Nat.reduceLT, Nat.reduceLeDiff, reduceCtorEq, decide_true, decide_false, Int.reduceLE, Int.reduceLT, Int.reduceToNat, Int.reduceAdd, Int.reduceSub, Int.reduceMul, Int.reduceEq, r0, r18, r19, r20, r5, r6, r7, r8, w3]
      refine for_on r8 (by omega) (by omega) rfl (by omega) ⟨hxE, hcE, kE, r0, r18, r19, r20, r5, r6, r7, rfl, fun n h2 hn => ?_⟩
      by_cases e : n = m + 2
      · subst e; exact Classical.not_not.1 hgood
      · exact hokm n h2 (by omega)
  · simp only [↓R1, R2, R3, R4, TY, reduceIte, Nat.reduceEqDiff, Nat.reduceAdd, Nat.reduceMul, Nat.reduceLT, Nat.reduceLeDiff, reduceCtorEq, decide_true, decide_false, Int.reduceLE, Int.reduceLT, Int.reduceToNat, Int.reduceAdd, Int.reduceSub, Int.reduceMul, Int.reduceEq, r0, r18, r19, r20, r5, r6, r7, r8, hi63]
    refine range_on q20 hlt' rfl ⟨hxE, r0, r18, r19, rfl, r5, fun j hj n h2 hn => ?_⟩
    by_cases e : j = i
    · subst e; exact hokm n h2 (by omega)
    · exact hok j (by omega) n h2 hn
end
end Go.Proofs.YthclikeipdplpaaGreatDoor.Ab
