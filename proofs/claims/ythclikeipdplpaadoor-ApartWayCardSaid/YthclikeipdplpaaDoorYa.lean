/- Polygons: plain facts of signs of areas. -/
import Derived.Test.YthclikeipdplpaaDoorVk
namespace Go.Proofs.YthclikeipdplpaaDoor.Ab
set_option linter.unusedVariables false
set_option linter.unusedSimpArgs false
set_option maxRecDepth 100000

/-- A point. -/
abbrev V2 := Rat × Rat
def pget (l : List V2) (i : Nat) : V2 := l.getD i (0, 0)
def crs (a b c : V2) : Rat := (b.1 - a.1) * (c.2 - a.2) - (b.2 - a.2) * (c.1 - a.1)
def dt (m p : V2) : Rat := m.1 * p.1 + m.2 * p.2
/-- Is a polygon convex, in the order of the document? -/
def cvxB (l : List V2) : Bool := (List.range l.length).all fun i => (List.range (l.length - 2)).all fun k => decide (0 < crs (pget l i) (pget l ((i + 1) % l.length)) (pget l ((i + (k + 2)) % l.length)))
def Cvx (l : List V2) : Prop := ∀ i, i < l.length → ∀ k, 2 ≤ k → k < l.length → 0 < crs (pget l i) (pget l ((i + 1) % l.length)) (pget l ((i + k) % l.length))
theorem cvxB_iff {l : List V2} : cvxB l = true ↔ Cvx l := by
  unfold cvxB Cvx
  simp only [List.all_eq_true, List.mem_range, decide_eq_true_eq]
  constructor
  · intro h i hi k h2 hk
    have := h i hi (k - 2) (by omega)
    rwa [show k - 2 + 2 = k by omega] at this
  · intro h i hi k hk
    exact h i hi (k + 2) (by omega) (by omega)
/-- What poly.check returns. -/
def pchk (l : List V2) (most : Nat) : Int := if most < l.length then 2 else if l.length < 3 then 3 else if cvxB l then 0 else 3
theorem pchk_ok {l : List V2} {most : Nat} : pchk l most = 0 ↔ 3 ≤ l.length ∧ l.length ≤ most ∧ Cvx l := by
  unfold pchk
  rw [← cvxB_iff]
  split
  · constructor
    · intro h; exact absurd h (by decide)
    · intro h; omega
  · split
    · constructor
      · intro h; exact absurd h (by decide)
      · intro h; omega
    · split
      · rename_i h; exact ⟨fun _ => ⟨by omega, by omega, h⟩, fun _ => rfl⟩
      · rename_i h; exact ⟨fun h => absurd h (by decide), fun h' => absurd h'.2.2 h⟩
/-- Every other corner is to the left of an edge, or on its line. -/
theorem Cvx.left {l : List V2} (h : Cvx l) {i j : Nat} (hi : i < l.length) (hj : j < l.length) : 0 ≤ crs (pget l i) (pget l ((i + 1) % l.length)) (pget l j) := by
  by_cases h0 : j = i
  · subst h0
    have : crs (pget l j) (pget l ((j + 1) % l.length)) (pget l j) = 0 := by unfold crs; grind
    rw [this]; exact Rat.le_refl
  · by_cases h1 : j = (i + 1) % l.length
    · rw [h1]
      have : crs (pget l i) (pget l ((i + 1) % l.length)) (pget l ((i + 1) % l.length)) = 0 := by unfold crs; grind
      rw [this]; exact Rat.le_refl
    · by_cases hlt : i < j
      · have h2 : 2 ≤ j - i := by
          rcases Nat.lt_or_ge (i + 1) l.length with hh | hh
          · rw [Nat.mod_eq_of_lt hh] at h1; omega
          · omega
        have := h i hi (j - i) h2 (by omega)
        rw [show i + (j - i) = j by omega, Nat.mod_eq_of_lt hj] at this
        exact Rat.le_of_lt this
      · have h2 : 2 ≤ j + l.length - i := by
          rcases Nat.lt_or_ge (i + 1) l.length with hh | hh
          · omega
          · have e : i + 1 = l.length := by omega
            rw [e, Nat.mod_self] at h1; omega
        have := h i hi (j + l.length - i) h2 (by omega)
        rw [show i + (j + l.length - i) = j + l.length by omega, Nat.add_mod_right, Nat.mod_eq_of_lt hj] at this
        exact Rat.le_of_lt this

/-- Does a convex polygon contain a point? -/
def hasB (l : List V2) (p : V2) : Bool := (List.range l.length).all fun i => decide (0 ≤ crs (pget l i) (pget l ((i + 1) % l.length)) p)
def phas (l : List V2) (p : V2) : Bool := pchk l 64 == 0 && hasB l p
/-- Twice the area. -/
def dbl (l : List V2) : Nat → Rat
  | 0 => 0
  | n + 1 => dbl l n + ((pget l n).1 * (pget l ((n + 1) % l.length)).2 - (pget l n).2 * (pget l ((n + 1) % l.length)).1)
def parea (l : List V2) : Rat := if pchk l 64 = 0 then 1 / 2 * dbl l l.length else 0

/-! frames -/
def mv (x y : Rat) (o : Option Rat) (p : V2) : V2 := (x + rx o p.1 p.2, y + ry o p.1 p.2)
theorem crs_mv (x y : Rat) (o : Option Rat) (a b c : V2) : crs (mv x y o a) (mv x y o b) (mv x y o c) = crs a b c := by
  have h := tsq o
  unfold crs mv rx ry
  simp only
  generalize tcos o = C at *
  generalize tsin o = T at *
  grind
theorem pget_map {l : List V2} {f : V2 → V2} {i : Nat} (h : i < l.length) : pget (l.map f) i = f (pget l i) := by
  simp [pget, h]
theorem mod_lt' {n i : Nat} (h : i < n) (k : Nat) : k % n < n := Nat.mod_lt _ (by omega)
theorem cvxB_mv (x y : Rat) (o : Option Rat) (l : List V2) : cvxB (l.map (mv x y o)) = cvxB l := by
  rw [Bool.eq_iff_iff, cvxB_iff, cvxB_iff]
  unfold Cvx
  rw [List.length_map]
  constructor
  · intro h i hi k h2 hk
    have := h i hi k h2 hk
    rwa [pget_map hi, pget_map (mod_lt' hi _), pget_map (mod_lt' hi _), crs_mv] at this
  · intro h i hi k h2 hk
    rw [pget_map hi, pget_map (mod_lt' hi _), pget_map (mod_lt' hi _), crs_mv]
    exact h i hi k h2 hk
theorem pchk_mv (x y : Rat) (o : Option Rat) (l : List V2) (m : Nat) : pchk (l.map (mv x y o)) m = pchk l m := by
  unfold pchk; rw [cvxB_mv, List.length_map]
end Go.Proofs.YthclikeipdplpaaDoor.Ab
