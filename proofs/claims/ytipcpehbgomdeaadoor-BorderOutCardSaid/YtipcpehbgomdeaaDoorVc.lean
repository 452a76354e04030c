/- Turns. -/
import Derived.Test.YtipcpehbgomdeaaDoorVe
namespace Go.Proofs.YtipcpehbgomdeaaDoor.Ab
open Go.RowKit
set_option linter.unusedVariables false
set_option linter.unusedSimpArgs false
set_option maxRecDepth 100000

/-- A turn: none is the half turn. -/
def tnV (o : Option Rat) : Value := .agg #[.bool o.isNone, .bool (decide ((o.getD 0).num < 0)), .string (S (nb (o.getD 0).num.natAbs)), .string (S (nb (o.getD 0).den))]
theorem tnV_none : tnV none = .agg #[.bool true, .bool (decide ((0 : Rat).num < 0)), .string (S (nb (0 : Rat).num.natAbs)), .string (S (nb (0 : Rat).den))] := rfl
theorem tnV_some (t : Rat) : tnV (some t) = .agg #[.bool false, .bool (decide (t.num < 0)), .string (S (nb t.num.natAbs)), .string (S (nb t.den))] := rfl
theorem tnV_rb (n : Nat) (o : Option Rat) : RB n (tnV o) := RB.agg fun v hv => by
  simp only [List.mem_cons, List.not_mem_nil, or_false] at hv
  rcases hv with rfl | rfl | rfl | rfl <;> exact RB.zc rfl
def tcos (o : Option Rat) : Rat := match o with | none => -1 | some t => (1 - t * t) / (1 + t * t)
def tsin (o : Option Rat) : Rat := (o.getD 0 + o.getD 0) / (1 + o.getD 0 * o.getD 0)
def topp (b : Rat) : Option Rat := if b = 0 then none else some (-1 / b)
def tthen (a b : Option Rat) : Option Rat := match a, b with
  | none, none => some 0
  | none, some y => topp y
  | some x, none => topp x
  | some x, some y => if 1 - x * y = 0 then none else some ((x + y) / (1 - x * y))
def tback (o : Option Rat) : Option Rat := o.map fun t => -t
theorem sq_nn (t : Rat) : 0 ≤ t * t := by
  rcases Rat.le_total (a := 0) (b := t) with h | h
  · exact Rat.mul_nonneg h h
  · have := Rat.mul_nonneg (a := -t) (b := -t) (by grind) (by grind)
    grind
theorem one_sq (t : Rat) : 1 + t * t ≠ 0 := by have := sq_nn t; grind
theorem num_ne {q : Rat} (h : q ≠ 0) : q.num ≠ 0 := fun e => h (Rat.num_eq_zero.1 e)
theorem rz_one : Rz 1 1 := Rz.of (n := 1) (k := 1) (by rw [show (1 : Int).natAbs = 1 from rfl, nb_one]; decide) (Nat.le_refl _)
theorem rz_neg1 : Rz (-1) 1 := rz_one.neg
theorem rOf_neg1 : rOf (-1) = -1 := rfl
theorem rz_cos {o : Option Rat} {k : Nat} (h : Rz (o.getD 0) k) : Rz (tcos o) (4 * k + 4) := by
  have := h.pos
  cases o with
  | none => exact rz_neg1.mono (by omega)
  | some t => exact ((rz_one.sub (h.mul h)).div (rz_one.add (h.mul h)) (num_ne (one_sq t))).mono (by omega)
theorem rz_sin {o : Option Rat} {k : Nat} (h : Rz (o.getD 0) k) : Rz (tsin o) (4 * k + 4) := ((h.add h).div (rz_one.add (h.mul h)) (num_ne (one_sq _))).mono (by omega)
theorem rz_opp {t : Rat} {k : Nat} (h : Rz t k) : Rz ((topp t).getD 0) (k + 1) := by
  unfold topp
  split
  · exact rz_zero.mono (by omega)
  · rename_i h0; exact (rz_neg1.div h (num_ne h0)).mono (by omega)
theorem rz_then {a b : Option Rat} {j k : Nat} (ha : Rz (a.getD 0) j) (hb : Rz (b.getD 0) k) : Rz ((tthen a b).getD 0) (2 * j + 2 * k + 4) := by
  unfold tthen
  match a, b with
  | none, none => exact rz_zero.mono (by omega)
  | none, some y => exact (rz_opp hb).mono (by omega)
  | some x, none => exact (rz_opp ha).mono (by omega)
  | some x, some y =>
    simp only
    split
    · exact rz_zero.mono (by omega)
    · rename_i h0; exact ((ha.add hb).div (rz_one.sub (ha.mul hb)) (num_ne h0)).mono (by omega)
theorem rz_back {o : Option Rat} {k : Nat} (h : Rz (o.getD 0) k) : Rz ((tback o).getD 0) k := by
  cases o with
  | none => exact h
  | some t => exact h.neg

section
variable {G : Gl} {fl : Nat} {A : Hp}

end
end Go.Proofs.YtipcpehbgomdeaaDoor.Ab
