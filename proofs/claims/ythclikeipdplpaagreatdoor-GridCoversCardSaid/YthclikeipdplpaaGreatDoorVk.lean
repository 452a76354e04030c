/- Frames. -/
import Derived.Test.YthclikeipdplpaaGreatDoorVm
namespace Go.Proofs.YthclikeipdplpaaGreatDoor.Ab
open Go.RowKit
set_option linter.unusedVariables false
set_option linter.unusedSimpArgs false
set_option maxRecDepth 100000

/-- A vector that is turned. -/
def rx (o : Option Rat) (a b : Rat) : Rat := a * tcos o - b * tsin o
def ry (o : Option Rat) (a b : Rat) : Rat := a * tsin o + b * tcos o
def frV (x y : Rat) (o : Option Rat) : Value := .agg #[.bool (decide (x.num < 0)), .string (S (nb x.num.natAbs)), .string (S (nb x.den)), .bool (decide (y.num < 0)), .string (S (nb y.num.natAbs)), .string (S (nb y.den)), .bool o.isNone, .bool (decide ((o.getD 0).num < 0)), .string (S (nb (o.getD 0).num.natAbs)), .string (S (nb (o.getD 0).den))]
theorem frV_def (x y : Rat) (o : Option Rat) : frV x y o = .agg #[.bool (decide (x.num < 0)), .string (S (nb x.num.natAbs)), .string (S (nb x.den)), .bool (decide (y.num < 0)), .string (S (nb y.num.natAbs)), .string (S (nb y.den)), .bool o.isNone, .bool (decide ((o.getD 0).num < 0)), .string (S (nb (o.getD 0).num.natAbs)), .string (S (nb (o.getD 0).den))] := rfl
theorem frV_rb (n : Nat) (x y : Rat) (o : Option Rat) : RB n (frV x y o) := RB.agg fun v hv => by
  simp only [List.mem_cons, List.not_mem_nil, or_false] at hv
  rcases hv with rfl | rfl | rfl | rfl | rfl | rfl | rfl | rfl | rfl | rfl <;> exact RB.zc rfl
theorem rz_rx {o : Option Rat} {a b : Rat} {j k : Nat} (ho : Rz (o.getD 0) k) (ha : Rz a j) (hb : Rz b j) : Rz (rx o a b) (2 * j + 8 * k + 9) := ((ha.mul (rz_cos ho)).sub (hb.mul (rz_sin ho))).mono (by omega)
theorem rz_ry {o : Option Rat} {a b : Rat} {j k : Nat} (ho : Rz (o.getD 0) k) (ha : Rz a j) (hb : Rz b j) : Rz (ry o a b) (2 * j + 8 * k + 9) := ((ha.mul (rz_sin ho)).add (hb.mul (rz_cos ho))).mono (by omega)

section
variable {G : Gl} {fl : Nat} {A : Hp}

end
end Go.Proofs.YthclikeipdplpaaGreatDoor.Ab

/- Frames: points of a list. -/
namespace Go.Proofs.YthclikeipdplpaaGreatDoor.Ab
open Go.RowKit
set_option linter.unusedVariables false
set_option linter.unusedSimpArgs false
set_option maxRecDepth 100000

def prC (p q : Rat) : List Value := [.bool (decide (p.num < 0)), .string (S (nb p.num.natAbs)), .string (S (nb p.den)), .bool (decide (q.num < 0)), .string (S (nb q.num.natAbs)), .string (S (nb q.den))]
def pr0 : List Value := [.bool false, .string (S []), .string (S []), .bool false, .string (S []), .string (S [])]

section
variable {G : Gl} {fl : Nat} {A : Hp}

end
end Go.Proofs.YthclikeipdplpaaGreatDoor.Ab
