/- Spans: their values; Good, fit, Of. -/
import Derived.Test.YthclikeipdplpaaDoorQc
namespace Go.Proofs.YthclikeipdplpaaDoor.Ab
open Go.RowKit
set_option linter.unusedVariables false
set_option linter.unusedSimpArgs false
set_option maxRecDepth 100000

/-- The value of a struct of two numbers. -/
def prV (p q : Rat) : Value := .agg #[.bool (decide (p.num < 0)), .string (S (nb p.num.natAbs)), .string (S (nb p.den)), .bool (decide (q.num < 0)), .string (S (nb q.num.natAbs)), .string (S (nb q.den))]
theorem prV_def (p q : Rat) : prV p q = .agg #[.bool (decide (p.num < 0)), .string (S (nb p.num.natAbs)), .string (S (nb p.den)), .bool (decide (q.num < 0)), .string (S (nb q.num.natAbs)), .string (S (nb q.den))] := rfl
theorem prV_rb (n : Nat) (p q : Rat) : RB n (prV p q) := RB.agg fun v hv => by
  simp only [List.mem_cons, List.not_mem_nil, or_false] at hv
  rcases hv with rfl | rfl | rfl | rfl | rfl | rfl <;> exact RB.zc rfl
theorem rcmp_le_iff {p q : Rat} : rcmp p q ≤ 0 ↔ p ≤ q := by
  refine ⟨fun h => Rat.not_lt.1 fun hn => ?_, rcmp_le⟩
  rw [rcmp, if_neg (rlt_asymm hn), if_pos hn] at h; omega

/-- A good span. -/
structure Sp (a b : Rat) (k : Nat) : Prop where
  low : Rz a k
  high : Rz b k
  le : a ≤ b

section
variable {G : Gl} {fl : Nat} {A : Hp}

end
end Go.Proofs.YthclikeipdplpaaDoor.Ab

/- Spans: the least span around numbers; products. -/
namespace Go.Proofs.YthclikeipdplpaaDoor.Ab
open Go.RowKit
set_option linter.unusedVariables false
set_option linter.unusedSimpArgs false
set_option maxRecDepth 100000

def ratC (q : Rat) : List Value := [.bool (decide (q.num < 0)), .string (S (nb q.num.natAbs)), .string (S (nb q.den))]
theorem Rz.hi {l : List Rat} {k : Nat} : ∀ {r : Rat}, Rz r k → (∀ x ∈ l, Rz x k) → Rz (l.foldl rmax r) k := by
  induction l with
  | nil => intro r h _; exact h
  | cons a l ih => intro r h hl; exact ih (h.max (hl a (by simp))) fun x hx => hl x (by simp [hx])

section
variable {G : Gl} {fl : Nat} {A : Hp}

end
end Go.Proofs.YthclikeipdplpaaDoor.Ab
