/- Spans: their values; Good, fit, Of. -/
import Derived.Test.YthclikeipdplpaaDoorQc
namespace Go.Proofs.YthclikeipdplpaaDoor.Ab
open Go.RowKit
set_option linter.unusedVariables false
set_option linter.unusedSimpArgs false
set_option maxRecDepth 100000

/-- The value of a struct of two numbers. -/
def prV (p q : Rat) : Value := .agg #[.bool (decide (p.num < 0)), .string (S (nb p.num.natAbs)), .string (S (nb p.den)), .bool (decide (q.num < 0)), .string (S (nb q.num.natAbs)), .string (S (nb q.den))]
theorem prV_def (p q : Rat) : prV p q = .agg #[.bool (decide (p.num < 0)), .string (S (nb p.num.natAbs)), .string (S (nb p.den)), .bool (decide (q.num < 0)), .string (S (nb q.num.natAbs)), .string (S (nb q.den))] := rfl
theorem prV_rb (n : Nat) (p q : Rat) : RB n (prV p q) := RB.agg fun v hv => by
  simp only [List.mem_cons, List.not_mem_nil, or_false] at hv
  rcases hv with rfl | rfl | rfl | rfl | rfl | rfl <;> exact RB.zc rfl
theorem rcmp_le_iff {p q : Rat} : rcmp p q ≤ 0 ↔ p ≤ q := by
  refine ⟨fun h => Rat.not_lt.1 fun hn => ?_, rcmp_le⟩
  rw [rcmp, if_neg (rlt_asymm hn), if_pos hn] at h; omega

/-- A good span. -/
structure Sp (a b : Rat) (k : Nat) : Prop where
  low : Rz a k
  high : Rz b k
  le : a ≤ b

section
variable {G : Gl} {fl : Nat} {A : Hp}

end
end Go.Proofs.YthclikeipdplpaaDoor.Ab

/- Spans: the least span around numbers; products. -/
namespace Go.Proofs.YthclikeipdplpaaDoor.Ab
open Go.RowKit
set_option linter.unusedVariables false
set_option linter.unusedSimpArgs false
set_option maxRecDepth 100000

def ratC (q : Rat) : List Value := [.bool (decide (q.num < 0)), .string (S (nb q.num.natAbs)), .string (S (nb q.den))]
theorem ratC_length (q : Rat) : (ratC q).length = 3 := rfl
theorem flat3 {l : List Rat} {j : Nat} (h : j < l.length) (i : Nat) (hi : i < 3) : ((l.map ratC).flatten)[3 * j + i]? = (ratC l[j])[i]? := by
  induction l generalizing j with
  | nil => simp at h
  | cons a l ih =>
    cases j with
    | zero =>
      rw [List.map_cons, List.flatten_cons, Nat.mul_zero, Nat.zero_add, List.getElem?_append_left (by rw [ratC_length]; exact hi)]; rfl
    | succ j =>
      rw [List.map_cons, List.flatten_cons, List.getElem?_append_right (by rw [ratC_length]; omega), ratC_length, show 3 * (j + 1) + i - 3 = 3 * j + i by omega, ih (by simpa using h)]; rfl
theorem Rz.lo {l : List Rat} {k : Nat} : ∀ {r : Rat}, Rz r k → (∀ x ∈ l, Rz x k) → Rz (l.foldl rmin r) k := by
  induction l with
  | nil => intro r h _; exact h
  | cons a l ih => intro r h hl; exact ih (h.min (hl a (by simp))) fun x hx => hl x (by simp [hx])
theorem Rz.hi {l : List Rat} {k : Nat} : ∀ {r : Rat}, Rz r k → (∀ x ∈ l, Rz x k) → Rz (l.foldl rmax r) k := by
  induction l with
  | nil => intro r h _; exact h
  | cons a l ih => intro r h hl; exact ih (h.max (hl a (by simp))) fun x hx => hl x (by simp [hx])

section
variable {G : Gl} {fl : Nat} {A : Hp}

end
end Go.Proofs.YthclikeipdplpaaDoor.Ab
