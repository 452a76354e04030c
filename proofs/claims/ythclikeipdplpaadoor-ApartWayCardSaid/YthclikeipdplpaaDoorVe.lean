/- Spans: plain facts. -/
import Derived.Test.YthclikeipdplpaaDoorUe
namespace Go.Proofs.YthclikeipdplpaaDoor.Ab
open Go.RowKit
set_option linter.unusedVariables false
set_option linter.unusedSimpArgs false
set_option maxRecDepth 100000

theorem rmin_def (p q : Rat) : rmin p q = if p ≤ q then p else q := by unfold rmin; simp only [rcmp_le_iff]
theorem rmax_def (p q : Rat) : rmax p q = if q ≤ p then p else q := by
  unfold rmax
  by_cases h : q ≤ p
  · rw [if_pos (rcmp_ge h), if_pos h]
  · rw [if_neg h, if_neg]
    rw [rcmp_lt (Rat.not_le.1 h)]; omega
theorem Sp.sub {a b c d : Rat} {j k : Nat} (h : Sp a b j) (h' : Sp c d k) : Sp (a - d) (b - c) (j + k + 1) := ⟨h.low.sub h'.high, h.high.sub h'.low, by have := h.le; have := h'.le; grind⟩
theorem rz_zero : Rz 0 1 := Rz.of (n := 0) (k := 1) (by simp [nb_zero]) (Nat.le_refl _)

end Go.Proofs.YthclikeipdplpaaDoor.Ab
