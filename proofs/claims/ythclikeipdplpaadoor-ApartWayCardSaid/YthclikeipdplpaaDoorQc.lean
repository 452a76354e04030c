/- Rational numbers are ordered: plain facts. -/
import Derived.Test.YthclikeipdplpaaDoorRi
import Derived.Test.YthclikeipdplpaaDoorQa
namespace Go.Proofs.YthclikeipdplpaaDoor.Ab
open Go.RowKit
set_option linter.unusedVariables false
set_option linter.unusedSimpArgs false
set_option maxRecDepth 100000

theorem num_neg_iff {q : Rat} : q.num < 0 ↔ q < 0 := by
  have := Rat.num_nonneg (q := q)
  rw [← Rat.not_le, ← this]; omega
theorem rlt_asymm {p q : Rat} (h : p < q) : ¬ q < p := Rat.not_lt.2 (Rat.le_of_lt h)
theorem Sz.min {p q : Rat} {k : Nat} (hp : Sz p k) (hq : Sz q k) : Sz (rmin p q) k := by unfold rmin; split; exact hp; exact hq
theorem Sz.max {p q : Rat} {k : Nat} (hp : Sz p k) (hq : Sz q k) : Sz (rmax p q) k := by unfold rmax; split; exact hp; exact hq

end Go.Proofs.YthclikeipdplpaaDoor.Ab

/- Rational numbers, rounded. -/
namespace Go.Proofs.YthclikeipdplpaaDoor.Ab
open Go.RowKit
set_option linter.unusedVariables false
set_option linter.unusedSimpArgs false
set_option maxRecDepth 100000

def rdown (q : Rat) (d : Nat) : Rat := mkRat (q * rOf d).floor d
def rup (q : Rat) (d : Nat) : Rat := -rdown (-q) d
theorem rOf_one : rOf 1 = 1 := by rw [rOf_eq]; rfl
theorem rcmp_le {p q : Rat} (h : p ≤ q) : rcmp p q ≤ 0 := by
  unfold rcmp
  split
  · omega
  · rw [if_neg (Rat.not_lt.2 h)]; omega
theorem rcmp_lt {p q : Rat} (h : p < q) : rcmp p q = -1 := by rw [rcmp, if_pos h]
theorem rcmp_ge {p q : Rat} (h : q ≤ p) : 0 ≤ rcmp p q := by
  unfold rcmp
  rw [if_neg (Rat.not_lt.2 h)]
  split <;> omega
theorem floor_abs (q : Rat) : q.floor.natAbs ≤ q.num.natAbs := by
  rw [Rat.floor_def]
  exact Int.natAbs_ediv_le_natAbs _ _
theorem Sz.floor {q : Rat} {k : Nat} (h : Sz q k) : Sz (rOf q.floor) k := sz_of (Nat.le_trans (floor_abs q) h.1) h.pos
theorem Rz.floor {q : Rat} {k : Nat} (h : Rz q k) : Rz (rOf q.floor) k := by
  refine Rz.mk (nb_len_le' (floor_abs q) h.1) ?_ h.pos
  rw [nb_one]; exact h.pos
theorem Rz.of {n : Int} {k : Nat} (h : (nb n.natAbs).length ≤ k) (hk : 1 ≤ k) : Rz (rOf n) k := Rz.mk h (by rw [nb_one]; exact hk) hk
section
variable {G : Gl} {fl : Nat} {A : Hp}

end
end Go.Proofs.YthclikeipdplpaaDoor.Ab
