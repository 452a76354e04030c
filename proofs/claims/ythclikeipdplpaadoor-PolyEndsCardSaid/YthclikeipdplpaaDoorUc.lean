/- Spans: products, squares, quotients. -/
import Derived.Test.YthclikeipdplpaaDoorUb
namespace Go.Proofs.YthclikeipdplpaaDoor.Ab
open Go.RowKit
set_option linter.unusedVariables false
set_option linter.unusedSimpArgs false
set_option maxRecDepth 100000

def smlo (a b c d : Rat) : Rat := rmin (rmin (rmin (a * c) (a * d)) (b * c)) (b * d)
def smhi (a b c d : Rat) : Rat := rmax (rmax (rmax (a * c) (a * d)) (b * c)) (b * d)

theorem smlo_eq (a b c d : Rat) : smlo a b c d = List.foldl rmin (a * c) [a * d, b * c, b * d] := by unfold smlo; simp only [List.foldl_cons, List.foldl_nil]
theorem smhi_eq (a b c d : Rat) : smhi a b c d = List.foldl rmax (a * c) [a * d, b * c, b * d] := by unfold smhi; simp only [List.foldl_cons, List.foldl_nil]
theorem push_at {A : Hp} {b : Blk} {i : Nat} (h : i = A.next) : (A.push b).blk i = some b := by rw [Hp.push_blk, if_pos h]
theorem zl_len {l : List Value} {n : Nat} : (zl l n).length = n := by simp [zl]
theorem set4r (z : List Value) (hz : z.length = 12) (p q r s : Rat) : (((((((((((z.set 0 (.bool (decide (p.num < 0)))).set 1 (.string (S (nb p.num.natAbs)))).set 2 (.string (S (nb p.den)))).set 3 (.bool (decide (q.num < 0)))).set 4 (.string (S (nb q.num.natAbs)))).set 5 (.string (S (nb q.den)))).set 6 (.bool (decide (r.num < 0)))).set 7 (.string (S (nb r.num.natAbs)))).set 8 (.string (S (nb r.den)))).set 9 (.bool (decide (s.num < 0)))).set 10 (.string (S (nb s.num.natAbs)))).set 11 (.string (S (nb s.den))) = ([p, q, r, s].map ratC).flatten := by
  match z, hz with
  | [_, _, _, _, _, _, _, _, _, _, _, _], _ => rfl

section
variable {G : Gl} {fl : Nat} {A : Hp}

end
end Go.Proofs.YthclikeipdplpaaDoor.Ab
