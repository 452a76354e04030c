/- Spans: products, squares, quotients. -/
import Derived.Test.YthclikeipdplpaaDoorUb
namespace Go.Proofs.YthclikeipdplpaaDoor.Ab
open Go.RowKit
set_option linter.unusedVariables false
set_option linter.unusedSimpArgs false
set_option maxRecDepth 100000

def smlo (a b c d : Rat) : Rat := rmin (rmin (rmin (a * c) (a * d)) (b * c)) (b * d)
def smhi (a b c d : Rat) : Rat := rmax (rmax (rmax (a * c) (a * d)) (b * c)) (b * d)

theorem push_at {A : Hp} {b : Blk} {i : Nat} (h : i = A.next) : (A.push b).blk i = some b := by rw [Hp.push_blk, if_pos h]
section
variable {G : Gl} {fl : Nat} {A : Hp}

end
end Go.Proofs.YthclikeipdplpaaDoor.Ab
