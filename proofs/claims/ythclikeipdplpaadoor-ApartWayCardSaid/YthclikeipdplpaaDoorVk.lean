/- Frames: points of a list. -/
import Derived.Test.YthclikeipdplpaaDoorVj
namespace Go.Proofs.YthclikeipdplpaaDoor.Ab
open Go.RowKit
set_option linter.unusedVariables false
set_option linter.unusedSimpArgs false
set_option maxRecDepth 100000

def prC (p q : Rat) : List Value := [.bool (decide (p.num < 0)), .string (S (nb p.num.natAbs)), .string (S (nb p.den)), .bool (decide (q.num < 0)), .string (S (nb q.num.natAbs)), .string (S (nb q.den))]
def pr0 : List Value := [.bool false, .string (S []), .string (S []), .bool false, .string (S []), .string (S [])]

section
variable {G : Gl} {fl : Nat} {A : Hp}

end
end Go.Proofs.YthclikeipdplpaaDoor.Ab
