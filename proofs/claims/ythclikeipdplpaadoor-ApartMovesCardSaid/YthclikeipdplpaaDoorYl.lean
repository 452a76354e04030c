/- gantkeep1.PolyEnds returns true for every input. -/
import Derived.Test.YthclikeipdplpaaDoorYk
import Derived.Test.YthclikeipdplpaaDoorYj
namespace Go.Proofs.YthclikeipdplpaaDoor.Ab
open Go.RowKit
set_option linter.unusedVariables false
set_option linter.unusedSimpArgs false
set_option maxRecDepth 100000

/-- The middle between two points. -/
def mid (p q : V2) : V2 := ((p.1 + q.1) * (((1 : Int) : Rat) / ((2 : Int) : Rat)), (p.2 + q.2) * (((1 : Int) : Rat) / ((2 : Int) : Rat)))
theorem Lz.mono {l : List V2} {j k : Nat} (h : Lz l j) (hk : j ≤ k) : Lz l k := fun p hp => ⟨(h p hp).1.mono hk, (h p hp).2.mono hk⟩

section
variable {G : Gl} {fl : Nat} {A : Hp}

end
end Go.Proofs.YthclikeipdplpaaDoor.Ab
