/- Rational numbers: quotients of whole ones, texts; small ones made. -/
import Derived.Test.YtjkimjmocfjjnaaDoorRf
import Derived.Test.YtjkimjmocfjjnaaDoorNk
namespace Go.Proofs.YtjkimjmocfjjnaaDoor.Ab
open Go.RowKit
set_option linter.unusedVariables false
set_option linter.unusedSimpArgs false
set_option maxRecDepth 100000

/-- A number from 0 on below another. -/
def below (x n : Int) : Int := if x.tmod n < 0 then x.tmod n + n else x.tmod n
def mden (x : Int) : Int := ([1, 2, 3, 4, 5, 8] : List Int).getD (below x 6).toNat 0
def mnum (x : Int) : Int := below (x.tdiv 6) (16 * mden x + 1) - 8 * mden x
/-- A small number. -/
def mrat (x : Int) : Rat := mkRat (mnum x) (mden x).toNat
section
variable {G : Gl} {fl : Nat} {A : Hp}

end
end Go.Proofs.YtjkimjmocfjjnaaDoor.Ab

/- Rational numbers: small ones made; the fact about them. -/
namespace Go.Proofs.YtjkimjmocfjjnaaDoor.Ab
open Go.RowKit
set_option linter.unusedVariables false
set_option linter.unusedSimpArgs false
set_option maxRecDepth 100000

/-- A number's bytes, the least first. -/
def nl (n : Nat) : List UInt8 := (nb n).reverse
section
variable {G : Gl} {fl : Nat} {A : Hp}

end
end Go.Proofs.YtjkimjmocfjjnaaDoor.Ab

/- Rational numbers: small ones by their number; the fact about package rat. -/
namespace Go.Proofs.YtjkimjmocfjjnaaDoor.Ab
open Go.RowKit
set_option linter.unusedVariables false
set_option linter.unusedSimpArgs false
set_option maxRecDepth 100000

theorem ratV_def (q : Rat) : ratV q = .agg #[.bool (decide (q.num < 0)), .string (S (nb q.num.natAbs)), .string (S (nb q.den))] := rfl
section
variable {G : Gl} {fl : Nat} {A : Hp}

end
end Go.Proofs.YtjkimjmocfjjnaaDoor.Ab
