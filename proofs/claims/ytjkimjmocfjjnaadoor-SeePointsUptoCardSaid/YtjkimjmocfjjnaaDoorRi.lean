/- Rational numbers: quotients of whole ones, texts; small ones made. -/
import Derived.Test.YtjkimjmocfjjnaaDoorRf
import Derived.Test.YtjkimjmocfjjnaaDoorNk
namespace Go.Proofs.YtjkimjmocfjjnaaDoor.Ab
open Go.RowKit
set_option linter.unusedVariables false
set_option linter.unusedSimpArgs false
set_option maxRecDepth 100000

/-- A number from 0 on below another. -/
def below (x n : Int) : Int := if x.tmod n < 0 then x.tmod n + n else x.tmod n
theorem below_range {x n : Int} (h : 0 < n) : 0 ≤ below x n ∧ below x n < n := by
  have h1 := Int.tmod_lt_of_pos x h
  have h2 : -n < x.tmod n := Int.neg_lt_of_neg_lt (by have := Int.lt_tmod_of_pos x h; omega)
  unfold below; split <;> omega
def mden (x : Int) : Int := ([1, 2, 3, 4, 5, 8] : List Int).getD (below x 6).toNat 0
def mnum (x : Int) : Int := below (x.tdiv 6) (16 * mden x + 1) - 8 * mden x
/-- A small number. -/
def mrat (x : Int) : Rat := mkRat (mnum x) (mden x).toNat
theorem mden_range (x : Int) : 1 ≤ mden x ∧ mden x ≤ 8 := by
  have := below_range (x := x) (n := 6) (by omega)
  unfold mden
  generalize below x 6 = b at this
  have hb : b = 0 ∨ b = 1 ∨ b = 2 ∨ b = 3 ∨ b = 4 ∨ b = 5 := by omega
  rcases hb with rfl | rfl | rfl | rfl | rfl | rfl <;> decide
theorem mnum_range (x : Int) : -64 ≤ mnum x ∧ mnum x ≤ 64 := by
  have h := mden_range x
  have := below_range (x := x.tdiv 6) (n := 16 * mden x + 1) (by omega)
  unfold mnum; omega
theorem mrat_sz (x : Int) : Sz (mrat x) 64 := by
  have h1 := mden_range x
  have h2 := mnum_range x
  exact Sz.mk (by omega) (by omega) (by omega)

section
variable {G : Gl} {fl : Nat} {A : Hp}

end
end Go.Proofs.YtjkimjmocfjjnaaDoor.Ab

/- Rational numbers: small ones made; the fact about them. -/
namespace Go.Proofs.YtjkimjmocfjjnaaDoor.Ab
open Go.RowKit
set_option linter.unusedVariables false
set_option linter.unusedSimpArgs false
set_option maxRecDepth 100000

/-- A number's bytes, the least first. -/
def nl (n : Nat) : List UInt8 := (nb n).reverse
theorem nl_zero : nl 0 = [] := by rw [nl, nb_zero]; rfl
theorem nl_pos {n : Nat} (h : n ≠ 0) : nl n = UInt8.ofNat (n % 256) :: nl (n / 256) := by rw [nl, nb_pos h, List.reverse_append]; rfl
theorem tdiv_gcd {n : Int} {d : Nat} : n.tdiv (Nat.gcd n.natAbs d : Nat) = sgn (decide (n < 0)) (n.natAbs / Nat.gcd n.natAbs d) := by
  unfold sgn
  split
  · rename_i h
    have h' : n < 0 := by simpa using h
    have e : n = -(n.natAbs : Int) := by omega
    conv => lhs; lhs; rw [e]
    rw [Int.neg_tdiv, div_n]
  · rename_i h
    have h' : ¬ n < 0 := by simpa using h
    have e : n = (n.natAbs : Int) := by omega
    conv => lhs; lhs; rw [e]
    rw [div_n]

section
variable {G : Gl} {fl : Nat} {A : Hp}

end
end Go.Proofs.YtjkimjmocfjjnaaDoor.Ab

/- Rational numbers: small ones by their number; the fact about package rat. -/
namespace Go.Proofs.YtjkimjmocfjjnaaDoor.Ab
open Go.RowKit
set_option linter.unusedVariables false
set_option linter.unusedSimpArgs false
set_option maxRecDepth 100000

theorem ratV_def (q : Rat) : ratV q = .agg #[.bool (decide (q.num < 0)), .string (S (nb q.num.natAbs)), .string (S (nb q.den))] := rfl
theorem dec_len' {n : Nat} (h : n ≠ 0) : (dec n).length = (dl n).length := by rw [dec, if_neg h, List.length_reverse]

section
variable {G : Gl} {fl : Nat} {A : Hp}

end
end Go.Proofs.YtjkimjmocfjjnaaDoor.Ab
