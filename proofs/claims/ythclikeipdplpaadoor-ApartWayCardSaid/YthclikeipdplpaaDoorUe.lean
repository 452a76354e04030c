/- Spans: squares, quotients, Make. -/
import Derived.Test.YthclikeipdplpaaDoorUc
namespace Go.Proofs.YthclikeipdplpaaDoor.Ab
open Go.RowKit
set_option linter.unusedVariables false
set_option linter.unusedSimpArgs false
set_option maxRecDepth 100000

def sqlo (a b : Rat) : Rat := if a ≤ 0 ∧ 0 ≤ b then 0 else rmin (a * a) (b * b)
def sqhi (a b : Rat) : Rat := rmax (a * a) (b * b)
theorem rOf_zero : rOf 0 = 0 := rfl

theorem ne9_4 {n : Nat} : (n + 4 = n) = False := eq_false (by omega)
theorem ne9_4' {n : Nat} : (n = n + 4) = False := eq_false (by omega)
theorem ne9_5 {n : Nat} : (n + 5 = n) = False := eq_false (by omega)
theorem ne9_5' {n : Nat} : (n = n + 5) = False := eq_false (by omega)
theorem ne9_6 {n : Nat} : (n + 6 = n) = False := eq_false (by omega)
theorem ne9_6' {n : Nat} : (n = n + 6) = False := eq_false (by omega)
theorem ne9_7 {n : Nat} : (n + 7 = n) = False := eq_false (by omega)
theorem ne9_7' {n : Nat} : (n = n + 7) = False := eq_false (by omega)
theorem ne9_8 {n : Nat} : (n + 8 = n) = False := eq_false (by omega)
theorem ne9_8' {n : Nat} : (n = n + 8) = False := eq_false (by omega)
theorem ne9_9 {n : Nat} : (n + 9 = n) = False := eq_false (by omega)
theorem ne9_9' {n : Nat} : (n = n + 9) = False := eq_false (by omega)
theorem ne9_10 {n : Nat} : (n + 10 = n) = False := eq_false (by omega)
theorem ne9_10' {n : Nat} : (n = n + 10) = False := eq_false (by omega)
theorem ne9_11 {n : Nat} : (n + 11 = n) = False := eq_false (by omega)
theorem ne9_11' {n : Nat} : (n = n + 11) = False := eq_false (by omega)
set_option linter.defProp false in
def NE9 := And.intro @ne9_4 (And.intro @ne9_5 (And.intro @ne9_6 (And.intro @ne9_7 (And.intro @ne9_8 (And.intro @ne9_9 (And.intro @ne9_10 (And.intro @ne9_11 (And.intro @ne9_4' (And.intro @ne9_5' (And.intro @ne9_6' (And.intro @ne9_7' (And.intro @ne9_8' (And.intro @ne9_9' (And.intro @ne9_10' (@ne9_11')))))))))))))))
section
variable {G : Gl} {fl : Nat} {A : Hp}

end
end Go.Proofs.YthclikeipdplpaaDoor.Ab

/- Spans: comparison; made, part, num, spanBegun. -/
namespace Go.Proofs.YthclikeipdplpaaDoor.Ab
open Go.RowKit
set_option linter.unusedVariables false
set_option linter.unusedSimpArgs false
set_option maxRecDepth 100000

theorem guard_rat : Tryd.prog.eqGuardType Tryd.prog.depth 27 = false := by kernel_rfl
theorem mrat_rz (x : Int) : Rz (mrat x) 1 := (mrat_sz x).rz (nb_len_le.2 (by omega))
theorem rOf_div (m n : Int) : rOf m / rOf n = (m : Rat) / (n : Rat) := by rw [rOf_eq, rOf_eq]

/-- A part of the way from one end to the other. -/
def prt (a b : Rat) (k : Int) : Rat := a + ((below k 9 : Int) : Rat) / ((8 : Int) : Rat) * (b - a)
theorem num_rz {m n : Int} (h1 : -1000000 ≤ m) (h2 : m ≤ 1000000) (h3 : -1000000 ≤ n) (h4 : n ≤ 1000000) (h0 : n ≠ 0) : Rz ((m : Rat) / (n : Rat)) 6 := by
  rw [← rOf_div]
  exact (Rz.of (k := 3) (nb_len_le.2 (by omega)) (by omega)).div (Rz.of (k := 3) (nb_len_le.2 (by omega)) (by omega)) (by rw [rOf_num]; exact h0)
section
variable {G : Gl} {fl : Nat} {A : Hp}

set_option maxHeartbeats 2000000 in
theorem num_ok {m n : Int} (hG : G 1 = some tabV) (h1 : -1000000 ≤ m) (h2 : m ≤ 1000000) (h3 : -1000000 ≤ n) (h4 : n ≤ 1000000) (h0 : n ≠ 0) : Sound Tryd.prog G 26 [.int .i64 m, .int .i64 n] fl A (ratV ((m : Rat) / (n : Rat))) A := by
  refine Sound.of mixed Tryd.func26 Tryd.ntmps26 Tryd.results26 (by kernel_rfl) rfl (by kernel_rfl) (by simp) fun hA => ?_
  have hfl : fl ≤ A.next := by have := hA.floor; omega
  have hfl1 : fl ≤ A.next + 1 := by have := hA.floor; omega
  have hfl2 : fl ≤ A.next + 2 := by have := hA.floor; omega
  have hfl3 : fl ≤ A.next + 3 := by have := hA.floor; omega
  have hfl4 : fl ≤ A.next + 4 := by have := hA.floor; omega
  have hfl5 : fl ≤ A.next + 5 := by have := hA.floor; omega
  have hfl6 : fl ≤ A.next + 6 := by have := hA.floor; omega
  have r1 := fun fl A => rmake_ok (G := G) (fl := fl) (A := A) h1 h2 h3 h4 h0
  have hrb := ratV_rb A.next ((m : Rat) / (n : Rat))
  rw [rOf_div] at r1
  rw [ratV_def] at r1 hrb ⊢
  simp only [↓R1, R2, R3, R4, TY, reduceIte, Nat.reduceEqDiff, Nat.reduceAdd, Nat.reduceMul, Nat.reduceLT, Nat.reduceLeDiff, reduceCtorEq, decide_true, decide_false, Int.reduceLE, Int.reduceLT, Int.reduceToNat, Int.reduceAdd, Int.reduceSub, Int.reduceMul, Int.reduceEq, hfl, hfl1, hfl2, hfl3, hfl4, hfl5, hfl6, NE]
  refine call_of (r1 _ _) ?_
  simp only [↓R1, R2, R3, R4, TY, reduceIte, Nat.reduceEqDiff, Nat.reduceAdd, Nat.reduceMul, Nat.reduceLT, Nat.reduceLeDiff, reduceCtorEq, decide_true, decide_false, Int.reduceLE, Int.reduceLT, Int.reduceToNat, Int.reduceAdd, Int.reduceSub, Int.reduceMul, Int.reduceEq, hfl, hfl1, hfl2, hfl3, hfl4, hfl5, hfl6, NE]
  refine Ended.back hA ?_ rfl hrb
  simp (maxDischargeDepth := 20) only [xt_push, xt_put, xt_refl, Nat.le_refl, Nat.le_add_right, Nat.add_assoc, Nat.reduceAdd]

end
end Go.Proofs.YthclikeipdplpaaDoor.Ab
