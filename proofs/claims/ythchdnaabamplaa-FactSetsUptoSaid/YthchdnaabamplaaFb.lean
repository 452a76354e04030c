/- Facts: the reference's table of kinds; clashes. -/
import Derived.Test.YthchdnaabamplaaFa
namespace Go.Proofs.Ythchdnaabamplaa.Ab
open Go.RowKit
set_option linter.unusedVariables false
set_option linter.unusedSimpArgs false
set_option maxRecDepth 100000

section
variable {G : Gl} {fl : Nat} {A : Hp}

set_option maxHeartbeats 4000000 in
theorem factIs_ok (f : Fa) : Sound Try.prog G 10 [fV f] fl A (.bool (decide (fOk f))) A := by
  refine Sound.of mixed Try.func10 Try.ntmps10 Try.results10 (by kernel_rfl) rfl (by kernel_rfl) (by kernel_rfl) fun hA => ?_
  obtain ⟨k, a, b⟩ := f
  simp only [fV]
  have q1 := eqD_int (P := Try.prog) (k' := .i64) Try.underlying3
  have q2 := ckK_int (P := Try.prog) Try.underlying3
  have hf1 : fl ≤ A.next + 1 := by have := hA.floor; omega
  have hf2 : fl ≤ A.next + 2 := by have := hA.floor; omega
  rcases kinds k with rfl | rfl | rfl | rfl | rfl | rfl | ⟨h1, h2, h3, h4, h5, h6⟩
  case inr.inr.inr.inr.inr.inr =>
    have e1 := eq_false h1; have e2 := eq_false h2; have e3 := eq_false h3; have e4 := eq_false h4; have e5 := eq_false h5; have e6 := eq_false h6
    simp only [↓R1, R2, R3, R4, TY, reduceIte, Nat.reduceEqDiff, Nat.reduceAdd, Nat.reduceMul, Nat.reduceLT, Nat.reduceLeDiff, reduceCtorEq, decide_true, decide_false, Int.reduceLE, Int.reduceLT, Int.reduceToNat, Int.reduceAdd, Int.reduceSub, Int.reduceMul, Int.reduceEq, FE, q1, q2, hf1, hf2, e1, e2, e3, e4, e5, e6, Bool.false_eq_true, Nat.add_assoc]

    repeat' (first | (refine And.intro ?_ ?_) | intro _)
    all_goals
      refine Ended.back hA (by simp (maxDischargeDepth := 20) only [xt_push, xt_put, xt_refl, Nat.le_refl, Nat.le_add_right, Nat.add_assoc, Nat.reduceAdd]) (congrArg _ ?_) (RB.bool _)
      first
        | (refine dec_f ?_; simp only [fOk, limA, limB, e1, e2, e3, e4, e5, e6, if_false]; omega)
        | (refine dec_i ?_; simp only [fOk, limA, limB, e1, e2, e3, e4, e5, e6, if_false]; omega)
  all_goals
    simp only [↓R1, R2, R3, R4, TY, reduceIte, Nat.reduceEqDiff, Nat.reduceAdd, Nat.reduceMul, Nat.reduceLT, Nat.reduceLeDiff, reduceCtorEq, decide_true, decide_false, Int.reduceLE, Int.reduceLT, Int.reduceToNat, Int.reduceAdd, Int.reduceSub, Int.reduceMul, Int.reduceEq, FE, q1, q2, hf1, hf2, Bool.false_eq_true, Nat.add_assoc]
    repeat' (first | (refine And.intro ?_ ?_) | intro _)
    all_goals
      refine Ended.back hA (by simp (maxDischargeDepth := 20) only [xt_push, xt_put, xt_refl, Nat.le_refl, Nat.le_add_right, Nat.add_assoc, Nat.reduceAdd]) (congrArg _ ?_) (RB.bool _)
      first
        | (refine dec_f ?_; simp only [fOk, limA, limB, reduceIte, Int.reduceEq]; omega)
        | (refine dec_i ?_; simp only [fOk, limA, limB, reduceIte, Int.reduceEq]; omega)
end
end Go.Proofs.Ythchdnaabamplaa.Ab
