/- Turns: comparison, turned, turnBegun. -/
import Derived.Test.YthclikeipdplpaaDoorVc
import Derived.Test.YthclikeipdplpaaDoorUe
namespace Go.Proofs.YthclikeipdplpaaDoor.Ab
open Go.RowKit
set_option linter.unusedVariables false
set_option linter.unusedSimpArgs false
set_option maxRecDepth 100000

def trn (x : Int) : Option Rat := if below x 5 = 0 then none else some (mrat x)
theorem trn_rz (x : Int) : Rz ((trn x).getD 0) 1 := by
  unfold trn; split
  · exact rz_zero
  · exact mrat_rz x
theorem begun_turn : tcos (some (((1 : Int) : Rat) / ((2 : Int) : Rat))) = ((3 : Int) : Rat) / ((5 : Int) : Rat) ∧ tsin (some (((1 : Int) : Rat) / ((2 : Int) : Rat))) = ((4 : Int) : Rat) / ((5 : Int) : Rat) := by decide +kernel

section
variable {G : Gl} {fl : Nat} {A : Hp}

set_option maxHeartbeats 2000000 in
theorem turned_h {x : Int} (hG : G 1 = some tabV) (k : -9223372036854775808 ≤ x ∧ x ≤ 9223372036854775807) (h0 : below x 5 = 0) : Sound Tryd.prog G 47 [.int .i64 x] fl A (tnV none) A := by
  refine Sound.of mixed Tryd.func47 Tryd.ntmps47 Tryd.results47 (by kernel_rfl) rfl (by kernel_rfl) (by simp) fun hA => ?_
  have hfl : fl ≤ A.next := by have := hA.floor; omega
  have hfl1 : fl ≤ A.next + 1 := by have := hA.floor; omega
  have hfl2 : fl ≤ A.next + 2 := by have := hA.floor; omega
  have hfl3 : fl ≤ A.next + 3 := by have := hA.floor; omega
  have hfl4 : fl ≤ A.next + 4 := by have := hA.floor; omega
  have hfl5 : fl ≤ A.next + 5 := by have := hA.floor; omega
  have hfl6 : fl ≤ A.next + 6 := by have := hA.floor; omega
  have b1 := fun fl A => below_ok (G := G) (fl := fl) (A := A) (x := x) (n := 5) (by omega) (by omega) k.1 k.2
  have z0 := fun fl A => rof_ok (G := G) (fl := fl) (A := A) (n := 0) (by decide) (by decide)
  have hrb := tnV_rb A.next none
  rw [rOf_zero, ratV_def] at z0
  rw [h0] at b1
  rw [tnV_none] at hrb ⊢
  simp only [↓R1, R2, R3, R4, TY, reduceIte, Nat.reduceEqDiff, Nat.reduceAdd, Nat.reduceMul, Nat.reduceLT, Nat.reduceLeDiff, reduceCtorEq, decide_true, decide_false, Int.reduceLE, Int.reduceLT, Int.reduceToNat, Int.reduceAdd, Int.reduceSub, Int.reduceMul, Int.reduceEq, hfl, hfl1, hfl2, hfl3, hfl4, hfl5, hfl6, NE, NE9, Nat.add_assoc]
  refine call_of (b1 _ _) ?_
  simp only [↓R1, R2, R3, R4, TY, reduceIte, Nat.reduceEqDiff, Nat.reduceAdd, Nat.reduceMul, Nat.reduceLT, Nat.reduceLeDiff, reduceCtorEq, decide_true, decide_false, Int.reduceLE, Int.reduceLT, Int.reduceToNat, Int.reduceAdd, Int.reduceSub, Int.reduceMul, Int.reduceEq, hfl, hfl1, hfl2, hfl3, hfl4, hfl5, hfl6, NE, NE9, Nat.add_assoc]
  refine call_of (z0 _ _) ?_
  simp only [↓R1, R2, R3, R4, TY, reduceIte, Nat.reduceEqDiff, Nat.reduceAdd, Nat.reduceMul, Nat.reduceLT, Nat.reduceLeDiff, reduceCtorEq, decide_true, decide_false, Int.reduceLE, Int.reduceLT, Int.reduceToNat, Int.reduceAdd, Int.reduceSub, Int.reduceMul, Int.reduceEq, hfl, hfl1, hfl2, hfl3, hfl4, hfl5, hfl6, NE, NE9, Nat.add_assoc]
  refine Ended.back hA ?_ rfl hrb
  simp (maxDischargeDepth := 20) only [xt_push, xt_put, xt_refl, Nat.le_refl, Nat.le_add_right, Nat.add_assoc, Nat.reduceAdd]

set_option maxHeartbeats 2000000 in
theorem turned_s {x : Int} (hG : G 1 = some tabV) (k : -9223372036854775808 ≤ x ∧ x ≤ 9223372036854775807) (h0 : below x 5 ≠ 0) : Sound Tryd.prog G 47 [.int .i64 x] fl A (tnV (some (mrat x))) A := by
  refine Sound.of mixed Tryd.func47 Tryd.ntmps47 Tryd.results47 (by kernel_rfl) rfl (by kernel_rfl) (by simp) fun hA => ?_
  have hfl : fl ≤ A.next := by have := hA.floor; omega
  have hfl1 : fl ≤ A.next + 1 := by have := hA.floor; omega
  have hfl2 : fl ≤ A.next + 2 := by have := hA.floor; omega
  have hfl3 : fl ≤ A.next + 3 := by have := hA.floor; omega
  have hfl4 : fl ≤ A.next + 4 := by have := hA.floor; omega
  have hfl5 : fl ≤ A.next + 5 := by have := hA.floor; omega
  have hfl6 : fl ≤ A.next + 6 := by have := hA.floor; omega
  have b1 := fun fl A => below_ok (G := G) (fl := fl) (A := A) (x := x) (n := 5) (by omega) (by omega) k.1 k.2
  have hb0 : (below x 5 = 0) = False := eq_false h0
  have r1 := fun fl A => mrat_ok (G := G) (fl := fl) (A := A) k.1 k.2
  have t1 := fun fl A => tof (G := G) (fl := fl) (A := A) hG (mrat_rz x) (by omega)
  have hrb := tnV_rb A.next (some (mrat x))
  rw [ratV_def] at r1 t1
  rw [tnV_some] at t1 hrb ⊢
  simp only [↓R1, R2, R3, R4, TY, reduceIte, Nat.reduceEqDiff, Nat.reduceAdd, Nat.reduceMul, Nat.reduceLT, Nat.reduceLeDiff, reduceCtorEq, decide_true, decide_false, Int.reduceLE, Int.reduceLT, Int.reduceToNat, Int.reduceAdd, Int.reduceSub, Int.reduceMul, Int.reduceEq, hfl, hfl1, hfl2, hfl3, hfl4, hfl5, hfl6, NE, NE9, Nat.add_assoc, hb0]
  refine call_of (b1 _ _) ?_
  simp only [↓R1, R2, R3, R4, TY, reduceIte, Nat.reduceEqDiff, Nat.reduceAdd, Nat.reduceMul, Nat.reduceLT, Nat.reduceLeDiff, reduceCtorEq, decide_true, decide_false, Int.reduceLE, Int.reduceLT, Int.reduceToNat, Int.reduceAdd, Int.reduceSub, Int.reduceMul, Int.reduceEq, hfl, hfl1, hfl2, hfl3, hfl4, hfl5, hfl6, NE, NE9, Nat.add_assoc, hb0]
  refine call_of (r1 _ _) ?_
  simp only [↓R1, R2, R3, R4, TY, reduceIte, Nat.reduceEqDiff, Nat.reduceAdd, Nat.reduceMul, Nat.reduceLT, Nat.reduceLeDiff, reduceCtorEq, decide_true, decide_false, Int.reduceLE, Int.reduceLT, Int.reduceToNat, Int.reduceAdd, Int.reduceSub, Int.reduceMul, Int.reduceEq, hfl, hfl1, hfl2, hfl3, hfl4, hfl5, hfl6, NE, NE9, Nat.add_assoc, hb0]
  refine call_of (t1 _ _) ?_
  simp only [↓R1, R2, R3, R4, TY, reduceIte, Nat.reduceEqDiff, Nat.reduceAdd, Nat.reduceMul, Nat.reduceLT, Nat.reduceLeDiff, reduceCtorEq, decide_true, decide_false, Int.reduceLE, Int.reduceLT, Int.reduceToNat, Int.reduceAdd, Int.reduceSub, Int.reduceMul, Int.reduceEq, hfl, hfl1, hfl2, hfl3, hfl4, hfl5, hfl6, NE, NE9, Nat.add_assoc, hb0]
  refine Ended.back hA ?_ rfl hrb
  simp (maxDischargeDepth := 20) only [xt_push, xt_put, xt_refl, Nat.le_refl, Nat.le_add_right, Nat.add_assoc, Nat.reduceAdd]

theorem turned_ok {x : Int} (hG : G 1 = some tabV) (k : -9223372036854775808 ≤ x ∧ x ≤ 9223372036854775807) : Sound Tryd.prog G 47 [.int .i64 x] fl A (tnV (trn x)) A := by
  unfold trn
  split
  · rename_i h0; exact turned_h hG k h0
  · rename_i h0; exact turned_s hG k h0

set_option maxHeartbeats 2000000 in
theorem turnBegun_ok  (hG : G 1 = some tabV)  : Sound Tryd.prog G 86 [] fl A (.bool true) A := by
  refine Sound.of mixed Tryd.func86 Tryd.ntmps86 Tryd.results86 (by kernel_rfl) rfl (by kernel_rfl) (by simp) fun hA => ?_
  have hfl : fl ≤ A.next := by have := hA.floor; omega
  have hfl1 : fl ≤ A.next + 1 := by have := hA.floor; omega
  have hfl2 : fl ≤ A.next + 2 := by have := hA.floor; omega
  have hfl3 : fl ≤ A.next + 3 := by have := hA.floor; omega
  have hfl4 : fl ≤ A.next + 4 := by have := hA.floor; omega
  have hfl5 : fl ≤ A.next + 5 := by have := hA.floor; omega
  have hfl6 : fl ≤ A.next + 6 := by have := hA.floor; omega
  have n1 := fun fl A => num_ok (G := G) (fl := fl) (A := A) (m := 1) (n := 2) hG (by omega) (by omega) (by omega) (by omega) (by omega)
  have n2 := fun fl A => num_ok (G := G) (fl := fl) (A := A) (m := 3) (n := 5) hG (by omega) (by omega) (by omega) (by omega) (by omega)
  have n3 := fun fl A => num_ok (G := G) (fl := fl) (A := A) (m := 4) (n := 5) hG (by omega) (by omega) (by omega) (by omega) (by omega)
  have z := num_rz (m := 1) (n := 2) (by omega) (by omega) (by omega) (by omega) (by omega)
  have t1 := fun fl A => tof (G := G) (fl := fl) (A := A) hG z (by omega)
  have c1 := fun fl A => tcos_some (G := G) (fl := fl) (A := A) hG z (by omega)
  have c2 := fun fl A => tsin_some (G := G) (fl := fl) (A := A) hG z (by omega)
  have bg := fun fl A => ratBegun_ok (G := G) (fl := fl) (A := A)
  have hd1 := eqD_rat (((3 : Int) : Rat) / ((5 : Int) : Rat)) (((3 : Int) : Rat) / ((5 : Int) : Rat))
  have hd2 := eqD_rat (((4 : Int) : Rat) / ((5 : Int) : Rat)) (((4 : Int) : Rat) / ((5 : Int) : Rat))
  rw [begun_turn.1] at c1
  rw [begun_turn.2] at c2
  generalize ((1 : Int) : Rat) / ((2 : Int) : Rat) = u1 at *
  generalize ((3 : Int) : Rat) / ((5 : Int) : Rat) = u2 at *
  generalize ((4 : Int) : Rat) / ((5 : Int) : Rat) = u3 at *
  rw [decide_eq_true rfl] at hd1 hd2
  rw [ratV_def] at n1 n2 n3 hd1 hd2
  rw [ratV_def, tnV_some] at t1
  rw [tnV_some, ratV_def] at c1 c2
  simp only [↓R1, R2, R3, R4, TY, reduceIte, Nat.reduceEqDiff, Nat.reduceAdd, Nat.reduceMul, Nat.reduceLT, Nat.reduceLeDiff, reduceCtorEq, decide_true, decide_false, Int.reduceLE, Int.reduceLT, Int.reduceToNat, Int.reduceAdd, Int.reduceSub, Int.reduceMul, Int.reduceEq, hfl, hfl1, hfl2, hfl3, hfl4, hfl5, hfl6, NE, guard_rat, hd1, hd2]
  refine call_of (n1 _ _) ?_
  simp only [↓R1, R2, R3, R4, TY, reduceIte, Nat.reduceEqDiff, Nat.reduceAdd, Nat.reduceMul, Nat.reduceLT, Nat.reduceLeDiff, reduceCtorEq, decide_true, decide_false, Int.reduceLE, Int.reduceLT, Int.reduceToNat, Int.reduceAdd, Int.reduceSub, Int.reduceMul, Int.reduceEq, hfl, hfl1, hfl2, hfl3, hfl4, hfl5, hfl6, NE, guard_rat, hd1, hd2]
  refine call_of (t1 _ _) ?_
  simp only [↓R1, R2, R3, R4, TY, reduceIte, Nat.reduceEqDiff, Nat.reduceAdd, Nat.reduceMul, Nat.reduceLT, Nat.reduceLeDiff, reduceCtorEq, decide_true, decide_false, Int.reduceLE, Int.reduceLT, Int.reduceToNat, Int.reduceAdd, Int.reduceSub, Int.reduceMul, Int.reduceEq, hfl, hfl1, hfl2, hfl3, hfl4, hfl5, hfl6, NE, guard_rat, hd1, hd2]
  refine call_of (bg _ _) ?_
  simp only [↓R1, R2, R3, R4, TY, reduceIte, Nat.reduceEqDiff, Nat.reduceAdd, Nat.reduceMul, Nat.reduceLT, Nat.reduceLeDiff, reduceCtorEq, decide_true, decide_false, Int.reduceLE, Int.reduceLT, Int.reduceToNat, Int.reduceAdd, Int.reduceSub, Int.reduceMul, Int.reduceEq, hfl, hfl1, hfl2, hfl3, hfl4, hfl5, hfl6, NE, guard_rat, hd1, hd2]
  refine call_of (c1 _ _) ?_
  simp only [↓R1, R2, R3, R4, TY, reduceIte, Nat.reduceEqDiff, Nat.reduceAdd, Nat.reduceMul, Nat.reduceLT, Nat.reduceLeDiff, reduceCtorEq, decide_true, decide_false, Int.reduceLE, Int.reduceLT, Int.reduceToNat, Int.reduceAdd, Int.reduceSub, Int.reduceMul, Int.reduceEq, hfl, hfl1, hfl2, hfl3, hfl4, hfl5, hfl6, NE, guard_rat, hd1, hd2]
  refine call_of (n2 _ _) ?_
  simp only [↓R1, R2, R3, R4, TY, reduceIte, Nat.reduceEqDiff, Nat.reduceAdd, Nat.reduceMul, Nat.reduceLT, Nat.reduceLeDiff, reduceCtorEq, decide_true, decide_false, Int.reduceLE, Int.reduceLT, Int.reduceToNat, Int.reduceAdd, Int.reduceSub, Int.reduceMul, Int.reduceEq, hfl, hfl1, hfl2, hfl3, hfl4, hfl5, hfl6, NE, guard_rat, hd1, hd2]
  refine call_of (c2 _ _) ?_
  simp only [↓R1, R2, R3, R4, TY, reduceIte, Nat.reduceEqDiff, Nat.reduceAdd, Nat.reduceMul, Nat.reduceLT, Nat.reduceLeDiff, reduceCtorEq, decide_true, decide_false, Int.reduceLE, Int.reduceLT, Int.reduceToNat, Int.reduceAdd, Int.reduceSub, Int.reduceMul, Int.reduceEq, hfl, hfl1, hfl2, hfl3, hfl4, hfl5, hfl6, NE, guard_rat, hd1, hd2]
  refine call_of (n3 _ _) ?_
  simp only [↓R1, R2, R3, R4, TY, reduceIte, Nat.reduceEqDiff, Nat.reduceAdd, Nat.reduceMul, Nat.reduceLT, Nat.reduceLeDiff, reduceCtorEq, decide_true, decide_false, Int.reduceLE, Int.reduceLT, Int.reduceToNat, Int.reduceAdd, Int.reduceSub, Int.reduceMul, Int.reduceEq, hfl, hfl1, hfl2, hfl3, hfl4, hfl5, hfl6, NE, guard_rat, hd1, hd2]
  refine Ended.back hA ?_ rfl (RB.bool _)
  simp (maxDischargeDepth := 20) only [xt_push, xt_put, xt_refl, Nat.le_refl, Nat.le_add_right, Nat.add_assoc, Nat.reduceAdd]

end
end Go.Proofs.YthclikeipdplpaaDoor.Ab

/- Turns: plain facts. -/
namespace Go.Proofs.YthclikeipdplpaaDoor.Ab
open Go.RowKit
set_option linter.unusedVariables false
set_option linter.unusedSimpArgs false
set_option maxRecDepth 100000

theorem tnV_def (o : Option Rat) : tnV o = .agg #[.bool o.isNone, .bool (decide ((o.getD 0).num < 0)), .string (S (nb (o.getD 0).num.natAbs)), .string (S (nb (o.getD 0).den))] := rfl
theorem tsq (a : Option Rat) : tcos a * tcos a + tsin a * tsin a = 1 := by
  cases a with
  | none => simp only [tcos, tsin, Option.getD]; grind
  | some x => simp only [tcos, tsin, Option.getD]; have := one_sq x; grind
end Go.Proofs.YthclikeipdplpaaDoor.Ab
