/- Products of vectors, and turning. -/
import Derived.Test.YtincjhklpgfkgaaDoorVg
namespace Go.Proofs.YtincjhklpgfkgaaDoor.Ab
open Go.RowKit
set_option linter.unusedVariables false
set_option linter.unusedSimpArgs false
set_option maxRecDepth 100000

theorem tcos_back (o : Option Rat) : tcos (tback o) = tcos o := by
  cases o with
  | none => rfl
  | some t => simp only [tback, Option.map, tcos]; grind
theorem tsin_back (o : Option Rat) : tsin (tback o) = -tsin o := by
  cases o with
  | none => simp only [tback, Option.map, tsin, Option.getD]; grind
  | some t => simp only [tback, Option.map, tsin, Option.getD]; have := one_sq t; grind

section
variable {G : Gl} {fl : Nat} {A : Hp}

set_option maxHeartbeats 16000000 in
theorem vecLaws_calls {x1 x2 x3 x4 x5 : Int} (hG : G 2 = some tabV) (k1 : -9223372036854775808 ≤ x1 ∧ x1 ≤ 9223372036854775807) (k2 : -9223372036854775808 ≤ x2 ∧ x2 ≤ 9223372036854775807) (k3 : -9223372036854775808 ≤ x3 ∧ x3 ≤ 9223372036854775807) (k4 : -9223372036854775808 ≤ x4 ∧ x4 ≤ 9223372036854775807) (k5 : -9223372036854775808 ≤ x5 ∧ x5 ≤ 9223372036854775807) :
    ∀ (μ : Mu) (w : World) (args' : Array Value), HR G μ fl A w → fl ≤ A.next → VRa μ A [.int .i64 x1, .int .i64 x2, .int .i64 x3, .int .i64 x4, .int .i64 x5].toArray args' →
    Calls Tryd.prog 7 args' w fun e w' => ∃ u, e = .returned u ∧ ∃ ν, VR ν A (.bool true) u ∧ HR G ν fl A w' ∧ Trans fl μ A w ν A w' := by
  refine calls_of mixed Tryd.func7 Tryd.ntmps7 Tryd.results7 (by kernel_rfl) rfl (by kernel_rfl) (by simp) fun hA => ?_
  have hfl : fl ≤ A.next := by have := hA.floor; omega
  have hfl1 : fl ≤ A.next + 1 := by have := hA.floor; omega
  have hfl2 : fl ≤ A.next + 2 := by have := hA.floor; omega
  have hfl3 : fl ≤ A.next + 3 := by have := hA.floor; omega
  have hfl4 : fl ≤ A.next + 4 := by have := hA.floor; omega
  have hfl5 : fl ≤ A.next + 5 := by have := hA.floor; omega
  have hfl6 : fl ≤ A.next + 6 := by have := hA.floor; omega
  have hfl7 : fl ≤ A.next + 7 := by have := hA.floor; omega
  have hfl8 : fl ≤ A.next + 8 := by have := hA.floor; omega
  have hfl9 : fl ≤ A.next + 9 := by have := hA.floor; omega
  have hfl10 : fl ≤ A.next + 10 := by have := hA.floor; omega
  have hfl11 : fl ≤ A.next + 11 := by have := hA.floor; omega
  have bg := fun fl A => vecBegun_ok (G := G) (fl := fl) (A := A) hG
  have v1 := fun fl A => vector_ok (G := G) (fl := fl) (A := A) hG k1 k2
  have v2 := fun fl A => vector_ok (G := G) (fl := fl) (A := A) hG k3 k4
  have t1 := fun fl A => turned_ok (G := G) (fl := fl) (A := A) hG k5
  have za := mrat_rz x1
  have zb := mrat_rz x2
  have zc := mrat_rz x3
  have zd := mrat_rz x4
  have zo := trn_rz x5
  generalize mrat x1 = a at *
  generalize mrat x2 = b at *
  generalize mrat x3 = c at *
  generalize mrat x4 = d at *
  generalize trn x5 = o at *
  have hcs := tsq o
  have hC := tcos_back o
  have hS := tsin_back o
  have zC := rz_cos zo
  have zS := rz_sin zo
  have dt := fun fl A => vdot (G := G) (fl := fl) (A := A) hG za zb zc zd (by omega)
  have cr := fun fl A => vcross (G := G) (fl := fl) (A := A) hG za zb zc zd (by omega)
  have p := fun fl A => vturn (G := G) (fl := fl) (A := A) hG za zb zo (by omega)
  have q := fun fl A => vturn (G := G) (fl := fl) (A := A) hG zc zd zo (by omega)
  have zdt := (za.mul zc).add (zb.mul zd)
  have zcr := (za.mul zd).sub (zb.mul zc)
  have zp1 := (za.mul zC).sub (zb.mul zS)
  have zp2 := (za.mul zS).add (zb.mul zC)
  have zq1 := (zc.mul zC).sub (zd.mul zS)
  have zq2 := (zc.mul zS).add (zd.mul zC)
  have l1 := fun fl A => qmul (G := G) (fl := fl) (A := A) hG zdt zdt (by omega)
  have l2 := fun fl A => qmul (G := G) (fl := fl) (A := A) hG zcr zcr (by omega)
  have l3 := fun fl A => qadd (G := G) (fl := fl) (A := A) hG (zdt.mul zdt) (zcr.mul zcr) (by omega)
  have aa := fun fl A => vdot (G := G) (fl := fl) (A := A) hG za zb za zb (by omega)
  have bb := fun fl A => vdot (G := G) (fl := fl) (A := A) hG zc zd zc zd (by omega)
  have ab := fun fl A => qmul (G := G) (fl := fl) (A := A) hG ((za.mul za).add (zb.mul zb)) ((zc.mul zc).add (zd.mul zd)) (by omega)
  have pq := fun fl A => vdot (G := G) (fl := fl) (A := A) hG zp1 zp2 zq1 zq2 (by omega)
  have pc := fun fl A => vcross (G := G) (fl := fl) (A := A) hG zp1 zp2 zq1 zq2 (by omega)
  have s1 := fun fl A => vadd (G := G) (fl := fl) (A := A) hG za zb zc zd (by omega)
  have s2 := fun fl A => vturn (G := G) (fl := fl) (A := A) hG (za.add zc) (zb.add zd) zo (by omega)
  have s3 := fun fl A => vadd (G := G) (fl := fl) (A := A) hG zp1 zp2 zq1 zq2 (by omega)
  have bk := fun fl A => tback_ok (G := G) (fl := fl) (A := A) hG zo (by omega)
  have s4 := fun fl A => vturn (G := G) (fl := fl) (A := A) hG zp1 zp2 (rz_back zo) (by omega)
  have s5 := fun fl A => vsub (G := G) (fl := fl) (A := A) hG (za.add zc) (zb.add zd) zc zd (by omega)
  have cr2 := fun fl A => vcross (G := G) (fl := fl) (A := A) hG zc zd za zb (by omega)
  have ng := fun fl A => qneg (G := G) (fl := fl) (A := A) hG zcr (by omega)
  have n1 := fun fl A => num_ok (G := G) (fl := fl) (A := A) (m := 1) (n := 3) hG (by omega) (by omega) (by omega) (by omega) (by omega)
  have n2 := fun fl A => num_ok (G := G) (fl := fl) (A := A) (m := 2) (n := 3) hG (by omega) (by omega) (by omega) (by omega) (by omega)
  have zn1 := num_rz (m := 1) (n := 3) (by omega) (by omega) (by omega) (by omega) (by omega)
  have zn2 := num_rz (m := 2) (n := 3) (by omega) (by omega) (by omega) (by omega) (by omega)
  have c1 := fun fl A => vscale (G := G) (fl := fl) (A := A) hG za zb zn1 (by omega)
  have c2 := fun fl A => vscale (G := G) (fl := fl) (A := A) hG za zb zn2 (by omega)
  have c3 := fun fl A => vadd (G := G) (fl := fl) (A := A) hG (za.mul zn1) (zb.mul zn1) (za.mul zn2) (zb.mul zn2) (by omega)
  have h13 : ((1 : Int) : Rat) / ((3 : Int) : Rat) + ((2 : Int) : Rat) / ((3 : Int) : Rat) = 1 := by decide +kernel
  have f1 : (a * c + b * d) * (a * c + b * d) + (a * d - b * c) * (a * d - b * c) = (a * a + b * b) * (c * c + d * d) := by grind
  have f2 : (a * tcos o - b * tsin o) * (c * tcos o - d * tsin o) + (a * tsin o + b * tcos o) * (c * tsin o + d * tcos o) = a * c + b * d := by grind
  have f3 : (a * tcos o - b * tsin o) * (c * tsin o + d * tcos o) - (a * tsin o + b * tcos o) * (c * tcos o - d * tsin o) = a * d - b * c := by grind
  have f4 : (a + c) * tcos o - (b + d) * tsin o = a * tcos o - b * tsin o + (c * tcos o - d * tsin o) := by grind
  have f5 : (a + c) * tsin o + (b + d) * tcos o = a * tsin o + b * tcos o + (c * tsin o + d * tcos o) := by grind
  have f6 : (a * tcos o - b * tsin o) * tcos (tback o) - (a * tsin o + b * tcos o) * tsin (tback o) = a := by rw [hC, hS]; grind
  have f7 : (a * tcos o - b * tsin o) * tsin (tback o) + (a * tsin o + b * tcos o) * tcos (tback o) = b := by rw [hC, hS]; grind
  have f8 : a + c - c = a := by grind
  have f9 : b + d - d = b := by grind
  have f10 : c * b - d * a = -(a * d - b * c) := by grind
  have f11 : a * (((1 : Int) : Rat) / ((3 : Int) : Rat)) + a * (((2 : Int) : Rat) / ((3 : Int) : Rat)) = a := by rw [← Rat.mul_add, h13, Rat.mul_one]
  have f12 : b * (((1 : Int) : Rat) / ((3 : Int) : Rat)) + b * (((2 : Int) : Rat) / ((3 : Int) : Rat)) = b := by rw [← Rat.mul_add, h13, Rat.mul_one]
  rw [f1] at l3
  rw [f2] at pq
  rw [f3] at pc
  rw [f4, f5] at s2
  rw [f6, f7] at s4
  rw [f8, f9] at s5
  rw [f10] at cr2
  rw [f11, f12] at c3
  clear f1 f2 f3 f4 f5 f6 f7 f8 f9 f10 f11 f12 h13 hcs hC hS
  have e1 := eqD_rat ((a * a + b * b) * (c * c + d * d)) ((a * a + b * b) * (c * c + d * d))
  have e2 := eqD_rat (a * c + b * d) (a * c + b * d)
  have e3 := eqD_rat (a * d - b * c) (a * d - b * c)
  have e4 := eqD_vec (a * tcos o - b * tsin o + (c * tcos o - d * tsin o)) (a * tsin o + b * tcos o + (c * tsin o + d * tcos o)) (a * tcos o - b * tsin o + (c * tcos o - d * tsin o)) (a * tsin o + b * tcos o + (c * tsin o + d * tcos o))
  have e5 := eqD_vec a b a b
  have e6 := eqD_rat (-(a * d - b * c)) (-(a * d - b * c))
  rw [decide_eq_true rfl] at e1 e2 e3 e6
  rw [decide_eq_true rfl, decide_eq_true rfl] at e4 e5
  generalize ((1 : Int) : Rat) / ((3 : Int) : Rat) = u1 at *
  generalize ((2 : Int) : Rat) / ((3 : Int) : Rat) = u2 at *
  simp only [tnV_def, ratV_def, prV_def] at v1 v2 t1 dt cr p q l1 l2 l3 aa bb ab pq pc s1 s2 s3 bk s4 s5 cr2 ng n1 n2 c1 c2 c3 e1 e2 e3 e4 e5 e6
  have fin : ∀ (x : Bool) (C : Hp), Xt A.next A C → x = true → Ended A (.bool x) C (.bool true) A := fun x C hC hx => Ended.back hA hC (congrArg _ hx) (RB.bool _)
  simp only [↓R1, R2, R3, R4, TY, reduceIte, Nat.reduceEqDiff, Nat.reduceAdd, Nat.reduceMul, Nat.reduceLT, Nat.reduceLeDiff, reduceCtorEq, decide_true, decide_false, Int.reduceLE, Int.reduceLT, Int.reduceToNat, Int.reduceAdd, Int.reduceSub, Int.reduceMul, Int.reduceEq, hfl, hfl1, hfl2, hfl3, hfl4, hfl5, hfl6, NE, NE9, Nat.add_assoc, hfl7, hfl8, hfl9, hfl10, hfl11, guard_rat, guard_vec, guard_turn, e1, e2, e3, e4, e5, e6, beq_self_eq_true, Bool.and_true, append_eq, List.cons_append, List.nil_append]
  refine call_of (bg _ _) ?_
  simp only [↓R1, R2, R3, R4, TY, reduceIte, Nat.reduceEqDiff, Nat.reduceAdd, Nat.reduceMul, Nat.reduceLT, Nat.reduceLeDiff, reduceCtorEq, decide_true, decide_false, Int.reduceLE, Int.reduceLT, Int.reduceToNat, Int.reduceAdd, Int.reduceSub, Int.reduceMul, Int.reduceEq, hfl, hfl1, hfl2, hfl3, hfl4, hfl5, hfl6, NE, NE9, Nat.add_assoc, hfl7, hfl8, hfl9, hfl10, hfl11, guard_rat, guard_vec, guard_turn, e1, e2, e3, e4, e5, e6, beq_self_eq_true, Bool.and_true, append_eq, List.cons_append, List.nil_append]
  refine call_of (v1 _ _) ?_
  simp only [↓R1, R2, R3, R4, TY, reduceIte, Nat.reduceEqDiff, Nat.reduceAdd, Nat.reduceMul, Nat.reduceLT, Nat.reduceLeDiff, reduceCtorEq, decide_true, decide_false, Int.reduceLE, Int.reduceLT, Int.reduceToNat, Int.reduceAdd, Int.reduceSub, Int.reduceMul, Int.reduceEq, hfl, hfl1, hfl2, hfl3, hfl4, hfl5, hfl6, NE, NE9, Nat.add_assoc, hfl7, hfl8, hfl9, hfl10, hfl11, guard_rat, guard_vec, guard_turn, e1, e2, e3, e4, e5, e6, beq_self_eq_true, Bool.and_true, append_eq, List.cons_append, List.nil_append]
  refine call_of (v2 _ _) ?_
  simp only [↓R1, R2, R3, R4, TY, reduceIte, Nat.reduceEqDiff, Nat.reduceAdd, Nat.reduceMul, Nat.reduceLT, Nat.reduceLeDiff, reduceCtorEq, decide_true, decide_false, Int.reduceLE, Int.reduceLT, Int.reduceToNat, Int.reduceAdd, Int.reduceSub, Int.reduceMul, Int.reduceEq, hfl, hfl1, hfl2, hfl3, hfl4, hfl5, hfl6, NE, NE9, Nat.add_assoc, hfl7, hfl8, hfl9, hfl10, hfl11, guard_rat, guard_vec, guard_turn, e1, e2, e3, e4, e5, e6, beq_self_eq_true, Bool.and_true, append_eq, List.cons_append, List.nil_append]
  refine call_of (t1 _ _) ?_
  simp only [↓R1, R2, R3, R4, TY, reduceIte, Nat.reduceEqDiff, Nat.reduceAdd, Nat.reduceMul, Nat.reduceLT, Nat.reduceLeDiff, reduceCtorEq, decide_true, decide_false, Int.reduceLE, Int.reduceLT, Int.reduceToNat, Int.reduceAdd, Int.reduceSub, Int.reduceMul, Int.reduceEq, hfl, hfl1, hfl2, hfl3, hfl4, hfl5, hfl6, NE, NE9, Nat.add_assoc, hfl7, hfl8, hfl9, hfl10, hfl11, guard_rat, guard_vec, guard_turn, e1, e2, e3, e4, e5, e6, beq_self_eq_true, Bool.and_true, append_eq, List.cons_append, List.nil_append]
  refine call_of (dt _ _) ?_
  simp only [↓R1, R2, R3, R4, TY, reduceIte, Nat.reduceEqDiff, Nat.reduceAdd, Nat.reduceMul, Nat.reduceLT, Nat.reduceLeDiff, reduceCtorEq, decide_true, decide_false, Int.reduceLE, Int.reduceLT, Int.reduceToNat, Int.reduceAdd, Int.reduceSub, Int.reduceMul, Int.reduceEq, hfl, hfl1, hfl2, hfl3, hfl4, hfl5, hfl6, NE, NE9, Nat.add_assoc, hfl7, hfl8, hfl9, hfl10, hfl11, guard_rat, guard_vec, guard_turn, e1, e2, e3, e4, e5, e6, beq_self_eq_true, Bool.and_true, append_eq, List.cons_append, List.nil_append]
  refine call_of (cr _ _) ?_
  simp only [↓R1, R2, R3, R4, TY, reduceIte, Nat.reduceEqDiff, Nat.reduceAdd, Nat.reduceMul, Nat.reduceLT, Nat.reduceLeDiff, reduceCtorEq, decide_true, decide_false, Int.reduceLE, Int.reduceLT, Int.reduceToNat, Int.reduceAdd, Int.reduceSub, Int.reduceMul, Int.reduceEq, hfl, hfl1, hfl2, hfl3, hfl4, hfl5, hfl6, NE, NE9, Nat.add_assoc, hfl7, hfl8, hfl9, hfl10, hfl11, guard_rat, guard_vec, guard_turn, e1, e2, e3, e4, e5, e6, beq_self_eq_true, Bool.and_true, append_eq, List.cons_append, List.nil_append]
  rw [floOf_wr (by kernel_rfl)]
  simp only [↓R1, R2, R3, R4, TY, reduceIte, Nat.reduceEqDiff, Nat.reduceAdd, Nat.reduceMul, Nat.reduceLT, Nat.reduceLeDiff, reduceCtorEq, decide_true, decide_false, Int.reduceLE, Int.reduceLT, Int.reduceToNat, Int.reduceAdd, Int.reduceSub, Int.reduceMul, Int.reduceEq, hfl, hfl1, hfl2, hfl3, hfl4, hfl5, hfl6, NE, NE9, Nat.add_assoc, hfl7, hfl8, hfl9, hfl10, hfl11, guard_rat, guard_vec, guard_turn, e1, e2, e3, e4, e5, e6, beq_self_eq_true, Bool.and_true, append_eq, List.cons_append, List.nil_append]
  rw [floOf_wr (by kernel_rfl)]
  simp only [↓R1, R2, R3, R4, TY, reduceIte, Nat.reduceEqDiff, Nat.reduceAdd, Nat.reduceMul, Nat.reduceLT, Nat.reduceLeDiff, reduceCtorEq, decide_true, decide_false, Int.reduceLE, Int.reduceLT, Int.reduceToNat, Int.reduceAdd, Int.reduceSub, Int.reduceMul, Int.reduceEq, hfl, hfl1, hfl2, hfl3, hfl4, hfl5, hfl6, NE, NE9, Nat.add_assoc, hfl7, hfl8, hfl9, hfl10, hfl11, guard_rat, guard_vec, guard_turn, e1, e2, e3, e4, e5, e6, beq_self_eq_true, Bool.and_true, append_eq, List.cons_append, List.nil_append]
  refine call_of (p _ _) ?_
  simp only [↓R1, R2, R3, R4, TY, reduceIte, Nat.reduceEqDiff, Nat.reduceAdd, Nat.reduceMul, Nat.reduceLT, Nat.reduceLeDiff, reduceCtorEq, decide_true, decide_false, Int.reduceLE, Int.reduceLT, Int.reduceToNat, Int.reduceAdd, Int.reduceSub, Int.reduceMul, Int.reduceEq, hfl, hfl1, hfl2, hfl3, hfl4, hfl5, hfl6, NE, NE9, Nat.add_assoc, hfl7, hfl8, hfl9, hfl10, hfl11, guard_rat, guard_vec, guard_turn, e1, e2, e3, e4, e5, e6, beq_self_eq_true, Bool.and_true, append_eq, List.cons_append, List.nil_append]
  refine call_of (q _ _) ?_
  simp only [↓R1, R2, R3, R4, TY, reduceIte, Nat.reduceEqDiff, Nat.reduceAdd, Nat.reduceMul, Nat.reduceLT, Nat.reduceLeDiff, reduceCtorEq, decide_true, decide_false, Int.reduceLE, Int.reduceLT, Int.reduceToNat, Int.reduceAdd, Int.reduceSub, Int.reduceMul, Int.reduceEq, hfl, hfl1, hfl2, hfl3, hfl4, hfl5, hfl6, NE, NE9, Nat.add_assoc, hfl7, hfl8, hfl9, hfl10, hfl11, guard_rat, guard_vec, guard_turn, e1, e2, e3, e4, e5, e6, beq_self_eq_true, Bool.and_true, append_eq, List.cons_append, List.nil_append]
  rw [floOf_wr (by kernel_rfl)]
  simp only [↓R1, R2, R3, R4, TY, reduceIte, Nat.reduceEqDiff, Nat.reduceAdd, Nat.reduceMul, Nat.reduceLT, Nat.reduceLeDiff, reduceCtorEq, decide_true, decide_false, Int.reduceLE, Int.reduceLT, Int.reduceToNat, Int.reduceAdd, Int.reduceSub, Int.reduceMul, Int.reduceEq, hfl, hfl1, hfl2, hfl3, hfl4, hfl5, hfl6, NE, NE9, Nat.add_assoc, hfl7, hfl8, hfl9, hfl10, hfl11, guard_rat, guard_vec, guard_turn, e1, e2, e3, e4, e5, e6, beq_self_eq_true, Bool.and_true, append_eq, List.cons_append, List.nil_append]
  rw [floOf_wr (by kernel_rfl)]
  simp only [↓R1, R2, R3, R4, TY, reduceIte, Nat.reduceEqDiff, Nat.reduceAdd, Nat.reduceMul, Nat.reduceLT, Nat.reduceLeDiff, reduceCtorEq, decide_true, decide_false, Int.reduceLE, Int.reduceLT, Int.reduceToNat, Int.reduceAdd, Int.reduceSub, Int.reduceMul, Int.reduceEq, hfl, hfl1, hfl2, hfl3, hfl4, hfl5, hfl6, NE, NE9, Nat.add_assoc, hfl7, hfl8, hfl9, hfl10, hfl11, guard_rat, guard_vec, guard_turn, e1, e2, e3, e4, e5, e6, beq_self_eq_true, Bool.and_true, append_eq, List.cons_append, List.nil_append]
  refine call_of (l1 _ _) ?_
  simp only [↓R1, R2, R3, R4, TY, reduceIte, Nat.reduceEqDiff, Nat.reduceAdd, Nat.reduceMul, Nat.reduceLT, Nat.reduceLeDiff, reduceCtorEq, decide_true, decide_false, Int.reduceLE, Int.reduceLT, Int.reduceToNat, Int.reduceAdd, Int.reduceSub, Int.reduceMul, Int.reduceEq, hfl, hfl1, hfl2, hfl3, hfl4, hfl5, hfl6, NE, NE9, Nat.add_assoc, hfl7, hfl8, hfl9, hfl10, hfl11, guard_rat, guard_vec, guard_turn, e1, e2, e3, e4, e5, e6, beq_self_eq_true, Bool.and_true, append_eq, List.cons_append, List.nil_append]
  refine call_of (l2 _ _) ?_
  simp only [↓R1, R2, R3, R4, TY, reduceIte, Nat.reduceEqDiff, Nat.reduceAdd, Nat.reduceMul, Nat.reduceLT, Nat.reduceLeDiff, reduceCtorEq, decide_true, decide_false, Int.reduceLE, Int.reduceLT, Int.reduceToNat, Int.reduceAdd, Int.reduceSub, Int.reduceMul, Int.reduceEq, hfl, hfl1, hfl2, hfl3, hfl4, hfl5, hfl6, NE, NE9, Nat.add_assoc, hfl7, hfl8, hfl9, hfl10, hfl11, guard_rat, guard_vec, guard_turn, e1, e2, e3, e4, e5, e6, beq_self_eq_true, Bool.and_true, append_eq, List.cons_append, List.nil_append]
  refine call_of (l3 _ _) ?_
  simp only [↓R1, R2, R3, R4, TY, reduceIte, Nat.reduceEqDiff, Nat.reduceAdd, Nat.reduceMul, Nat.reduceLT, Nat.reduceLeDiff, reduceCtorEq, decide_true, decide_false, Int.reduceLE, Int.reduceLT, Int.reduceToNat, Int.reduceAdd, Int.reduceSub, Int.reduceMul, Int.reduceEq, hfl, hfl1, hfl2, hfl3, hfl4, hfl5, hfl6, NE, NE9, Nat.add_assoc, hfl7, hfl8, hfl9, hfl10, hfl11, guard_rat, guard_vec, guard_turn, e1, e2, e3, e4, e5, e6, beq_self_eq_true, Bool.and_true, append_eq, List.cons_append, List.nil_append]
  rw [floOf_wr (by kernel_rfl)]
  simp only [↓R1, R2, R3, R4, TY, reduceIte, Nat.reduceEqDiff, Nat.reduceAdd, Nat.reduceMul, Nat.reduceLT, Nat.reduceLeDiff, reduceCtorEq, decide_true, decide_false, Int.reduceLE, Int.reduceLT, Int.reduceToNat, Int.reduceAdd, Int.reduceSub, Int.reduceMul, Int.reduceEq, hfl, hfl1, hfl2, hfl3, hfl4, hfl5, hfl6, NE, NE9, Nat.add_assoc, hfl7, hfl8, hfl9, hfl10, hfl11, guard_rat, guard_vec, guard_turn, e1, e2, e3, e4, e5, e6, beq_self_eq_true, Bool.and_true, append_eq, List.cons_append, List.nil_append]
  refine call_of (aa _ _) ?_
  simp only [↓R1, R2, R3, R4, TY, reduceIte, Nat.reduceEqDiff, Nat.reduceAdd, Nat.reduceMul, Nat.reduceLT, Nat.reduceLeDiff, reduceCtorEq, decide_true, decide_false, Int.reduceLE, Int.reduceLT, Int.reduceToNat, Int.reduceAdd, Int.reduceSub, Int.reduceMul, Int.reduceEq, hfl, hfl1, hfl2, hfl3, hfl4, hfl5, hfl6, NE, NE9, Nat.add_assoc, hfl7, hfl8, hfl9, hfl10, hfl11, guard_rat, guard_vec, guard_turn, e1, e2, e3, e4, e5, e6, beq_self_eq_true, Bool.and_true, append_eq, List.cons_append, List.nil_append]
  refine call_of (bb _ _) ?_
  simp only [↓R1, R2, R3, R4, TY, reduceIte, Nat.reduceEqDiff, Nat.reduceAdd, Nat.reduceMul, Nat.reduceLT, Nat.reduceLeDiff, reduceCtorEq, decide_true, decide_false, Int.reduceLE, Int.reduceLT, Int.reduceToNat, Int.reduceAdd, Int.reduceSub, Int.reduceMul, Int.reduceEq, hfl, hfl1, hfl2, hfl3, hfl4, hfl5, hfl6, NE, NE9, Nat.add_assoc, hfl7, hfl8, hfl9, hfl10, hfl11, guard_rat, guard_vec, guard_turn, e1, e2, e3, e4, e5, e6, beq_self_eq_true, Bool.and_true, append_eq, List.cons_append, List.nil_append]
  refine call_of (ab _ _) ?_
  simp only [↓R1, R2, R3, R4, TY, reduceIte, Nat.reduceEqDiff, Nat.reduceAdd, Nat.reduceMul, Nat.reduceLT, Nat.reduceLeDiff, reduceCtorEq, decide_true, decide_false, Int.reduceLE, Int.reduceLT, Int.reduceToNat, Int.reduceAdd, Int.reduceSub, Int.reduceMul, Int.reduceEq, hfl, hfl1, hfl2, hfl3, hfl4, hfl5, hfl6, NE, NE9, Nat.add_assoc, hfl7, hfl8, hfl9, hfl10, hfl11, guard_rat, guard_vec, guard_turn, e1, e2, e3, e4, e5, e6, beq_self_eq_true, Bool.and_true, append_eq, List.cons_append, List.nil_append]
  refine call_of (pq _ _) ?_
  simp only [↓R1, R2, R3, R4, TY, reduceIte, Nat.reduceEqDiff, Nat.reduceAdd, Nat.reduceMul, Nat.reduceLT, Nat.reduceLeDiff, reduceCtorEq, decide_true, decide_false, Int.reduceLE, Int.reduceLT, Int.reduceToNat, Int.reduceAdd, Int.reduceSub, Int.reduceMul, Int.reduceEq, hfl, hfl1, hfl2, hfl3, hfl4, hfl5, hfl6, NE, NE9, Nat.add_assoc, hfl7, hfl8, hfl9, hfl10, hfl11, guard_rat, guard_vec, guard_turn, e1, e2, e3, e4, e5, e6, beq_self_eq_true, Bool.and_true, append_eq, List.cons_append, List.nil_append]
  refine call_of (pc _ _) ?_
  simp only [↓R1, R2, R3, R4, TY, reduceIte, Nat.reduceEqDiff, Nat.reduceAdd, Nat.reduceMul, Nat.reduceLT, Nat.reduceLeDiff, reduceCtorEq, decide_true, decide_false, Int.reduceLE, Int.reduceLT, Int.reduceToNat, Int.reduceAdd, Int.reduceSub, Int.reduceMul, Int.reduceEq, hfl, hfl1, hfl2, hfl3, hfl4, hfl5, hfl6, NE, NE9, Nat.add_assoc, hfl7, hfl8, hfl9, hfl10, hfl11, guard_rat, guard_vec, guard_turn, e1, e2, e3, e4, e5, e6, beq_self_eq_true, Bool.and_true, append_eq, List.cons_append, List.nil_append]
  refine call_of (s1 _ _) ?_
  simp only [↓R1, R2, R3, R4, TY, reduceIte, Nat.reduceEqDiff, Nat.reduceAdd, Nat.reduceMul, Nat.reduceLT, Nat.reduceLeDiff, reduceCtorEq, decide_true, decide_false, Int.reduceLE, Int.reduceLT, Int.reduceToNat, Int.reduceAdd, Int.reduceSub, Int.reduceMul, Int.reduceEq, hfl, hfl1, hfl2, hfl3, hfl4, hfl5, hfl6, NE, NE9, Nat.add_assoc, hfl7, hfl8, hfl9, hfl10, hfl11, guard_rat, guard_vec, guard_turn, e1, e2, e3, e4, e5, e6, beq_self_eq_true, Bool.and_true, append_eq, List.cons_append, List.nil_append]
  refine call_of (s2 _ _) ?_
  simp only [↓R1, R2, R3, R4, TY, reduceIte, Nat.reduceEqDiff, Nat.reduceAdd, Nat.reduceMul, Nat.reduceLT, Nat.reduceLeDiff, reduceCtorEq, decide_true, decide_false, Int.reduceLE, Int.reduceLT, Int.reduceToNat, Int.reduceAdd, Int.reduceSub, Int.reduceMul, Int.reduceEq, hfl, hfl1, hfl2, hfl3, hfl4, hfl5, hfl6, NE, NE9, Nat.add_assoc, hfl7, hfl8, hfl9, hfl10, hfl11, guard_rat, guard_vec, guard_turn, e1, e2, e3, e4, e5, e6, beq_self_eq_true, Bool.and_true, append_eq, List.cons_append, List.nil_append]
  refine call_of (s3 _ _) ?_
  simp only [↓R1, R2, R3, R4, TY, reduceIte, Nat.reduceEqDiff, Nat.reduceAdd, Nat.reduceMul, Nat.reduceLT, Nat.reduceLeDiff, reduceCtorEq, decide_true, decide_false, Int.reduceLE, Int.reduceLT, Int.reduceToNat, Int.reduceAdd, Int.reduceSub, Int.reduceMul, Int.reduceEq, hfl, hfl1, hfl2, hfl3, hfl4, hfl5, hfl6, NE, NE9, Nat.add_assoc, hfl7, hfl8, hfl9, hfl10, hfl11, guard_rat, guard_vec, guard_turn, e1, e2, e3, e4, e5, e6, beq_self_eq_true, Bool.and_true, append_eq, List.cons_append, List.nil_append]
  refine call_of (bk _ _) ?_
  simp only [↓R1, R2, R3, R4, TY, reduceIte, Nat.reduceEqDiff, Nat.reduceAdd, Nat.reduceMul, Nat.reduceLT, Nat.reduceLeDiff, reduceCtorEq, decide_true, decide_false, Int.reduceLE, Int.reduceLT, Int.reduceToNat, Int.reduceAdd, Int.reduceSub, Int.reduceMul, Int.reduceEq, hfl, hfl1, hfl2, hfl3, hfl4, hfl5, hfl6, NE, NE9, Nat.add_assoc, hfl7, hfl8, hfl9, hfl10, hfl11, guard_rat, guard_vec, guard_turn, e1, e2, e3, e4, e5, e6, beq_self_eq_true, Bool.and_true, append_eq, List.cons_append, List.nil_append]
  refine call_of (s4 _ _) ?_
  simp only [↓R1, R2, R3, R4, TY, reduceIte, Nat.reduceEqDiff, Nat.reduceAdd, Nat.reduceMul, Nat.reduceLT, Nat.reduceLeDiff, reduceCtorEq, decide_true, decide_false, Int.reduceLE, Int.reduceLT, Int.reduceToNat, Int.reduceAdd, Int.reduceSub, Int.reduceMul, Int.reduceEq, hfl, hfl1, hfl2, hfl3, hfl4, hfl5, hfl6, NE, NE9, Nat.add_assoc, hfl7, hfl8, hfl9, hfl10, hfl11, guard_rat, guard_vec, guard_turn, e1, e2, e3, e4, e5, e6, beq_self_eq_true, Bool.and_true, append_eq, List.cons_append, List.nil_append]
  refine call_of (s1 _ _) ?_
  simp only [↓R1, R2, R3, R4, TY, reduceIte, Nat.reduceEqDiff, Nat.reduceAdd, Nat.reduceMul, Nat.reduceLT, Nat.reduceLeDiff, reduceCtorEq, decide_true, decide_false, Int.reduceLE, Int.reduceLT, Int.reduceToNat, Int.reduceAdd, Int.reduceSub, Int.reduceMul, Int.reduceEq, hfl, hfl1, hfl2, hfl3, hfl4, hfl5, hfl6, NE, NE9, Nat.add_assoc, hfl7, hfl8, hfl9, hfl10, hfl11, guard_rat, guard_vec, guard_turn, e1, e2, e3, e4, e5, e6, beq_self_eq_true, Bool.and_true, append_eq, List.cons_append, List.nil_append]
  refine call_of (s5 _ _) ?_
  simp only [↓R1, R2, R3, R4, TY, reduceIte, Nat.reduceEqDiff, Nat.reduceAdd, Nat.reduceMul, Nat.reduceLT, Nat.reduceLeDiff, reduceCtorEq, decide_true, decide_false, Int.reduceLE, Int.reduceLT, Int.reduceToNat, Int.reduceAdd, Int.reduceSub, Int.reduceMul, Int.reduceEq, hfl, hfl1, hfl2, hfl3, hfl4, hfl5, hfl6, NE, NE9, Nat.add_assoc, hfl7, hfl8, hfl9, hfl10, hfl11, guard_rat, guard_vec, guard_turn, e1, e2, e3, e4, e5, e6, beq_self_eq_true, Bool.and_true, append_eq, List.cons_append, List.nil_append]
  refine call_of (cr2 _ _) ?_
  simp only [↓R1, R2, R3, R4, TY, reduceIte, Nat.reduceEqDiff, Nat.reduceAdd, Nat.reduceMul, Nat.reduceLT, Nat.reduceLeDiff, reduceCtorEq, decide_true, decide_false, Int.reduceLE, Int.reduceLT, Int.reduceToNat, Int.reduceAdd, Int.reduceSub, Int.reduceMul, Int.reduceEq, hfl, hfl1, hfl2, hfl3, hfl4, hfl5, hfl6, NE, NE9, Nat.add_assoc, hfl7, hfl8, hfl9, hfl10, hfl11, guard_rat, guard_vec, guard_turn, e1, e2, e3, e4, e5, e6, beq_self_eq_true, Bool.and_true, append_eq, List.cons_append, List.nil_append]
  refine call_of (ng _ _) ?_
  simp only [↓R1, R2, R3, R4, TY, reduceIte, Nat.reduceEqDiff, Nat.reduceAdd, Nat.reduceMul, Nat.reduceLT, Nat.reduceLeDiff, reduceCtorEq, decide_true, decide_false, Int.reduceLE, Int.reduceLT, Int.reduceToNat, Int.reduceAdd, Int.reduceSub, Int.reduceMul, Int.reduceEq, hfl, hfl1, hfl2, hfl3, hfl4, hfl5, hfl6, NE, NE9, Nat.add_assoc, hfl7, hfl8, hfl9, hfl10, hfl11, guard_rat, guard_vec, guard_turn, e1, e2, e3, e4, e5, e6, beq_self_eq_true, Bool.and_true, append_eq, List.cons_append, List.nil_append]
  refine call_of (n1 _ _) ?_
  simp only [↓R1, R2, R3, R4, TY, reduceIte, Nat.reduceEqDiff, Nat.reduceAdd, Nat.reduceMul, Nat.reduceLT, Nat.reduceLeDiff, reduceCtorEq, decide_true, decide_false, Int.reduceLE, Int.reduceLT, Int.reduceToNat, Int.reduceAdd, Int.reduceSub, Int.reduceMul, Int.reduceEq, hfl, hfl1, hfl2, hfl3, hfl4, hfl5, hfl6, NE, NE9, Nat.add_assoc, hfl7, hfl8, hfl9, hfl10, hfl11, guard_rat, guard_vec, guard_turn, e1, e2, e3, e4, e5, e6, beq_self_eq_true, Bool.and_true, append_eq, List.cons_append, List.nil_append]
  refine call_of (c1 _ _) ?_
  simp only [↓R1, R2, R3, R4, TY, reduceIte, Nat.reduceEqDiff, Nat.reduceAdd, Nat.reduceMul, Nat.reduceLT, Nat.reduceLeDiff, reduceCtorEq, decide_true, decide_false, Int.reduceLE, Int.reduceLT, Int.reduceToNat, Int.reduceAdd, Int.reduceSub, Int.reduceMul, Int.reduceEq, hfl, hfl1, hfl2, hfl3, hfl4, hfl5, hfl6, NE, NE9, Nat.add_assoc, hfl7, hfl8, hfl9, hfl10, hfl11, guard_rat, guard_vec, guard_turn, e1, e2, e3, e4, e5, e6, beq_self_eq_true, Bool.and_true, append_eq, List.cons_append, List.nil_append]
  refine call_of (n2 _ _) ?_
  simp only [↓R1, R2, R3, R4, TY, reduceIte, Nat.reduceEqDiff, Nat.reduceAdd, Nat.reduceMul, Nat.reduceLT, Nat.reduceLeDiff, reduceCtorEq, decide_true, decide_false, Int.reduceLE, Int.reduceLT, Int.reduceToNat, Int.reduceAdd, Int.reduceSub, Int.reduceMul, Int.reduceEq, hfl, hfl1, hfl2, hfl3, hfl4, hfl5, hfl6, NE, NE9, Nat.add_assoc, hfl7, hfl8, hfl9, hfl10, hfl11, guard_rat, guard_vec, guard_turn, e1, e2, e3, e4, e5, e6, beq_self_eq_true, Bool.and_true, append_eq, List.cons_append, List.nil_append]
  refine call_of (c2 _ _) ?_
  simp only [↓R1, R2, R3, R4, TY, reduceIte, Nat.reduceEqDiff, Nat.reduceAdd, Nat.reduceMul, Nat.reduceLT, Nat.reduceLeDiff, reduceCtorEq, decide_true, decide_false, Int.reduceLE, Int.reduceLT, Int.reduceToNat, Int.reduceAdd, Int.reduceSub, Int.reduceMul, Int.reduceEq, hfl, hfl1, hfl2, hfl3, hfl4, hfl5, hfl6, NE, NE9, Nat.add_assoc, hfl7, hfl8, hfl9, hfl10, hfl11, guard_rat, guard_vec, guard_turn, e1, e2, e3, e4, e5, e6, beq_self_eq_true, Bool.and_true, append_eq, List.cons_append, List.nil_append]
  refine call_of (c3 _ _) ?_
  simp only [↓R1, R2, R3, R4, TY, reduceIte, Nat.reduceEqDiff, Nat.reduceAdd, Nat.reduceMul, Nat.reduceLT, Nat.reduceLeDiff, reduceCtorEq, decide_true, decide_false, Int.reduceLE, Int.reduceLT, Int.reduceToNat, Int.reduceAdd, Int.reduceSub, Int.reduceMul, Int.reduceEq, hfl, hfl1, hfl2, hfl3, hfl4, hfl5, hfl6, NE, NE9, Nat.add_assoc, hfl7, hfl8, hfl9, hfl10, hfl11, guard_rat, guard_vec, guard_turn, e1, e2, e3, e4, e5, e6, beq_self_eq_true, Bool.and_true, append_eq, List.cons_append, List.nil_append]
  refine fin _ _ ?_ rfl
  simp (maxDischargeDepth := 20) only [xt_push, xt_put, xt_refl, Nat.le_refl, Nat.le_add_right, Nat.add_assoc, Nat.reduceAdd]
end
end Go.Proofs.YtincjhklpgfkgaaDoor.Ab
