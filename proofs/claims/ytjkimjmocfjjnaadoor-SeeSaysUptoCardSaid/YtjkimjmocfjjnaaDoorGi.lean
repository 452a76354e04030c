/- The last part of SeeSays: widths and middles. -/
import Derived.Test.YtjkimjmocfjjnaaDoorGh
namespace Go.Proofs.YtjkimjmocfjjnaaDoor.Ab
open Go.RowKit
set_option linter.unusedVariables false
set_option linter.unusedSimpArgs false
set_option maxRecDepth 100000

section
variable {G : Gl} {fl : Nat} {A : Hp}

set_option maxHeartbeats 16000000 in
theorem seeTail23 {p0 : Bool} {p1 p2 : List UInt8} {q0 : Bool} {q1 q2 : List UInt8} {r0 : Bool} {r1 r2 : List UInt8} {s0 : Bool} {s1 s2 : List UInt8} {t0 : Bool} {t1 t2 : List UInt8} {u0 : Bool} {u1 u2 : List UInt8} {P : Po} {k : Nat} {τ : Tm} {C : Hp} (hG : G 1 = some tabV) (rp : RawP G p0 p1 p2 q0 q1 q2 r0 r1 r2 s0 s1 s2 t0 t1 t2 u0 u1 u2 P k) (hk : 100 * k + 100 ≤ 5000000000) (hA : Hok fl A) (t5 : τ 5 = some (.pointer (some ⟨A.next, 0, some 0⟩))) (t11 : τ 11 = some (.pointer (some ⟨A.next + 5, 0, some 0⟩))) (xn : C.next = A.next + 15) (xx : Xt A.next A C) (x0 : C.blk A.next = some (.row [.bool p0, .string (S p1), .string (S p2), .bool q0, .string (S q1), .string (S q2), .bool r0, .string (S r1), .string (S r2), .bool s0, .string (S s1), .string (S s2), .bool t0, .string (S t1), .string (S t2), .bool u0, .string (S u1), .string (S u2)] 0 18)) (x5 : C.blk (A.next + 5) = some (.row [.bool (decide ((P.a).num < 0)), .string (S (nb (P.a).num.natAbs)), .string (S (nb (P.a).den)), .bool (decide ((P.b).num < 0)), .string (S (nb (P.b).num.natAbs)), .string (S (nb (P.b).den)), .bool (decide ((P.c).num < 0)), .string (S (nb (P.c).num.natAbs)), .string (S (nb (P.c).den)), .bool (decide ((P.d).num < 0)), .string (S (nb (P.d).num.natAbs)), .string (S (nb (P.d).den)), .bool (decide ((P.e).num < 0)), .string (S (nb (P.e).num.natAbs)), .string (S (nb (P.e).den)), .bool (decide ((P.f).num < 0)), .string (S (nb (P.f).num.natAbs)), .string (S (nb (P.f).den))] 0 6)) : acode Tryd.prog G fl (dropC [(), (), (), (), (), (), (), (), (), (), (), (), (), ()] (Tryd.f3.body.getD .skip)) τ C (done fun τ B => @aRes G Tryd.prog τ B Tryd.f3.results.toList [] ⟨fun vs => Ended A (retv vs) B (.bool true) A⟩) := by
  refine cut rfl ?_
  simp only [dropC, Tryd.results3]
  have hfl : fl ≤ A.next := by have := hA.floor; omega
  have hfl1 : fl ≤ A.next + 1 := by have := hA.floor; omega
  have hfl2 : fl ≤ A.next + 2 := by have := hA.floor; omega
  have hfl3 : fl ≤ A.next + 3 := by have := hA.floor; omega
  have hfl4 : fl ≤ A.next + 4 := by have := hA.floor; omega
  have hfl5 : fl ≤ A.next + 5 := by have := hA.floor; omega
  have hfl6 : fl ≤ A.next + 6 := by have := hA.floor; omega
  have wd := fun fl A => wWidth (G := G) (fl := fl) (A := A) hG rp (by omega)
  have v0 := fun fl A => qsub (G := G) (fl := fl) (A := A) hG rp.ok.1.high rp.ok.1.low (by omega)
  have v1 := fun fl A => qsub (G := G) (fl := fl) (A := A) hG rp.ok.2.1.high rp.ok.2.1.low (by omega)
  have v2 := fun fl A => qsub (G := G) (fl := fl) (A := A) hG rp.ok.2.2.high rp.ok.2.2.low (by omega)
  have mi := fun fl A => wMiddle (G := G) (fl := fl) (A := A) hG rp (by omega)
  have r2n : Rz 2 1 := Rz.of (n := 2) (k := 1) (by rw [show (2 : Int).natAbs = 2 from rfl]; decide +kernel) (Nat.le_refl _)
  have z2 := fun fl A => rof_ok (G := G) (fl := fl) (A := A) (n := 2) (by decide) (by decide)
  have ym0 := (rp.ok.1.low.add rp.ok.1.high).div r2n (by decide)
  have mu0 := fun fl A => qmul (G := G) (fl := fl) (A := A) hG r2n ym0 (by omega)
  have ad0 := fun fl A => qadd (G := G) (fl := fl) (A := A) hG rp.ok.1.low rp.ok.1.high (by omega)
  have zz0 := rp.ok.1.low.add rp.ok.1.high
  have cm0 := fun fl A => qcmp (G := G) (fl := fl) (A := A) hG zz0 zz0 (by omega)
  rw [show 2 * ((P.a + P.b) / 2) = P.a + P.b from by grind] at mu0
  rw [rcmp_self] at cm0
  have ym1 := (rp.ok.2.1.low.add rp.ok.2.1.high).div r2n (by decide)
  have mu1 := fun fl A => qmul (G := G) (fl := fl) (A := A) hG r2n ym1 (by omega)
  have ad1 := fun fl A => qadd (G := G) (fl := fl) (A := A) hG rp.ok.2.1.low rp.ok.2.1.high (by omega)
  have zz1 := rp.ok.2.1.low.add rp.ok.2.1.high
  have cm1 := fun fl A => qcmp (G := G) (fl := fl) (A := A) hG zz1 zz1 (by omega)
  rw [show 2 * ((P.c + P.d) / 2) = P.c + P.d from by grind] at mu1
  rw [rcmp_self] at cm1
  have ym2 := (rp.ok.2.2.low.add rp.ok.2.2.high).div r2n (by decide)
  have mu2 := fun fl A => qmul (G := G) (fl := fl) (A := A) hG r2n ym2 (by omega)
  have ad2 := fun fl A => qadd (G := G) (fl := fl) (A := A) hG rp.ok.2.2.low rp.ok.2.2.high (by omega)
  have zz2 := rp.ok.2.2.low.add rp.ok.2.2.high
  have cm2 := fun fl A => qcmp (G := G) (fl := fl) (A := A) hG zz2 zz2 (by omega)
  rw [show 2 * ((P.e + P.f) / 2) = P.e + P.f from by grind] at mu2
  rw [rcmp_self] at cm2
  have f2 := fun fl A => wFrames (G := G) (fl := fl) (A := A) (hf := false) (g0 := decide (((P.a + P.b) / 2).num < 0)) (g1 := nb ((P.a + P.b) / 2).num.natAbs) (g2 := nb ((P.a + P.b) / 2).den) (h0 := decide (((P.c + P.d) / 2).num < 0)) (h1 := nb ((P.c + P.d) / 2).num.natAbs) (h2 := nb ((P.c + P.d) / 2).den) (i0 := decide (((P.e + P.f) / 2).num < 0)) (i1 := nb ((P.e + P.f) / 2).num.natAbs) (i2 := nb ((P.e + P.f) / 2).den) hG
  have y0 := rp.ok.1.high.sub rp.ok.1.low
  have y1 := rp.ok.2.1.high.sub rp.ok.2.1.low
  have y2 := rp.ok.2.2.high.sub rp.ok.2.2.low
  have mx := fun fl A => qmax (G := G) (fl := fl) (A := A) hG y0 y1 (by omega)
  have d1 := fun fl A => qcmp (G := G) (fl := fl) (A := A) hG (y0.max y1) (y0.max y1) (by omega)
  have d2 := fun fl A => qcmp (G := G) (fl := fl) (A := A) hG y2 y2 (by omega)
  rw [rcmp_self] at d1 d2
  rw [show rOf 2 = 2 from rfl] at z2
  simp only [ratV_def, frC_def] at wd v0 v1 v2 mi z2 mu0 mu1 mu2 ad0 ad1 ad2 cm0 cm1 cm2 mx d1 d2
  have gx0 : ∀ j, C.get G ⟨A.next, j, some 0⟩ = ([.bool p0, .string (S p1), .string (S p2), .bool q0, .string (S q1), .string (S q2), .bool r0, .string (S r1), .string (S r2), .bool s0, .string (S s1), .string (S s2), .bool t0, .string (S t1), .string (S t2), .bool u0, .string (S u1), .string (S u2)] : List Value)[j]? := fun j => by simp only [Hp.get, x0, if_true]
  have gx5 : ∀ j, C.get G ⟨A.next + 5, j, some 0⟩ = ([.bool (decide ((P.a).num < 0)), .string (S (nb (P.a).num.natAbs)), .string (S (nb (P.a).den)), .bool (decide ((P.b).num < 0)), .string (S (nb (P.b).num.natAbs)), .string (S (nb (P.b).den)), .bool (decide ((P.c).num < 0)), .string (S (nb (P.c).num.natAbs)), .string (S (nb (P.c).den)), .bool (decide ((P.d).num < 0)), .string (S (nb (P.d).num.natAbs)), .string (S (nb (P.d).den)), .bool (decide ((P.e).num < 0)), .string (S (nb (P.e).num.natAbs)), .string (S (nb (P.e).den)), .bool (decide ((P.f).num < 0)), .string (S (nb (P.f).num.natAbs)), .string (S (nb (P.f).den))] : List Value)[j]? := fun j => by simp only [Hp.get, x5, if_true]
  simp only [↓R1, R2, R3, R4, TY, reduceIte, Nat.reduceEqDiff, Nat.reduceAdd, Nat.reduceMul, Nat.reduceLT, Nat.reduceLeDiff, reduceCtorEq, decide_true, decide_false, Int.reduceLE, Int.reduceLT, Int.reduceToNat, Int.reduceAdd, Int.reduceSub, Int.reduceMul, Int.reduceEq, hfl, hfl1, hfl2, hfl3, hfl4, hfl5, hfl6, NE, NE9, Nat.add_assoc, rcmp_lt_iff, rcmp_gt_iff, rsign_gt_iff, rcmp_zero, ex9_0, ex9_1, ex9_2, w_1, w_2, w_3, w_4, n_2, n_3, n_4, eqD_po0, guard_po, beq_self_eq_true, t5, t11, xn, x0, gx0, x5, gx5]
  refine call_of (wd _ _) ?_
  simp only [↓R1, R2, R3, R4, TY, reduceIte, Nat.reduceEqDiff, Nat.reduceAdd, Nat.reduceMul, Nat.reduceLT, Nat.reduceLeDiff, reduceCtorEq, decide_true, decide_false, Int.reduceLE, Int.reduceLT, Int.reduceToNat, Int.reduceAdd, Int.reduceSub, Int.reduceMul, Int.reduceEq, hfl, hfl1, hfl2, hfl3, hfl4, hfl5, hfl6, NE, NE9, Nat.add_assoc, rcmp_lt_iff, rcmp_gt_iff, rsign_gt_iff, rcmp_zero, ex9_0, ex9_1, ex9_2, w_1, w_2, w_3, w_4, n_2, n_3, n_4, eqD_po0, guard_po, beq_self_eq_true, t5, t11, xn, x0, gx0, x5, gx5]
  refine unroll_of [(), (), (), ()] ?_
  simp only [↓R1, R2, R3, R4, TY, reduceIte, Nat.reduceEqDiff, Nat.reduceAdd, Nat.reduceMul, Nat.reduceLT, Nat.reduceLeDiff, reduceCtorEq, decide_true, decide_false, Int.reduceLE, Int.reduceLT, Int.reduceToNat, Int.reduceAdd, Int.reduceSub, Int.reduceMul, Int.reduceEq, hfl, hfl1, hfl2, hfl3, hfl4, hfl5, hfl6, NE, NE9, Nat.add_assoc, rcmp_lt_iff, rcmp_gt_iff, rsign_gt_iff, rcmp_zero, ex9_0, ex9_1, ex9_2, w_1, w_2, w_3, w_4, n_2, n_3, n_4, eqD_po0, guard_po, beq_self_eq_true, t5, t11, xn, x0, gx0, x5, gx5]
  refine call_of (v0 _ _) ?_
  simp only [↓R1, R2, R3, R4, TY, reduceIte, Nat.reduceEqDiff, Nat.reduceAdd, Nat.reduceMul, Nat.reduceLT, Nat.reduceLeDiff, reduceCtorEq, decide_true, decide_false, Int.reduceLE, Int.reduceLT, Int.reduceToNat, Int.reduceAdd, Int.reduceSub, Int.reduceMul, Int.reduceEq, hfl, hfl1, hfl2, hfl3, hfl4, hfl5, hfl6, NE, NE9, Nat.add_assoc, rcmp_lt_iff, rcmp_gt_iff, rsign_gt_iff, rcmp_zero, ex9_0, ex9_1, ex9_2, w_1, w_2, w_3, w_4, n_2, n_3, n_4, eqD_po0, guard_po, beq_self_eq_true, t5, t11, xn, x0, gx0, x5, gx5]
  rw [floOf_wr (by kernel_rfl)]
  simp only [↓R1, R2, R3, R4, TY, reduceIte, Nat.reduceEqDiff, Nat.reduceAdd, Nat.reduceMul, Nat.reduceLT, Nat.reduceLeDiff, reduceCtorEq, decide_true, decide_false, Int.reduceLE, Int.reduceLT, Int.reduceToNat, Int.reduceAdd, Int.reduceSub, Int.reduceMul, Int.reduceEq, hfl, hfl1, hfl2, hfl3, hfl4, hfl5, hfl6, NE, NE9, Nat.add_assoc, rcmp_lt_iff, rcmp_gt_iff, rsign_gt_iff, rcmp_zero, ex9_0, ex9_1, ex9_2, w_1, w_2, w_3, w_4, n_2, n_3, n_4, eqD_po0, guard_po, beq_self_eq_true, t5, t11, xn, x0, gx0, x5, gx5]
  refine call_of (v1 _ _) ?_
  simp only [↓R1, R2, R3, R4, TY, reduceIte, Nat.reduceEqDiff, Nat.reduceAdd, Nat.reduceMul, Nat.reduceLT, Nat.reduceLeDiff, reduceCtorEq, decide_true, decide_false, Int.reduceLE, Int.reduceLT, Int.reduceToNat, Int.reduceAdd, Int.reduceSub, Int.reduceMul, Int.reduceEq, hfl, hfl1, hfl2, hfl3, hfl4, hfl5, hfl6, NE, NE9, Nat.add_assoc, rcmp_lt_iff, rcmp_gt_iff, rsign_gt_iff, rcmp_zero, ex9_0, ex9_1, ex9_2, w_1, w_2, w_3, w_4, n_2, n_3, n_4, eqD_po0, guard_po, beq_self_eq_true, t5, t11, xn, x0, gx0, x5, gx5]
  rw [floOf_wr (by kernel_rfl)]
  simp only [↓R1, R2, R3, R4, TY, reduceIte, Nat.reduceEqDiff, Nat.reduceAdd, Nat.reduceMul, Nat.reduceLT, Nat.reduceLeDiff, reduceCtorEq, decide_true, decide_false, Int.reduceLE, Int.reduceLT, Int.reduceToNat, Int.reduceAdd, Int.reduceSub, Int.reduceMul, Int.reduceEq, hfl, hfl1, hfl2, hfl3, hfl4, hfl5, hfl6, NE, NE9, Nat.add_assoc, rcmp_lt_iff, rcmp_gt_iff, rsign_gt_iff, rcmp_zero, ex9_0, ex9_1, ex9_2, w_1, w_2, w_3, w_4, n_2, n_3, n_4, eqD_po0, guard_po, beq_self_eq_true, t5, t11, xn, x0, gx0, x5, gx5]
  refine call_of (v2 _ _) ?_
  simp only [↓R1, R2, R3, R4, TY, reduceIte, Nat.reduceEqDiff, Nat.reduceAdd, Nat.reduceMul, Nat.reduceLT, Nat.reduceLeDiff, reduceCtorEq, decide_true, decide_false, Int.reduceLE, Int.reduceLT, Int.reduceToNat, Int.reduceAdd, Int.reduceSub, Int.reduceMul, Int.reduceEq, hfl, hfl1, hfl2, hfl3, hfl4, hfl5, hfl6, NE, NE9, Nat.add_assoc, rcmp_lt_iff, rcmp_gt_iff, rsign_gt_iff, rcmp_zero, ex9_0, ex9_1, ex9_2, w_1, w_2, w_3, w_4, n_2, n_3, n_4, eqD_po0, guard_po, beq_self_eq_true, t5, t11, xn, x0, gx0, x5, gx5]
  rw [floOf_wr (by kernel_rfl)]
  simp only [↓R1, R2, R3, R4, TY, reduceIte, Nat.reduceEqDiff, Nat.reduceAdd, Nat.reduceMul, Nat.reduceLT, Nat.reduceLeDiff, reduceCtorEq, decide_true, decide_false, Int.reduceLE, Int.reduceLT, Int.reduceToNat, Int.reduceAdd, Int.reduceSub, Int.reduceMul, Int.reduceEq, hfl, hfl1, hfl2, hfl3, hfl4, hfl5, hfl6, NE, NE9, Nat.add_assoc, rcmp_lt_iff, rcmp_gt_iff, rsign_gt_iff, rcmp_zero, ex9_0, ex9_1, ex9_2, w_1, w_2, w_3, w_4, n_2, n_3, n_4, eqD_po0, guard_po, beq_self_eq_true, t5, t11, xn, x0, gx0, x5, gx5]
  refine call_of (mi _ _) ?_
  simp only [↓R1, R2, R3, R4, TY, reduceIte, Nat.reduceEqDiff, Nat.reduceAdd, Nat.reduceMul, Nat.reduceLT, Nat.reduceLeDiff, reduceCtorEq, decide_true, decide_false, Int.reduceLE, Int.reduceLT, Int.reduceToNat, Int.reduceAdd, Int.reduceSub, Int.reduceMul, Int.reduceEq, hfl, hfl1, hfl2, hfl3, hfl4, hfl5, hfl6, NE, NE9, Nat.add_assoc, rcmp_lt_iff, rcmp_gt_iff, rsign_gt_iff, rcmp_zero, ex9_0, ex9_1, ex9_2, w_1, w_2, w_3, w_4, n_2, n_3, n_4, eqD_po0, guard_po, beq_self_eq_true, t5, t11, xn, x0, gx0, x5, gx5]
  refine call_of (f2 _ _) ?_
  simp only [↓R1, R2, R3, R4, TY, reduceIte, Nat.reduceEqDiff, Nat.reduceAdd, Nat.reduceMul, Nat.reduceLT, Nat.reduceLeDiff, reduceCtorEq, decide_true, decide_false, Int.reduceLE, Int.reduceLT, Int.reduceToNat, Int.reduceAdd, Int.reduceSub, Int.reduceMul, Int.reduceEq, hfl, hfl1, hfl2, hfl3, hfl4, hfl5, hfl6, NE, NE9, Nat.add_assoc, rcmp_lt_iff, rcmp_gt_iff, rsign_gt_iff, rcmp_zero, ex9_0, ex9_1, ex9_2, w_1, w_2, w_3, w_4, n_2, n_3, n_4, eqD_po0, guard_po, beq_self_eq_true, t5, t11, xn, x0, gx0, x5, gx5]
  refine unroll_of [(), (), (), ()] ?_
  simp only [↓R1, R2, R3, R4, TY, reduceIte, Nat.reduceEqDiff, Nat.reduceAdd, Nat.reduceMul, Nat.reduceLT, Nat.reduceLeDiff, reduceCtorEq, decide_true, decide_false, Int.reduceLE, Int.reduceLT, Int.reduceToNat, Int.reduceAdd, Int.reduceSub, Int.reduceMul, Int.reduceEq, hfl, hfl1, hfl2, hfl3, hfl4, hfl5, hfl6, NE, NE9, Nat.add_assoc, rcmp_lt_iff, rcmp_gt_iff, rsign_gt_iff, rcmp_zero, ex9_0, ex9_1, ex9_2, w_1, w_2, w_3, w_4, n_2, n_3, n_4, eqD_po0, guard_po, beq_self_eq_true, t5, t11, xn, x0, gx0, x5, gx5]
  refine call_of (z2 _ _) ?_
  simp only [↓R1, R2, R3, R4, TY, reduceIte, Nat.reduceEqDiff, Nat.reduceAdd, Nat.reduceMul, Nat.reduceLT, Nat.reduceLeDiff, reduceCtorEq, decide_true, decide_false, Int.reduceLE, Int.reduceLT, Int.reduceToNat, Int.reduceAdd, Int.reduceSub, Int.reduceMul, Int.reduceEq, hfl, hfl1, hfl2, hfl3, hfl4, hfl5, hfl6, NE, NE9, Nat.add_assoc, rcmp_lt_iff, rcmp_gt_iff, rsign_gt_iff, rcmp_zero, ex9_0, ex9_1, ex9_2, w_1, w_2, w_3, w_4, n_2, n_3, n_4, eqD_po0, guard_po, beq_self_eq_true, t5, t11, xn, x0, gx0, x5, gx5]
  refine call_of (mu0 _ _) ?_
  simp only [↓R1, R2, R3, R4, TY, reduceIte, Nat.reduceEqDiff, Nat.reduceAdd, Nat.reduceMul, Nat.reduceLT, Nat.reduceLeDiff, reduceCtorEq, decide_true, decide_false, Int.reduceLE, Int.reduceLT, Int.reduceToNat, Int.reduceAdd, Int.reduceSub, Int.reduceMul, Int.reduceEq, hfl, hfl1, hfl2, hfl3, hfl4, hfl5, hfl6, NE, NE9, Nat.add_assoc, rcmp_lt_iff, rcmp_gt_iff, rsign_gt_iff, rcmp_zero, ex9_0, ex9_1, ex9_2, w_1, w_2, w_3, w_4, n_2, n_3, n_4, eqD_po0, guard_po, beq_self_eq_true, t5, t11, xn, x0, gx0, x5, gx5]
  refine call_of (ad0 _ _) ?_
  simp only [↓R1, R2, R3, R4, TY, reduceIte, Nat.reduceEqDiff, Nat.reduceAdd, Nat.reduceMul, Nat.reduceLT, Nat.reduceLeDiff, reduceCtorEq, decide_true, decide_false, Int.reduceLE, Int.reduceLT, Int.reduceToNat, Int.reduceAdd, Int.reduceSub, Int.reduceMul, Int.reduceEq, hfl, hfl1, hfl2, hfl3, hfl4, hfl5, hfl6, NE, NE9, Nat.add_assoc, rcmp_lt_iff, rcmp_gt_iff, rsign_gt_iff, rcmp_zero, ex9_0, ex9_1, ex9_2, w_1, w_2, w_3, w_4, n_2, n_3, n_4, eqD_po0, guard_po, beq_self_eq_true, t5, t11, xn, x0, gx0, x5, gx5]
  refine call_of (cm0 _ _) ?_
  simp only [↓R1, R2, R3, R4, TY, reduceIte, Nat.reduceEqDiff, Nat.reduceAdd, Nat.reduceMul, Nat.reduceLT, Nat.reduceLeDiff, reduceCtorEq, decide_true, decide_false, Int.reduceLE, Int.reduceLT, Int.reduceToNat, Int.reduceAdd, Int.reduceSub, Int.reduceMul, Int.reduceEq, hfl, hfl1, hfl2, hfl3, hfl4, hfl5, hfl6, NE, NE9, Nat.add_assoc, rcmp_lt_iff, rcmp_gt_iff, rsign_gt_iff, rcmp_zero, ex9_0, ex9_1, ex9_2, w_1, w_2, w_3, w_4, n_2, n_3, n_4, eqD_po0, guard_po, beq_self_eq_true, t5, t11, xn, x0, gx0, x5, gx5]
  refine call_of (z2 _ _) ?_
  simp only [↓R1, R2, R3, R4, TY, reduceIte, Nat.reduceEqDiff, Nat.reduceAdd, Nat.reduceMul, Nat.reduceLT, Nat.reduceLeDiff, reduceCtorEq, decide_true, decide_false, Int.reduceLE, Int.reduceLT, Int.reduceToNat, Int.reduceAdd, Int.reduceSub, Int.reduceMul, Int.reduceEq, hfl, hfl1, hfl2, hfl3, hfl4, hfl5, hfl6, NE, NE9, Nat.add_assoc, rcmp_lt_iff, rcmp_gt_iff, rsign_gt_iff, rcmp_zero, ex9_0, ex9_1, ex9_2, w_1, w_2, w_3, w_4, n_2, n_3, n_4, eqD_po0, guard_po, beq_self_eq_true, t5, t11, xn, x0, gx0, x5, gx5]
  refine call_of (mu1 _ _) ?_
  simp only [↓R1, R2, R3, R4, TY, reduceIte, Nat.reduceEqDiff, Nat.reduceAdd, Nat.reduceMul, Nat.reduceLT, Nat.reduceLeDiff, reduceCtorEq, decide_true, decide_false, Int.reduceLE, Int.reduceLT, Int.reduceToNat, Int.reduceAdd, Int.reduceSub, Int.reduceMul, Int.reduceEq, hfl, hfl1, hfl2, hfl3, hfl4, hfl5, hfl6, NE, NE9, Nat.add_assoc, rcmp_lt_iff, rcmp_gt_iff, rsign_gt_iff, rcmp_zero, ex9_0, ex9_1, ex9_2, w_1, w_2, w_3, w_4, n_2, n_3, n_4, eqD_po0, guard_po, beq_self_eq_true, t5, t11, xn, x0, gx0, x5, gx5]
  refine call_of (ad1 _ _) ?_
  simp only [↓R1, R2, R3, R4, TY, reduceIte, Nat.reduceEqDiff, Nat.reduceAdd, Nat.reduceMul, Nat.reduceLT, Nat.reduceLeDiff, reduceCtorEq, decide_true, decide_false, Int.reduceLE, Int.reduceLT, Int.reduceToNat, Int.reduceAdd, Int.reduceSub, Int.reduceMul, Int.reduceEq, hfl, hfl1, hfl2, hfl3, hfl4, hfl5, hfl6, NE, NE9, Nat.add_assoc, rcmp_lt_iff, rcmp_gt_iff, rsign_gt_iff, rcmp_zero, ex9_0, ex9_1, ex9_2, w_1, w_2, w_3, w_4, n_2, n_3, n_4, eqD_po0, guard_po, beq_self_eq_true, t5, t11, xn, x0, gx0, x5, gx5]
  refine call_of (cm1 _ _) ?_
  simp only [↓R1, R2, R3, R4, TY, reduceIte, Nat.reduceEqDiff, Nat.reduceAdd, Nat.reduceMul, Nat.reduceLT, Nat.reduceLeDiff, reduceCtorEq, decide_true, decide_false, Int.reduceLE, Int.reduceLT, Int.reduceToNat, Int.reduceAdd, Int.reduceSub, Int.reduceMul, Int.reduceEq, hfl, hfl1, hfl2, hfl3, hfl4, hfl5, hfl6, NE, NE9, Nat.add_assoc, rcmp_lt_iff, rcmp_gt_iff, rsign_gt_iff, rcmp_zero, ex9_0, ex9_1, ex9_2, w_1, w_2, w_3, w_4, n_2, n_3, n_4, eqD_po0, guard_po, beq_self_eq_true, t5, t11, xn, x0, gx0, x5, gx5]
  refine call_of (z2 _ _) ?_
  simp only [↓R1, R2, R3, R4, TY, reduceIte, Nat.reduceEqDiff, Nat.reduceAdd, Nat.reduceMul, Nat.reduceLT, Nat.reduceLeDiff, reduceCtorEq, decide_true, decide_false, Int.reduceLE, Int.reduceLT, Int.reduceToNat, Int.reduceAdd, Int.reduceSub, Int.reduceMul, Int.reduceEq, hfl, hfl1, hfl2, hfl3, hfl4, hfl5, hfl6, NE, NE9, Nat.add_assoc, rcmp_lt_iff, rcmp_gt_iff, rsign_gt_iff, rcmp_zero, ex9_0, ex9_1, ex9_2, w_1, w_2, w_3, w_4, n_2, n_3, n_4, eqD_po0, guard_po, beq_self_eq_true, t5, t11, xn, x0, gx0, x5, gx5]
  refine call_of (mu2 _ _) ?_
  simp only [↓R1, R2, R3, R4, TY, reduceIte, Nat.reduceEqDiff, Nat.reduceAdd, Nat.reduceMul, Nat.reduceLT, Nat.reduceLeDiff, reduceCtorEq, decide_true, decide_false, Int.reduceLE, Int.reduceLT, Int.reduceToNat, Int.reduceAdd, Int.reduceSub, Int.reduceMul, Int.reduceEq, hfl, hfl1, hfl2, hfl3, hfl4, hfl5, hfl6, NE, NE9, Nat.add_assoc, rcmp_lt_iff, rcmp_gt_iff, rsign_gt_iff, rcmp_zero, ex9_0, ex9_1, ex9_2, w_1, w_2, w_3, w_4, n_2, n_3, n_4, eqD_po0, guard_po, beq_self_eq_true, t5, t11, xn, x0, gx0, x5, gx5]
  refine call_of (ad2 _ _) ?_
  simp only [↓R1, R2, R3, R4, TY, reduceIte, Nat.reduceEqDiff, Nat.reduceAdd, Nat.reduceMul, Nat.reduceLT, Nat.reduceLeDiff, reduceCtorEq, decide_true, decide_false, Int.reduceLE, Int.reduceLT, Int.reduceToNat, Int.reduceAdd, Int.reduceSub, Int.reduceMul, Int.reduceEq, hfl, hfl1, hfl2, hfl3, hfl4, hfl5, hfl6, NE, NE9, Nat.add_assoc, rcmp_lt_iff, rcmp_gt_iff, rsign_gt_iff, rcmp_zero, ex9_0, ex9_1, ex9_2, w_1, w_2, w_3, w_4, n_2, n_3, n_4, eqD_po0, guard_po, beq_self_eq_true, t5, t11, xn, x0, gx0, x5, gx5]
  refine call_of (cm2 _ _) ?_
  simp only [↓R1, R2, R3, R4, TY, reduceIte, Nat.reduceEqDiff, Nat.reduceAdd, Nat.reduceMul, Nat.reduceLT, Nat.reduceLeDiff, reduceCtorEq, decide_true, decide_false, Int.reduceLE, Int.reduceLT, Int.reduceToNat, Int.reduceAdd, Int.reduceSub, Int.reduceMul, Int.reduceEq, hfl, hfl1, hfl2, hfl3, hfl4, hfl5, hfl6, NE, NE9, Nat.add_assoc, rcmp_lt_iff, rcmp_gt_iff, rsign_gt_iff, rcmp_zero, ex9_0, ex9_1, ex9_2, w_1, w_2, w_3, w_4, n_2, n_3, n_4, eqD_po0, guard_po, beq_self_eq_true, t5, t11, xn, x0, gx0, x5, gx5]
  refine call_of (mx _ _) ?_
  simp only [↓R1, R2, R3, R4, TY, reduceIte, Nat.reduceEqDiff, Nat.reduceAdd, Nat.reduceMul, Nat.reduceLT, Nat.reduceLeDiff, reduceCtorEq, decide_true, decide_false, Int.reduceLE, Int.reduceLT, Int.reduceToNat, Int.reduceAdd, Int.reduceSub, Int.reduceMul, Int.reduceEq, hfl, hfl1, hfl2, hfl3, hfl4, hfl5, hfl6, NE, NE9, Nat.add_assoc, rcmp_lt_iff, rcmp_gt_iff, rsign_gt_iff, rcmp_zero, ex9_0, ex9_1, ex9_2, w_1, w_2, w_3, w_4, n_2, n_3, n_4, eqD_po0, guard_po, beq_self_eq_true, t5, t11, xn, x0, gx0, x5, gx5]
  refine call_of (d1 _ _) ?_
  simp only [↓R1, R2, R3, R4, TY, reduceIte, Nat.reduceEqDiff, Nat.reduceAdd, Nat.reduceMul, Nat.reduceLT, Nat.reduceLeDiff, reduceCtorEq, decide_true, decide_false, Int.reduceLE, Int.reduceLT, Int.reduceToNat, Int.reduceAdd, Int.reduceSub, Int.reduceMul, Int.reduceEq, hfl, hfl1, hfl2, hfl3, hfl4, hfl5, hfl6, NE, NE9, Nat.add_assoc, rcmp_lt_iff, rcmp_gt_iff, rsign_gt_iff, rcmp_zero, ex9_0, ex9_1, ex9_2, w_1, w_2, w_3, w_4, n_2, n_3, n_4, eqD_po0, guard_po, beq_self_eq_true, t5, t11, xn, x0, gx0, x5, gx5]
  refine call_of (d2 _ _) ?_
  simp only [↓R1, R2, R3, R4, TY, reduceIte, Nat.reduceEqDiff, Nat.reduceAdd, Nat.reduceMul, Nat.reduceLT, Nat.reduceLeDiff, reduceCtorEq, decide_true, decide_false, Int.reduceLE, Int.reduceLT, Int.reduceToNat, Int.reduceAdd, Int.reduceSub, Int.reduceMul, Int.reduceEq, hfl, hfl1, hfl2, hfl3, hfl4, hfl5, hfl6, NE, NE9, Nat.add_assoc, rcmp_lt_iff, rcmp_gt_iff, rsign_gt_iff, rcmp_zero, ex9_0, ex9_1, ex9_2, w_1, w_2, w_3, w_4, n_2, n_3, n_4, eqD_po0, guard_po, beq_self_eq_true, t5, t11, xn, x0, gx0, x5, gx5]
  exact Ended.back hA (by simp (maxDischargeDepth := 20) only [xt_push, xt_put, xx, xn, xt_refl, Nat.le_refl, Nat.le_add_right, Nat.add_assoc, Nat.reduceAdd]) rfl (RB.bool _)
end
end Go.Proofs.YtjkimjmocfjjnaaDoor.Ab
