/- The reference's functions for poses, 3. -/
import Derived.Test.YtjkimjmocfjjnaaDoorGd
namespace Go.Proofs.YtjkimjmocfjjnaaDoor.Ab
open Go.RowKit
set_option linter.unusedVariables false
set_option linter.unusedSimpArgs false
set_option maxRecDepth 100000

section
variable {G : Gl} {fl : Nat} {A : Hp}

set_option maxHeartbeats 8000000 in
theorem wWideOf {P : Po} {k : Nat} {x0 : Bool} {x1 x2 : List UInt8} {y0 : Bool} {y1 y2 : List UInt8} {okx oky : Bool} {g h : Rat} (hG : G 1 = some tabV) (hp : P.ok k) (rx : Raw G x0 x1 x2 okx g k) (ry : Raw G y0 y1 y2 oky h k) (hk : 2 * k + 2 ≤ 10000000000) : Sound Tryd.prog G 13 [poV P, .agg #[.bool x0, .string (S x1), .string (S x2)], .agg #[.bool y0, .string (S y1), .string (S y2)]] fl A (poV (wideP P g h)) A := by
  refine Sound.of mixed Tryd.func13 Tryd.ntmps13 Tryd.results13 (by kernel_rfl) rfl (by kernel_rfl) (by simp) fun hA => ?_
  have hfl : fl ≤ A.next := by have := hA.floor; omega
  have hfl1 : fl ≤ A.next + 1 := by have := hA.floor; omega
  have hfl2 : fl ≤ A.next + 2 := by have := hA.floor; omega
  have hfl3 : fl ≤ A.next + 3 := by have := hA.floor; omega
  have hfl4 : fl ≤ A.next + 4 := by have := hA.floor; omega
  have hfl5 : fl ≤ A.next + 5 := by have := hA.floor; omega
  have hfl6 : fl ≤ A.next + 6 := by have := hA.floor; omega
  have o0 := fun fl A => gsub (G := G) (fl := fl) (A := A) hG (raw_good hG hp.1.low (by omega)).fit rx.fit hp.1.low rx.sz (by omega)
  have o1 := fun fl A => gadd (G := G) (fl := fl) (A := A) hG (raw_good hG hp.1.high (by omega)).fit rx.fit hp.1.high rx.sz (by omega)
  have o2 := fun fl A => gsub (G := G) (fl := fl) (A := A) hG (raw_good hG hp.2.1.low (by omega)).fit rx.fit hp.2.1.low rx.sz (by omega)
  have o3 := fun fl A => gadd (G := G) (fl := fl) (A := A) hG (raw_good hG hp.2.1.high (by omega)).fit rx.fit hp.2.1.high rx.sz (by omega)
  have o4 := fun fl A => gsub (G := G) (fl := fl) (A := A) hG (raw_good hG hp.2.2.low (by omega)).fit ry.fit hp.2.2.low ry.sz (by omega)
  have o5 := fun fl A => gadd (G := G) (fl := fl) (A := A) hG (raw_good hG hp.2.2.high (by omega)).fit ry.fit hp.2.2.high ry.sz (by omega)
  have su := fun fl A => gsign (G := G) (fl := fl) (A := A) hG rx.fit rx.sz (by omega)
  have sv := fun fl A => gsign (G := G) (fl := fl) (A := A) hG ry.fit ry.sz (by omega)
  have hrb := poV_rb A.next (wideP P g h)
  simp only [poV_def, prV_def, ratV_def] at o0 o1 o2 o3 o4 o5 ⊢
  by_cases cu : 0 < g <;> by_cases cv : 0 < h
  · have eu := eq_true cu
    have ev := eq_true cv
    rw [show wideP P g h = ⟨P.a - g, P.b + g, P.c - g, P.d + g, P.e - h, P.f + h⟩ from by unfold wideP; rw [rmax_pos cu, rmax_pos cv]; try simp only [add_z, sub_z]] at hrb ⊢
    simp only [↓R1, R2, R3, R4, TY, reduceIte, Nat.reduceEqDiff, Nat.reduceAdd, Nat.reduceMul, Nat.reduceLT, Nat.reduceLeDiff, reduceCtorEq, decide_true, decide_false, Int.reduceLE, Int.reduceLT, Int.reduceToNat, Int.reduceAdd, Int.reduceSub, Int.reduceMul, Int.reduceEq, hfl, hfl1, hfl2, hfl3, hfl4, hfl5, hfl6, NE, NE9, Nat.add_assoc, rcmp_lt_iff, rcmp_gt_iff, rsign_gt_iff, rcmp_zero, ex9_0, ex9_1, ex9_2, w_1, w_2, w_3, w_4, n_2, n_3, n_4, eu, ev]
    refine unroll_of [(), (), (), ()] ?_
    simp only [↓R1, R2, R3, R4, TY, reduceIte, Nat.reduceEqDiff, Nat.reduceAdd, Nat.reduceMul, Nat.reduceLT, Nat.reduceLeDiff, reduceCtorEq, decide_true, decide_false, Int.reduceLE, Int.reduceLT, Int.reduceToNat, Int.reduceAdd, Int.reduceSub, Int.reduceMul, Int.reduceEq, hfl, hfl1, hfl2, hfl3, hfl4, hfl5, hfl6, NE, NE9, Nat.add_assoc, rcmp_lt_iff, rcmp_gt_iff, rsign_gt_iff, rcmp_zero, ex9_0, ex9_1, ex9_2, w_1, w_2, w_3, w_4, n_2, n_3, n_4, eu, ev]
    refine call_of (su _ _) ?_
    simp only [↓R1, R2, R3, R4, TY, reduceIte, Nat.reduceEqDiff, Nat.reduceAdd, Nat.reduceMul, Nat.reduceLT, Nat.reduceLeDiff, reduceCtorEq, decide_true, decide_false, Int.reduceLE, Int.reduceLT, Int.reduceToNat, Int.reduceAdd, Int.reduceSub, Int.reduceMul, Int.reduceEq, hfl, hfl1, hfl2, hfl3, hfl4, hfl5, hfl6, NE, NE9, Nat.add_assoc, rcmp_lt_iff, rcmp_gt_iff, rsign_gt_iff, rcmp_zero, ex9_0, ex9_1, ex9_2, w_1, w_2, w_3, w_4, n_2, n_3, n_4, eu, ev]
    refine call_of (o0 _ _) ?_
    simp only [↓R1, R2, R3, R4, TY, reduceIte, Nat.reduceEqDiff, Nat.reduceAdd, Nat.reduceMul, Nat.reduceLT, Nat.reduceLeDiff, reduceCtorEq, decide_true, decide_false, Int.reduceLE, Int.reduceLT, Int.reduceToNat, Int.reduceAdd, Int.reduceSub, Int.reduceMul, Int.reduceEq, hfl, hfl1, hfl2, hfl3, hfl4, hfl5, hfl6, NE, NE9, Nat.add_assoc, rcmp_lt_iff, rcmp_gt_iff, rsign_gt_iff, rcmp_zero, ex9_0, ex9_1, ex9_2, w_1, w_2, w_3, w_4, n_2, n_3, n_4, eu, ev]
    refine call_of (o1 _ _) ?_
    simp only [↓R1, R2, R3, R4, TY, reduceIte, Nat.reduceEqDiff, Nat.reduceAdd, Nat.reduceMul, Nat.reduceLT, Nat.reduceLeDiff, reduceCtorEq, decide_true, decide_false, Int.reduceLE, Int.reduceLT, Int.reduceToNat, Int.reduceAdd, Int.reduceSub, Int.reduceMul, Int.reduceEq, hfl, hfl1, hfl2, hfl3, hfl4, hfl5, hfl6, NE, NE9, Nat.add_assoc, rcmp_lt_iff, rcmp_gt_iff, rsign_gt_iff, rcmp_zero, ex9_0, ex9_1, ex9_2, w_1, w_2, w_3, w_4, n_2, n_3, n_4, eu, ev]
    rw [floOf_wr (by kernel_rfl)]
    simp only [↓R1, R2, R3, R4, TY, reduceIte, Nat.reduceEqDiff, Nat.reduceAdd, Nat.reduceMul, Nat.reduceLT, Nat.reduceLeDiff, reduceCtorEq, decide_true, decide_false, Int.reduceLE, Int.reduceLT, Int.reduceToNat, Int.reduceAdd, Int.reduceSub, Int.reduceMul, Int.reduceEq, hfl, hfl1, hfl2, hfl3, hfl4, hfl5, hfl6, NE, NE9, Nat.add_assoc, rcmp_lt_iff, rcmp_gt_iff, rsign_gt_iff, rcmp_zero, ex9_0, ex9_1, ex9_2, w_1, w_2, w_3, w_4, n_2, n_3, n_4, eu, ev]
    refine call_of (su _ _) ?_
    simp only [↓R1, R2, R3, R4, TY, reduceIte, Nat.reduceEqDiff, Nat.reduceAdd, Nat.reduceMul, Nat.reduceLT, Nat.reduceLeDiff, reduceCtorEq, decide_true, decide_false, Int.reduceLE, Int.reduceLT, Int.reduceToNat, Int.reduceAdd, Int.reduceSub, Int.reduceMul, Int.reduceEq, hfl, hfl1, hfl2, hfl3, hfl4, hfl5, hfl6, NE, NE9, Nat.add_assoc, rcmp_lt_iff, rcmp_gt_iff, rsign_gt_iff, rcmp_zero, ex9_0, ex9_1, ex9_2, w_1, w_2, w_3, w_4, n_2, n_3, n_4, eu, ev]
    refine call_of (o2 _ _) ?_
    simp only [↓R1, R2, R3, R4, TY, reduceIte, Nat.reduceEqDiff, Nat.reduceAdd, Nat.reduceMul, Nat.reduceLT, Nat.reduceLeDiff, reduceCtorEq, decide_true, decide_false, Int.reduceLE, Int.reduceLT, Int.reduceToNat, Int.reduceAdd, Int.reduceSub, Int.reduceMul, Int.reduceEq, hfl, hfl1, hfl2, hfl3, hfl4, hfl5, hfl6, NE, NE9, Nat.add_assoc, rcmp_lt_iff, rcmp_gt_iff, rsign_gt_iff, rcmp_zero, ex9_0, ex9_1, ex9_2, w_1, w_2, w_3, w_4, n_2, n_3, n_4, eu, ev]
    refine call_of (o3 _ _) ?_
    simp only [↓R1, R2, R3, R4, TY, reduceIte, Nat.reduceEqDiff, Nat.reduceAdd, Nat.reduceMul, Nat.reduceLT, Nat.reduceLeDiff, reduceCtorEq, decide_true, decide_false, Int.reduceLE, Int.reduceLT, Int.reduceToNat, Int.reduceAdd, Int.reduceSub, Int.reduceMul, Int.reduceEq, hfl, hfl1, hfl2, hfl3, hfl4, hfl5, hfl6, NE, NE9, Nat.add_assoc, rcmp_lt_iff, rcmp_gt_iff, rsign_gt_iff, rcmp_zero, ex9_0, ex9_1, ex9_2, w_1, w_2, w_3, w_4, n_2, n_3, n_4, eu, ev]
    rw [floOf_wr (by kernel_rfl)]
    simp only [↓R1, R2, R3, R4, TY, reduceIte, Nat.reduceEqDiff, Nat.reduceAdd, Nat.reduceMul, Nat.reduceLT, Nat.reduceLeDiff, reduceCtorEq, decide_true, decide_false, Int.reduceLE, Int.reduceLT, Int.reduceToNat, Int.reduceAdd, Int.reduceSub, Int.reduceMul, Int.reduceEq, hfl, hfl1, hfl2, hfl3, hfl4, hfl5, hfl6, NE, NE9, Nat.add_assoc, rcmp_lt_iff, rcmp_gt_iff, rsign_gt_iff, rcmp_zero, ex9_0, ex9_1, ex9_2, w_1, w_2, w_3, w_4, n_2, n_3, n_4, eu, ev]
    refine call_of (sv _ _) ?_
    simp only [↓R1, R2, R3, R4, TY, reduceIte, Nat.reduceEqDiff, Nat.reduceAdd, Nat.reduceMul, Nat.reduceLT, Nat.reduceLeDiff, reduceCtorEq, decide_true, decide_false, Int.reduceLE, Int.reduceLT, Int.reduceToNat, Int.reduceAdd, Int.reduceSub, Int.reduceMul, Int.reduceEq, hfl, hfl1, hfl2, hfl3, hfl4, hfl5, hfl6, NE, NE9, Nat.add_assoc, rcmp_lt_iff, rcmp_gt_iff, rsign_gt_iff, rcmp_zero, ex9_0, ex9_1, ex9_2, w_1, w_2, w_3, w_4, n_2, n_3, n_4, eu, ev]
    refine call_of (o4 _ _) ?_
    simp only [↓R1, R2, R3, R4, TY, reduceIte, Nat.reduceEqDiff, Nat.reduceAdd, Nat.reduceMul, Nat.reduceLT, Nat.reduceLeDiff, reduceCtorEq, decide_true, decide_false, Int.reduceLE, Int.reduceLT, Int.reduceToNat, Int.reduceAdd, Int.reduceSub, Int.reduceMul, Int.reduceEq, hfl, hfl1, hfl2, hfl3, hfl4, hfl5, hfl6, NE, NE9, Nat.add_assoc, rcmp_lt_iff, rcmp_gt_iff, rsign_gt_iff, rcmp_zero, ex9_0, ex9_1, ex9_2, w_1, w_2, w_3, w_4, n_2, n_3, n_4, eu, ev]
    refine call_of (o5 _ _) ?_
    simp only [↓R1, R2, R3, R4, TY, reduceIte, Nat.reduceEqDiff, Nat.reduceAdd, Nat.reduceMul, Nat.reduceLT, Nat.reduceLeDiff, reduceCtorEq, decide_true, decide_false, Int.reduceLE, Int.reduceLT, Int.reduceToNat, Int.reduceAdd, Int.reduceSub, Int.reduceMul, Int.reduceEq, hfl, hfl1, hfl2, hfl3, hfl4, hfl5, hfl6, NE, NE9, Nat.add_assoc, rcmp_lt_iff, rcmp_gt_iff, rsign_gt_iff, rcmp_zero, ex9_0, ex9_1, ex9_2, w_1, w_2, w_3, w_4, n_2, n_3, n_4, eu, ev]
    rw [floOf_wr (by kernel_rfl)]
    simp only [↓R1, R2, R3, R4, TY, reduceIte, Nat.reduceEqDiff, Nat.reduceAdd, Nat.reduceMul, Nat.reduceLT, Nat.reduceLeDiff, reduceCtorEq, decide_true, decide_false, Int.reduceLE, Int.reduceLT, Int.reduceToNat, Int.reduceAdd, Int.reduceSub, Int.reduceMul, Int.reduceEq, hfl, hfl1, hfl2, hfl3, hfl4, hfl5, hfl6, NE, NE9, Nat.add_assoc, rcmp_lt_iff, rcmp_gt_iff, rsign_gt_iff, rcmp_zero, ex9_0, ex9_1, ex9_2, w_1, w_2, w_3, w_4, n_2, n_3, n_4, eu, ev]
    refine Ended.back hA ?_ rfl hrb
    simp (maxDischargeDepth := 20) only [xt_push, xt_put, xt_refl, Nat.le_refl, Nat.le_add_right, Nat.add_assoc, Nat.reduceAdd]
  · have eu := eq_true cu
    have ev := eq_false cv
    rw [show wideP P g h = ⟨P.a - g, P.b + g, P.c - g, P.d + g, P.e, P.f⟩ from by unfold wideP; rw [rmax_pos cu, rmax_npos cv]; try simp only [add_z, sub_z]] at hrb ⊢
    simp only [↓R1, R2, R3, R4, TY, reduceIte, Nat.reduceEqDiff, Nat.reduceAdd, Nat.reduceMul, Nat.reduceLT, Nat.reduceLeDiff, reduceCtorEq, decide_true, decide_false, Int.reduceLE, Int.reduceLT, Int.reduceToNat, Int.reduceAdd, Int.reduceSub, Int.reduceMul, Int.reduceEq, hfl, hfl1, hfl2, hfl3, hfl4, hfl5, hfl6, NE, NE9, Nat.add_assoc, rcmp_lt_iff, rcmp_gt_iff, rsign_gt_iff, rcmp_zero, ex9_0, ex9_1, ex9_2, w_1, w_2, w_3, w_4, n_2, n_3, n_4, eu, ev]
    refine unroll_of [(), (), (), ()] ?_
    simp only [↓R1, R2, R3, R4, TY, reduceIte, Nat.reduceEqDiff, Nat.reduceAdd, Nat.reduceMul, Nat.reduceLT, Nat.reduceLeDiff, reduceCtorEq, decide_true, decide_false, Int.reduceLE, Int.reduceLT, Int.reduceToNat, Int.reduceAdd, Int.reduceSub, Int.reduceMul, Int.reduceEq, hfl, hfl1, hfl2, hfl3, hfl4, hfl5, hfl6, NE, NE9, Nat.add_assoc, rcmp_lt_iff, rcmp_gt_iff, rsign_gt_iff, rcmp_zero, ex9_0, ex9_1, ex9_2, w_1, w_2, w_3, w_4, n_2, n_3, n_4, eu, ev]
    refine call_of (su _ _) ?_
    simp only [↓R1, R2, R3, R4, TY, reduceIte, Nat.reduceEqDiff, Nat.reduceAdd, Nat.reduceMul, Nat.reduceLT, Nat.reduceLeDiff, reduceCtorEq, decide_true, decide_false, Int.reduceLE, Int.reduceLT, Int.reduceToNat, Int.reduceAdd, Int.reduceSub, Int.reduceMul, Int.reduceEq, hfl, hfl1, hfl2, hfl3, hfl4, hfl5, hfl6, NE, NE9, Nat.add_assoc, rcmp_lt_iff, rcmp_gt_iff, rsign_gt_iff, rcmp_zero, ex9_0, ex9_1, ex9_2, w_1, w_2, w_3, w_4, n_2, n_3, n_4, eu, ev]
    refine call_of (o0 _ _) ?_
    simp only [↓R1, R2, R3, R4, TY, reduceIte, Nat.reduceEqDiff, Nat.reduceAdd, Nat.reduceMul, Nat.reduceLT, Nat.reduceLeDiff, reduceCtorEq, decide_true, decide_false, Int.reduceLE, Int.reduceLT, Int.reduceToNat, Int.reduceAdd, Int.reduceSub, Int.reduceMul, Int.reduceEq, hfl, hfl1, hfl2, hfl3, hfl4, hfl5, hfl6, NE, NE9, Nat.add_assoc, rcmp_lt_iff, rcmp_gt_iff, rsign_gt_iff, rcmp_zero, ex9_0, ex9_1, ex9_2, w_1, w_2, w_3, w_4, n_2, n_3, n_4, eu, ev]
    refine call_of (o1 _ _) ?_
    simp only [↓R1, R2, R3, R4, TY, reduceIte, Nat.reduceEqDiff, Nat.reduceAdd, Nat.reduceMul, Nat.reduceLT, Nat.reduceLeDiff, reduceCtorEq, decide_true, decide_false, Int.reduceLE, Int.reduceLT, Int.reduceToNat, Int.reduceAdd, Int.reduceSub, Int.reduceMul, Int.reduceEq, hfl, hfl1, hfl2, hfl3, hfl4, hfl5, hfl6, NE, NE9, Nat.add_assoc, rcmp_lt_iff, rcmp_gt_iff, rsign_gt_iff, rcmp_zero, ex9_0, ex9_1, ex9_2, w_1, w_2, w_3, w_4, n_2, n_3, n_4, eu, ev]
    rw [floOf_wr (by kernel_rfl)]
    simp only [↓R1, R2, R3, R4, TY, reduceIte, Nat.reduceEqDiff, Nat.reduceAdd, Nat.reduceMul, Nat.reduceLT, Nat.reduceLeDiff, reduceCtorEq, decide_true, decide_false, Int.reduceLE, Int.reduceLT, Int.reduceToNat, Int.reduceAdd, Int.reduceSub, Int.reduceMul, Int.reduceEq, hfl, hfl1, hfl2, hfl3, hfl4, hfl5, hfl6, NE, NE9, Nat.add_assoc, rcmp_lt_iff, rcmp_gt_iff, rsign_gt_iff, rcmp_zero, ex9_0, ex9_1, ex9_2, w_1, w_2, w_3, w_4, n_2, n_3, n_4, eu, ev]
    refine call_of (su _ _) ?_
    simp only [↓R1, R2, R3, R4, TY, reduceIte, Nat.reduceEqDiff, Nat.reduceAdd, Nat.reduceMul, Nat.reduceLT, Nat.reduceLeDiff, reduceCtorEq, decide_true, decide_false, Int.reduceLE, Int.reduceLT, Int.reduceToNat, Int.reduceAdd, Int.reduceSub, Int.reduceMul, Int.reduceEq, hfl, hfl1, hfl2, hfl3, hfl4, hfl5, hfl6, NE, NE9, Nat.add_assoc, rcmp_lt_iff, rcmp_gt_iff, rsign_gt_iff, rcmp_zero, ex9_0, ex9_1, ex9_2, w_1, w_2, w_3, w_4, n_2, n_3, n_4, eu, ev]
    refine call_of (o2 _ _) ?_
    simp only [↓R1, R2, R3, R4, TY, reduceIte, Nat.reduceEqDiff, Nat.reduceAdd, Nat.reduceMul, Nat.reduceLT, Nat.reduceLeDiff, reduceCtorEq, decide_true, decide_false, Int.reduceLE, Int.reduceLT, Int.reduceToNat, Int.reduceAdd, Int.reduceSub, Int.reduceMul, Int.reduceEq, hfl, hfl1, hfl2, hfl3, hfl4, hfl5, hfl6, NE, NE9, Nat.add_assoc, rcmp_lt_iff, rcmp_gt_iff, rsign_gt_iff, rcmp_zero, ex9_0, ex9_1, ex9_2, w_1, w_2, w_3, w_4, n_2, n_3, n_4, eu, ev]
    refine call_of (o3 _ _) ?_
    simp only [↓R1, R2, R3, R4, TY, reduceIte, Nat.reduceEqDiff, Nat.reduceAdd, Nat.reduceMul, Nat.reduceLT, Nat.reduceLeDiff, reduceCtorEq, decide_true, decide_false, Int.reduceLE, Int.reduceLT, Int.reduceToNat, Int.reduceAdd, Int.reduceSub, Int.reduceMul, Int.reduceEq, hfl, hfl1, hfl2, hfl3, hfl4, hfl5, hfl6, NE, NE9, Nat.add_assoc, rcmp_lt_iff, rcmp_gt_iff, rsign_gt_iff, rcmp_zero, ex9_0, ex9_1, ex9_2, w_1, w_2, w_3, w_4, n_2, n_3, n_4, eu, ev]
    rw [floOf_wr (by kernel_rfl)]
    simp only [↓R1, R2, R3, R4, TY, reduceIte, Nat.reduceEqDiff, Nat.reduceAdd, Nat.reduceMul, Nat.reduceLT, Nat.reduceLeDiff, reduceCtorEq, decide_true, decide_false, Int.reduceLE, Int.reduceLT, Int.reduceToNat, Int.reduceAdd, Int.reduceSub, Int.reduceMul, Int.reduceEq, hfl, hfl1, hfl2, hfl3, hfl4, hfl5, hfl6, NE, NE9, Nat.add_assoc, rcmp_lt_iff, rcmp_gt_iff, rsign_gt_iff, rcmp_zero, ex9_0, ex9_1, ex9_2, w_1, w_2, w_3, w_4, n_2, n_3, n_4, eu, ev]
    refine call_of (sv _ _) ?_
    simp only [↓R1, R2, R3, R4, TY, reduceIte, Nat.reduceEqDiff, Nat.reduceAdd, Nat.reduceMul, Nat.reduceLT, Nat.reduceLeDiff, reduceCtorEq, decide_true, decide_false, Int.reduceLE, Int.reduceLT, Int.reduceToNat, Int.reduceAdd, Int.reduceSub, Int.reduceMul, Int.reduceEq, hfl, hfl1, hfl2, hfl3, hfl4, hfl5, hfl6, NE, NE9, Nat.add_assoc, rcmp_lt_iff, rcmp_gt_iff, rsign_gt_iff, rcmp_zero, ex9_0, ex9_1, ex9_2, w_1, w_2, w_3, w_4, n_2, n_3, n_4, eu, ev]
    refine Ended.back hA ?_ rfl hrb
    simp (maxDischargeDepth := 20) only [xt_push, xt_put, xt_refl, Nat.le_refl, Nat.le_add_right, Nat.add_assoc, Nat.reduceAdd]
  · have eu := eq_false cu
    have ev := eq_true cv
    rw [show wideP P g h = ⟨P.a, P.b, P.c, P.d, P.e - h, P.f + h⟩ from by unfold wideP; rw [rmax_npos cu, rmax_pos cv]; try simp only [add_z, sub_z]] at hrb ⊢
    simp only [↓R1, R2, R3, R4, TY, reduceIte, Nat.reduceEqDiff, Nat.reduceAdd, Nat.reduceMul, Nat.reduceLT, Nat.reduceLeDiff, reduceCtorEq, decide_true, decide_false, Int.reduceLE, Int.reduceLT, Int.reduceToNat, Int.reduceAdd, Int.reduceSub, Int.reduceMul, Int.reduceEq, hfl, hfl1, hfl2, hfl3, hfl4, hfl5, hfl6, NE, NE9, Nat.add_assoc, rcmp_lt_iff, rcmp_gt_iff, rsign_gt_iff, rcmp_zero, ex9_0, ex9_1, ex9_2, w_1, w_2, w_3, w_4, n_2, n_3, n_4, eu, ev]
    refine unroll_of [(), (), (), ()] ?_
    simp only [↓R1, R2, R3, R4, TY, reduceIte, Nat.reduceEqDiff, Nat.reduceAdd, Nat.reduceMul, Nat.reduceLT, Nat.reduceLeDiff, reduceCtorEq, decide_true, decide_false, Int.reduceLE, Int.reduceLT, Int.reduceToNat, Int.reduceAdd, Int.reduceSub, Int.reduceMul, Int.reduceEq, hfl, hfl1, hfl2, hfl3, hfl4, hfl5, hfl6, NE, NE9, Nat.add_assoc, rcmp_lt_iff, rcmp_gt_iff, rsign_gt_iff, rcmp_zero, ex9_0, ex9_1, ex9_2, w_1, w_2, w_3, w_4, n_2, n_3, n_4, eu, ev]
    refine call_of (su _ _) ?_
    simp only [↓R1, R2, R3, R4, TY, reduceIte, Nat.reduceEqDiff, Nat.reduceAdd, Nat.reduceMul, Nat.reduceLT, Nat.reduceLeDiff, reduceCtorEq, decide_true, decide_false, Int.reduceLE, Int.reduceLT, Int.reduceToNat, Int.reduceAdd, Int.reduceSub, Int.reduceMul, Int.reduceEq, hfl, hfl1, hfl2, hfl3, hfl4, hfl5, hfl6, NE, NE9, Nat.add_assoc, rcmp_lt_iff, rcmp_gt_iff, rsign_gt_iff, rcmp_zero, ex9_0, ex9_1, ex9_2, w_1, w_2, w_3, w_4, n_2, n_3, n_4, eu, ev]
    refine call_of (su _ _) ?_
    simp only [↓R1, R2, R3, R4, TY, reduceIte, Nat.reduceEqDiff, Nat.reduceAdd, Nat.reduceMul, Nat.reduceLT, Nat.reduceLeDiff, reduceCtorEq, decide_true, decide_false, Int.reduceLE, Int.reduceLT, Int.reduceToNat, Int.reduceAdd, Int.reduceSub, Int.reduceMul, Int.reduceEq, hfl, hfl1, hfl2, hfl3, hfl4, hfl5, hfl6, NE, NE9, Nat.add_assoc, rcmp_lt_iff, rcmp_gt_iff, rsign_gt_iff, rcmp_zero, ex9_0, ex9_1, ex9_2, w_1, w_2, w_3, w_4, n_2, n_3, n_4, eu, ev]
    refine call_of (sv _ _) ?_
    simp only [↓R1, R2, R3, R4, TY, reduceIte, Nat.reduceEqDiff, Nat.reduceAdd, Nat.reduceMul, Nat.reduceLT, Nat.reduceLeDiff, reduceCtorEq, decide_true, decide_false, Int.reduceLE, Int.reduceLT, Int.reduceToNat, Int.reduceAdd, Int.reduceSub, Int.reduceMul, Int.reduceEq, hfl, hfl1, hfl2, hfl3, hfl4, hfl5, hfl6, NE, NE9, Nat.add_assoc, rcmp_lt_iff, rcmp_gt_iff, rsign_gt_iff, rcmp_zero, ex9_0, ex9_1, ex9_2, w_1, w_2, w_3, w_4, n_2, n_3, n_4, eu, ev]
    refine call_of (o4 _ _) ?_
    simp only [↓R1, R2, R3, R4, TY, reduceIte, Nat.reduceEqDiff, Nat.reduceAdd, Nat.reduceMul, Nat.reduceLT, Nat.reduceLeDiff, reduceCtorEq, decide_true, decide_false, Int.reduceLE, Int.reduceLT, Int.reduceToNat, Int.reduceAdd, Int.reduceSub, Int.reduceMul, Int.reduceEq, hfl, hfl1, hfl2, hfl3, hfl4, hfl5, hfl6, NE, NE9, Nat.add_assoc, rcmp_lt_iff, rcmp_gt_iff, rsign_gt_iff, rcmp_zero, ex9_0, ex9_1, ex9_2, w_1, w_2, w_3, w_4, n_2, n_3, n_4, eu, ev]
    refine call_of (o5 _ _) ?_
    simp only [↓R1, R2, R3, R4, TY, reduceIte, Nat.reduceEqDiff, Nat.reduceAdd, Nat.reduceMul, Nat.reduceLT, Nat.reduceLeDiff, reduceCtorEq, decide_true, decide_false, Int.reduceLE, Int.reduceLT, Int.reduceToNat, Int.reduceAdd, Int.reduceSub, Int.reduceMul, Int.reduceEq, hfl, hfl1, hfl2, hfl3, hfl4, hfl5, hfl6, NE, NE9, Nat.add_assoc, rcmp_lt_iff, rcmp_gt_iff, rsign_gt_iff, rcmp_zero, ex9_0, ex9_1, ex9_2, w_1, w_2, w_3, w_4, n_2, n_3, n_4, eu, ev]
    rw [floOf_wr (by kernel_rfl)]
    simp only [↓R1, R2, R3, R4, TY, reduceIte, Nat.reduceEqDiff, Nat.reduceAdd, Nat.reduceMul, Nat.reduceLT, Nat.reduceLeDiff, reduceCtorEq, decide_true, decide_false, Int.reduceLE, Int.reduceLT, Int.reduceToNat, Int.reduceAdd, Int.reduceSub, Int.reduceMul, Int.reduceEq, hfl, hfl1, hfl2, hfl3, hfl4, hfl5, hfl6, NE, NE9, Nat.add_assoc, rcmp_lt_iff, rcmp_gt_iff, rsign_gt_iff, rcmp_zero, ex9_0, ex9_1, ex9_2, w_1, w_2, w_3, w_4, n_2, n_3, n_4, eu, ev]
    refine Ended.back hA ?_ rfl hrb
    simp (maxDischargeDepth := 20) only [xt_push, xt_put, xt_refl, Nat.le_refl, Nat.le_add_right, Nat.add_assoc, Nat.reduceAdd]
  · have eu := eq_false cu
    have ev := eq_false cv
    rw [show wideP P g h = ⟨P.a, P.b, P.c, P.d, P.e, P.f⟩ from by unfold wideP; rw [rmax_npos cu, rmax_npos cv]; try simp only [add_z, sub_z]] at hrb ⊢
    simp only [↓R1, R2, R3, R4, TY, reduceIte, Nat.reduceEqDiff, Nat.reduceAdd, Nat.reduceMul, Nat.reduceLT, Nat.reduceLeDiff, reduceCtorEq, decide_true, decide_false, Int.reduceLE, Int.reduceLT, Int.reduceToNat, Int.reduceAdd, Int.reduceSub, Int.reduceMul, Int.reduceEq, hfl, hfl1, hfl2, hfl3, hfl4, hfl5, hfl6, NE, NE9, Nat.add_assoc, rcmp_lt_iff, rcmp_gt_iff, rsign_gt_iff, rcmp_zero, ex9_0, ex9_1, ex9_2, w_1, w_2, w_3, w_4, n_2, n_3, n_4, eu, ev]
    refine unroll_of [(), (), (), ()] ?_
    simp only [↓R1, R2, R3, R4, TY, reduceIte, Nat.reduceEqDiff, Nat.reduceAdd, Nat.reduceMul, Nat.reduceLT, Nat.reduceLeDiff, reduceCtorEq, decide_true, decide_false, Int.reduceLE, Int.reduceLT, Int.reduceToNat, Int.reduceAdd, Int.reduceSub, Int.reduceMul, Int.reduceEq, hfl, hfl1, hfl2, hfl3, hfl4, hfl5, hfl6, NE, NE9, Nat.add_assoc, rcmp_lt_iff, rcmp_gt_iff, rsign_gt_iff, rcmp_zero, ex9_0, ex9_1, ex9_2, w_1, w_2, w_3, w_4, n_2, n_3, n_4, eu, ev]
    refine call_of (su _ _) ?_
    simp only [↓R1, R2, R3, R4, TY, reduceIte, Nat.reduceEqDiff, Nat.reduceAdd, Nat.reduceMul, Nat.reduceLT, Nat.reduceLeDiff, reduceCtorEq, decide_true, decide_false, Int.reduceLE, Int.reduceLT, Int.reduceToNat, Int.reduceAdd, Int.reduceSub, Int.reduceMul, Int.reduceEq, hfl, hfl1, hfl2, hfl3, hfl4, hfl5, hfl6, NE, NE9, Nat.add_assoc, rcmp_lt_iff, rcmp_gt_iff, rsign_gt_iff, rcmp_zero, ex9_0, ex9_1, ex9_2, w_1, w_2, w_3, w_4, n_2, n_3, n_4, eu, ev]
    refine call_of (su _ _) ?_
    simp only [↓R1, R2, R3, R4, TY, reduceIte, Nat.reduceEqDiff, Nat.reduceAdd, Nat.reduceMul, Nat.reduceLT, Nat.reduceLeDiff, reduceCtorEq, decide_true, decide_false, Int.reduceLE, Int.reduceLT, Int.reduceToNat, Int.reduceAdd, Int.reduceSub, Int.reduceMul, Int.reduceEq, hfl, hfl1, hfl2, hfl3, hfl4, hfl5, hfl6, NE, NE9, Nat.add_assoc, rcmp_lt_iff, rcmp_gt_iff, rsign_gt_iff, rcmp_zero, ex9_0, ex9_1, ex9_2, w_1, w_2, w_3, w_4, n_2, n_3, n_4, eu, ev]
    refine call_of (sv _ _) ?_
    simp only [↓R1, R2, R3, R4, TY, reduceIte, Nat.reduceEqDiff, Nat.reduceAdd, Nat.reduceMul, Nat.reduceLT, Nat.reduceLeDiff, reduceCtorEq, decide_true, decide_false, Int.reduceLE, Int.reduceLT, Int.reduceToNat, Int.reduceAdd, Int.reduceSub, Int.reduceMul, Int.reduceEq, hfl, hfl1, hfl2, hfl3, hfl4, hfl5, hfl6, NE, NE9, Nat.add_assoc, rcmp_lt_iff, rcmp_gt_iff, rsign_gt_iff, rcmp_zero, ex9_0, ex9_1, ex9_2, w_1, w_2, w_3, w_4, n_2, n_3, n_4, eu, ev]
    refine Ended.back hA ?_ rfl hrb
    simp (maxDischargeDepth := 20) only [xt_push, xt_put, xt_refl, Nat.le_refl, Nat.le_add_right, Nat.add_assoc, Nat.reduceAdd]

set_option maxHeartbeats 2000000 in
theorem wOfNo {g0 : Bool} {g1 g2 : List UInt8} {h0 : Bool} {h1 h2 : List UInt8} {i0 : Bool} {i1 i2 : List UInt8} (hG : G 1 = some tabV)  : Sound Tryd.prog G 19 [.agg #[.bool g0, .string (S g1), .string (S g2), .bool h0, .string (S h1), .string (S h2), .bool true, .bool i0, .string (S i1), .string (S i2)]] fl A (.tuple [po0, .int .i64 3].toArray) A := by
  refine Sound.of mixed Tryd.func19 Tryd.ntmps19 Tryd.results19 (by kernel_rfl) rfl (by kernel_rfl) (by simp) fun hA => ?_
  have hfl : fl ≤ A.next := by have := hA.floor; omega
  have hfl1 : fl ≤ A.next + 1 := by have := hA.floor; omega
  have hfl2 : fl ≤ A.next + 2 := by have := hA.floor; omega
  have hfl3 : fl ≤ A.next + 3 := by have := hA.floor; omega
  have hfl4 : fl ≤ A.next + 4 := by have := hA.floor; omega
  have hfl5 : fl ≤ A.next + 5 := by have := hA.floor; omega
  have hfl6 : fl ≤ A.next + 6 := by have := hA.floor; omega
  have hrb := RB.tuple2 (po0_rb A.next) (RB.int .i64 3)
  simp only [po0_def] at hrb ⊢
  simp only [↓R1, R2, R3, R4, TY, reduceIte, Nat.reduceEqDiff, Nat.reduceAdd, Nat.reduceMul, Nat.reduceLT, Nat.reduceLeDiff, reduceCtorEq, decide_true, decide_false, Int.reduceLE, Int.reduceLT, Int.reduceToNat, Int.reduceAdd, Int.reduceSub, Int.reduceMul, Int.reduceEq, hfl, hfl1, hfl2, hfl3, hfl4, hfl5, hfl6, NE, NE9, Nat.add_assoc]
  refine Ended.back hA ?_ rfl hrb
  simp (maxDischargeDepth := 20) only [xt_push, xt_put, xt_refl, Nat.le_refl, Nat.le_add_right, Nat.add_assoc, Nat.reduceAdd]

set_option maxHeartbeats 2000000 in
theorem wOf {g0 : Bool} {g1 g2 : List UInt8} {h0 : Bool} {h1 h2 : List UInt8} {i0 : Bool} {i1 i2 : List UInt8} {okg okh oki : Bool} {g h i : Rat} {k : Nat} (hG : G 1 = some tabV) (rg : Raw G g0 g1 g2 okg g k) (rh : Raw G h0 h1 h2 okh h k) (ri : Raw G i0 i1 i2 oki i k) (hk : 2 * k ≤ 10000000000) : Sound Tryd.prog G 19 [.agg #[.bool g0, .string (S g1), .string (S g2), .bool h0, .string (S h1), .string (S h2), .bool false, .bool i0, .string (S i1), .string (S i2)]] fl A (.tuple [poV (ptP g h i), .int .i64 0].toArray) A := by
  refine Sound.of mixed Tryd.func19 Tryd.ntmps19 Tryd.results19 (by kernel_rfl) rfl (by kernel_rfl) (by simp) fun hA => ?_
  have hfl : fl ≤ A.next := by have := hA.floor; omega
  have hfl1 : fl ≤ A.next + 1 := by have := hA.floor; omega
  have hfl2 : fl ≤ A.next + 2 := by have := hA.floor; omega
  have hfl3 : fl ≤ A.next + 3 := by have := hA.floor; omega
  have hfl4 : fl ≤ A.next + 4 := by have := hA.floor; omega
  have hfl5 : fl ≤ A.next + 5 := by have := hA.floor; omega
  have hfl6 : fl ≤ A.next + 6 := by have := hA.floor; omega
  have e1 := fun fl A => wof (G := G) (fl := fl) (A := A) hG rg (by omega)
  have e2 := fun fl A => wof (G := G) (fl := fl) (A := A) hG rh (by omega)
  have e3 := fun fl A => wof (G := G) (fl := fl) (A := A) hG ri (by omega)
  have hrb := RB.tuple2 (poV_rb A.next (ptP g h i)) (RB.int .i64 0)
  unfold ptP at hrb ⊢
  simp only [poV_def, prV_def, ratV_def] at e1 e2 e3 hrb ⊢
  simp only [↓R1, R2, R3, R4, TY, reduceIte, Nat.reduceEqDiff, Nat.reduceAdd, Nat.reduceMul, Nat.reduceLT, Nat.reduceLeDiff, reduceCtorEq, decide_true, decide_false, Int.reduceLE, Int.reduceLT, Int.reduceToNat, Int.reduceAdd, Int.reduceSub, Int.reduceMul, Int.reduceEq, hfl, hfl1, hfl2, hfl3, hfl4, hfl5, hfl6, NE, NE9, Nat.add_assoc]
  refine call_of (e1 _ _) ?_
  simp only [↓R1, R2, R3, R4, TY, reduceIte, Nat.reduceEqDiff, Nat.reduceAdd, Nat.reduceMul, Nat.reduceLT, Nat.reduceLeDiff, reduceCtorEq, decide_true, decide_false, Int.reduceLE, Int.reduceLT, Int.reduceToNat, Int.reduceAdd, Int.reduceSub, Int.reduceMul, Int.reduceEq, hfl, hfl1, hfl2, hfl3, hfl4, hfl5, hfl6, NE, NE9, Nat.add_assoc]
  refine call_of (e2 _ _) ?_
  simp only [↓R1, R2, R3, R4, TY, reduceIte, Nat.reduceEqDiff, Nat.reduceAdd, Nat.reduceMul, Nat.reduceLT, Nat.reduceLeDiff, reduceCtorEq, decide_true, decide_false, Int.reduceLE, Int.reduceLT, Int.reduceToNat, Int.reduceAdd, Int.reduceSub, Int.reduceMul, Int.reduceEq, hfl, hfl1, hfl2, hfl3, hfl4, hfl5, hfl6, NE, NE9, Nat.add_assoc]
  refine call_of (e3 _ _) ?_
  simp only [↓R1, R2, R3, R4, TY, reduceIte, Nat.reduceEqDiff, Nat.reduceAdd, Nat.reduceMul, Nat.reduceLT, Nat.reduceLeDiff, reduceCtorEq, decide_true, decide_false, Int.reduceLE, Int.reduceLT, Int.reduceToNat, Int.reduceAdd, Int.reduceSub, Int.reduceMul, Int.reduceEq, hfl, hfl1, hfl2, hfl3, hfl4, hfl5, hfl6, NE, NE9, Nat.add_assoc]
  rw [floOf_wr (by kernel_rfl)]
  simp only [↓R1, R2, R3, R4, TY, reduceIte, Nat.reduceEqDiff, Nat.reduceAdd, Nat.reduceMul, Nat.reduceLT, Nat.reduceLeDiff, reduceCtorEq, decide_true, decide_false, Int.reduceLE, Int.reduceLT, Int.reduceToNat, Int.reduceAdd, Int.reduceSub, Int.reduceMul, Int.reduceEq, hfl, hfl1, hfl2, hfl3, hfl4, hfl5, hfl6, NE, NE9, Nat.add_assoc]
  refine Ended.back hA ?_ rfl hrb
  simp (maxDischargeDepth := 20) only [xt_push, xt_put, xt_refl, Nat.le_refl, Nat.le_add_right, Nat.add_assoc, Nat.reduceAdd]

set_option maxHeartbeats 2000000 in
theorem wWidth {p0 : Bool} {p1 p2 : List UInt8} {q0 : Bool} {q1 q2 : List UInt8} {r0 : Bool} {r1 r2 : List UInt8} {s0 : Bool} {s1 s2 : List UInt8} {t0 : Bool} {t1 t2 : List UInt8} {u0 : Bool} {u1 u2 : List UInt8} {P : Po} {k : Nat} (hG : G 1 = some tabV) (rp : RawP G p0 p1 p2 q0 q1 q2 r0 r1 r2 s0 s1 s2 t0 t1 t2 u0 u1 u2 P k) (hk : 2 * k + 1 ≤ 5000000000) : Sound Tryd.prog G 23 [.agg #[.bool p0, .string (S p1), .string (S p2), .bool q0, .string (S q1), .string (S q2), .bool r0, .string (S r1), .string (S r2), .bool s0, .string (S s1), .string (S s2), .bool t0, .string (S t1), .string (S t2), .bool u0, .string (S u1), .string (S u2)]] fl A (.tuple [ratV (rmax (P.b - P.a) (P.d - P.c)), ratV (P.f - P.e)].toArray) A := by
  refine Sound.of mixed Tryd.func23 Tryd.ntmps23 Tryd.results23 (by kernel_rfl) rfl (by kernel_rfl) (by simp) fun hA => ?_
  have hfl : fl ≤ A.next := by have := hA.floor; omega
  have hfl1 : fl ≤ A.next + 1 := by have := hA.floor; omega
  have hfl2 : fl ≤ A.next + 2 := by have := hA.floor; omega
  have hfl3 : fl ≤ A.next + 3 := by have := hA.floor; omega
  have hfl4 : fl ≤ A.next + 4 := by have := hA.floor; omega
  have hfl5 : fl ≤ A.next + 5 := by have := hA.floor; omega
  have hfl6 : fl ≤ A.next + 6 := by have := hA.floor; omega
  have e1 := fun fl A => wlong (G := G) (fl := fl) (A := A) hG rp.x (by omega)
  have e2 := fun fl A => wlong (G := G) (fl := fl) (A := A) hG rp.y (by omega)
  have e3 := fun fl A => wlong (G := G) (fl := fl) (A := A) hG rp.t (by omega)
  have m1 := fun fl A => qmax (G := G) (fl := fl) (A := A) hG (rp.x.sp.high.sub rp.x.sp.low) (rp.y.sp.high.sub rp.y.sp.low) (by omega)
  have hrb := RB.tuple2 (ratV_rb A.next (rmax (P.b - P.a) (P.d - P.c))) (ratV_rb A.next (P.f - P.e))
  simp only [poV_def, prV_def, ratV_def] at e1 e2 e3 m1 hrb ⊢
  simp only [↓R1, R2, R3, R4, TY, reduceIte, Nat.reduceEqDiff, Nat.reduceAdd, Nat.reduceMul, Nat.reduceLT, Nat.reduceLeDiff, reduceCtorEq, decide_true, decide_false, Int.reduceLE, Int.reduceLT, Int.reduceToNat, Int.reduceAdd, Int.reduceSub, Int.reduceMul, Int.reduceEq, hfl, hfl1, hfl2, hfl3, hfl4, hfl5, hfl6, NE, NE9, Nat.add_assoc]
  refine call_of (e1 _ _) ?_
  simp only [↓R1, R2, R3, R4, TY, reduceIte, Nat.reduceEqDiff, Nat.reduceAdd, Nat.reduceMul, Nat.reduceLT, Nat.reduceLeDiff, reduceCtorEq, decide_true, decide_false, Int.reduceLE, Int.reduceLT, Int.reduceToNat, Int.reduceAdd, Int.reduceSub, Int.reduceMul, Int.reduceEq, hfl, hfl1, hfl2, hfl3, hfl4, hfl5, hfl6, NE, NE9, Nat.add_assoc]
  refine call_of (e2 _ _) ?_
  simp only [↓R1, R2, R3, R4, TY, reduceIte, Nat.reduceEqDiff, Nat.reduceAdd, Nat.reduceMul, Nat.reduceLT, Nat.reduceLeDiff, reduceCtorEq, decide_true, decide_false, Int.reduceLE, Int.reduceLT, Int.reduceToNat, Int.reduceAdd, Int.reduceSub, Int.reduceMul, Int.reduceEq, hfl, hfl1, hfl2, hfl3, hfl4, hfl5, hfl6, NE, NE9, Nat.add_assoc]
  refine call_of (m1 _ _) ?_
  simp only [↓R1, R2, R3, R4, TY, reduceIte, Nat.reduceEqDiff, Nat.reduceAdd, Nat.reduceMul, Nat.reduceLT, Nat.reduceLeDiff, reduceCtorEq, decide_true, decide_false, Int.reduceLE, Int.reduceLT, Int.reduceToNat, Int.reduceAdd, Int.reduceSub, Int.reduceMul, Int.reduceEq, hfl, hfl1, hfl2, hfl3, hfl4, hfl5, hfl6, NE, NE9, Nat.add_assoc]
  refine call_of (e3 _ _) ?_
  simp only [↓R1, R2, R3, R4, TY, reduceIte, Nat.reduceEqDiff, Nat.reduceAdd, Nat.reduceMul, Nat.reduceLT, Nat.reduceLeDiff, reduceCtorEq, decide_true, decide_false, Int.reduceLE, Int.reduceLT, Int.reduceToNat, Int.reduceAdd, Int.reduceSub, Int.reduceMul, Int.reduceEq, hfl, hfl1, hfl2, hfl3, hfl4, hfl5, hfl6, NE, NE9, Nat.add_assoc]
  rw [floOf_wr (by kernel_rfl)]
  simp only [↓R1, R2, R3, R4, TY, reduceIte, Nat.reduceEqDiff, Nat.reduceAdd, Nat.reduceMul, Nat.reduceLT, Nat.reduceLeDiff, reduceCtorEq, decide_true, decide_false, Int.reduceLE, Int.reduceLT, Int.reduceToNat, Int.reduceAdd, Int.reduceSub, Int.reduceMul, Int.reduceEq, hfl, hfl1, hfl2, hfl3, hfl4, hfl5, hfl6, NE, NE9, Nat.add_assoc]
  rw [floOf_wr (by kernel_rfl)]
  simp only [↓R1, R2, R3, R4, TY, reduceIte, Nat.reduceEqDiff, Nat.reduceAdd, Nat.reduceMul, Nat.reduceLT, Nat.reduceLeDiff, reduceCtorEq, decide_true, decide_false, Int.reduceLE, Int.reduceLT, Int.reduceToNat, Int.reduceAdd, Int.reduceSub, Int.reduceMul, Int.reduceEq, hfl, hfl1, hfl2, hfl3, hfl4, hfl5, hfl6, NE, NE9, Nat.add_assoc]
  refine Ended.back hA ?_ rfl hrb
  simp (maxDischargeDepth := 20) only [xt_push, xt_put, xt_refl, Nat.le_refl, Nat.le_add_right, Nat.add_assoc, Nat.reduceAdd]

set_option maxHeartbeats 2000000 in
theorem wMiddle {p0 : Bool} {p1 p2 : List UInt8} {q0 : Bool} {q1 q2 : List UInt8} {r0 : Bool} {r1 r2 : List UInt8} {s0 : Bool} {s1 s2 : List UInt8} {t0 : Bool} {t1 t2 : List UInt8} {u0 : Bool} {u1 u2 : List UInt8} {P : Po} {k : Nat} (hG : G 1 = some tabV) (rp : RawP G p0 p1 p2 q0 q1 q2 r0 r1 r2 s0 s1 s2 t0 t1 t2 u0 u1 u2 P k) (hk : 2 * k ≤ 10000000000) : Sound Tryd.prog G 25 [.agg #[.bool p0, .string (S p1), .string (S p2), .bool q0, .string (S q1), .string (S q2), .bool r0, .string (S r1), .string (S r2), .bool s0, .string (S s1), .string (S s2), .bool t0, .string (S t1), .string (S t2), .bool u0, .string (S u1), .string (S u2)]] fl A (frC ((P.a + P.b) / 2) ((P.c + P.d) / 2) ((P.e + P.f) / 2)) A := by
  refine Sound.of mixed Tryd.func25 Tryd.ntmps25 Tryd.results25 (by kernel_rfl) rfl (by kernel_rfl) (by simp) fun hA => ?_
  have hfl : fl ≤ A.next := by have := hA.floor; omega
  have hfl1 : fl ≤ A.next + 1 := by have := hA.floor; omega
  have hfl2 : fl ≤ A.next + 2 := by have := hA.floor; omega
  have hfl3 : fl ≤ A.next + 3 := by have := hA.floor; omega
  have hfl4 : fl ≤ A.next + 4 := by have := hA.floor; omega
  have hfl5 : fl ≤ A.next + 5 := by have := hA.floor; omega
  have hfl6 : fl ≤ A.next + 6 := by have := hA.floor; omega
  have e1 := fun fl A => whalf (G := G) (fl := fl) (A := A) hG rp.x (by omega)
  have e2 := fun fl A => whalf (G := G) (fl := fl) (A := A) hG rp.y (by omega)
  have e3 := fun fl A => whalf (G := G) (fl := fl) (A := A) hG rp.t (by omega)
  have hrb := frC_rb A.next ((P.a + P.b) / 2) ((P.c + P.d) / 2) ((P.e + P.f) / 2)
  unfold frC at hrb ⊢
  simp only [poV_def, prV_def, ratV_def] at e1 e2 e3 ⊢
  simp only [↓R1, R2, R3, R4, TY, reduceIte, Nat.reduceEqDiff, Nat.reduceAdd, Nat.reduceMul, Nat.reduceLT, Nat.reduceLeDiff, reduceCtorEq, decide_true, decide_false, Int.reduceLE, Int.reduceLT, Int.reduceToNat, Int.reduceAdd, Int.reduceSub, Int.reduceMul, Int.reduceEq, hfl, hfl1, hfl2, hfl3, hfl4, hfl5, hfl6, NE, NE9, Nat.add_assoc]
  refine call_of (e1 _ _) ?_
  simp only [↓R1, R2, R3, R4, TY, reduceIte, Nat.reduceEqDiff, Nat.reduceAdd, Nat.reduceMul, Nat.reduceLT, Nat.reduceLeDiff, reduceCtorEq, decide_true, decide_false, Int.reduceLE, Int.reduceLT, Int.reduceToNat, Int.reduceAdd, Int.reduceSub, Int.reduceMul, Int.reduceEq, hfl, hfl1, hfl2, hfl3, hfl4, hfl5, hfl6, NE, NE9, Nat.add_assoc]
  refine call_of (e2 _ _) ?_
  simp only [↓R1, R2, R3, R4, TY, reduceIte, Nat.reduceEqDiff, Nat.reduceAdd, Nat.reduceMul, Nat.reduceLT, Nat.reduceLeDiff, reduceCtorEq, decide_true, decide_false, Int.reduceLE, Int.reduceLT, Int.reduceToNat, Int.reduceAdd, Int.reduceSub, Int.reduceMul, Int.reduceEq, hfl, hfl1, hfl2, hfl3, hfl4, hfl5, hfl6, NE, NE9, Nat.add_assoc]
  refine call_of (e3 _ _) ?_
  simp only [↓R1, R2, R3, R4, TY, reduceIte, Nat.reduceEqDiff, Nat.reduceAdd, Nat.reduceMul, Nat.reduceLT, Nat.reduceLeDiff, reduceCtorEq, decide_true, decide_false, Int.reduceLE, Int.reduceLT, Int.reduceToNat, Int.reduceAdd, Int.reduceSub, Int.reduceMul, Int.reduceEq, hfl, hfl1, hfl2, hfl3, hfl4, hfl5, hfl6, NE, NE9, Nat.add_assoc]
  rw [floOf_wr (by kernel_rfl)]
  simp only [↓R1, R2, R3, R4, TY, reduceIte, Nat.reduceEqDiff, Nat.reduceAdd, Nat.reduceMul, Nat.reduceLT, Nat.reduceLeDiff, reduceCtorEq, decide_true, decide_false, Int.reduceLE, Int.reduceLT, Int.reduceToNat, Int.reduceAdd, Int.reduceSub, Int.reduceMul, Int.reduceEq, hfl, hfl1, hfl2, hfl3, hfl4, hfl5, hfl6, NE, NE9, Nat.add_assoc]
  refine Ended.back hA ?_ rfl hrb
  simp (maxDischargeDepth := 20) only [xt_push, xt_put, xt_refl, Nat.le_refl, Nat.le_add_right, Nat.add_assoc, Nat.reduceAdd]

end
end Go.Proofs.YtjkimjmocfjjnaaDoor.Ab
