/- The reference's functions for poses. -/
import Derived.Test.YtjkimjmocfjjnaaDoorGc
namespace Go.Proofs.YtjkimjmocfjjnaaDoor.Ab
open Go.RowKit
set_option linter.unusedVariables false
set_option linter.unusedSimpArgs false
set_option maxRecDepth 100000

theorem rcmp_lt_iff {p q : Rat} : rcmp p q < 0 ↔ p < q := by
  unfold rcmp
  split
  · rename_i h; simp [h]
  · rename_i h; split <;> simp [h]
theorem rcmp_gt_iff {p q : Rat} : 0 < rcmp p q ↔ q < p := by
  unfold rcmp
  split
  · rename_i h; simp; grind
  · split
    · rename_i h; simp [h]
    · rename_i h; simp at h ⊢; exact h
theorem rsign_gt_iff {q : Rat} : 0 < rsign q ↔ 0 < q := by
  rw [rsign_eq]
  split
  · rename_i h; rw [h]; decide
  · split
    · rename_i h; simp; grind
    · simp; grind
theorem w_1 : IntKind.i64.wrap 1 = 1 := wrapI (by decide)
theorem w_2 : IntKind.i64.wrap 2 = 2 := wrapI (by decide)
theorem w_3 : IntKind.i64.wrap 3 = 3 := wrapI (by decide)
theorem w_4 : IntKind.i64.wrap 4 = 4 := wrapI (by decide)
theorem ex9_0 (a b c d e f g h i : Value) : (#[a, b, c, d, e, f, g, h, i] : Array Value).extract 0 3 = #[a, b, c] := rfl
theorem ex9_1 (a b c d e f g h i : Value) : (#[a, b, c, d, e, f, g, h, i] : Array Value).extract 3 6 = #[d, e, f] := rfl
theorem ex9_2 (a b c d e f g h i : Value) : (#[a, b, c, d, e, f, g, h, i] : Array Value).extract 6 9 = #[g, h, i] := rfl
theorem n_2 : ((2 : Nat) : Int) = 2 := rfl
theorem n_3 : ((3 : Nat) : Int) = 3 := rfl
theorem n_4 : ((4 : Nat) : Int) = 4 := rfl
theorem rmax_pos {u : Rat} (h : 0 < u) : rmax u 0 = u := by rw [rmax_def]; split <;> grind
theorem rmax_npos {u : Rat} (h : ¬ 0 < u) : rmax u 0 = 0 := by rw [rmax_def]; split <;> grind
theorem add_z (x : Rat) : x + 0 = x := by grind
theorem sub_z (x : Rat) : x - 0 = x := by grind

theorem frC_rb (n : Nat) (g h i : Rat) : RB n (frC g h i) := RB.agg fun v hv => by
  simp only [List.mem_cons, List.not_mem_nil, or_false] at hv
  rcases hv with rfl | rfl | rfl | rfl | rfl | rfl | rfl | rfl | rfl | rfl <;> exact RB.zc rfl
section
variable {G : Gl} {fl : Nat} {A : Hp}

set_option maxHeartbeats 2000000 in
theorem wFrames {g0 : Bool} {g1 g2 : List UInt8} {h0 : Bool} {h1 h2 : List UInt8} {i0 : Bool} {i1 i2 : List UInt8} {hf : Bool} (hG : G 1 = some tabV)  : Sound Tryd.prog G 21 [.agg #[.bool g0, .string (S g1), .string (S g2), .bool h0, .string (S h1), .string (S h2), .bool hf, .bool i0, .string (S i1), .string (S i2)]] fl A (.agg #[.bool g0, .string (S g1), .string (S g2), .bool h0, .string (S h1), .string (S h2), .bool i0, .string (S i1), .string (S i2)]) A := by
  refine Sound.of mixed Tryd.func21 Tryd.ntmps21 Tryd.results21 (by kernel_rfl) rfl (by kernel_rfl) (by simp) fun hA => ?_
  have hfl : fl ≤ A.next := by have := hA.floor; omega
  have hfl1 : fl ≤ A.next + 1 := by have := hA.floor; omega
  have hfl2 : fl ≤ A.next + 2 := by have := hA.floor; omega
  have hfl3 : fl ≤ A.next + 3 := by have := hA.floor; omega
  have hfl4 : fl ≤ A.next + 4 := by have := hA.floor; omega
  have hfl5 : fl ≤ A.next + 5 := by have := hA.floor; omega
  have hfl6 : fl ≤ A.next + 6 := by have := hA.floor; omega
  have hrb := RB.agg (n := A.next) (xs := #[.bool g0, .string (S g1), .string (S g2), .bool h0, .string (S h1), .string (S h2), .bool i0, .string (S i1), .string (S i2)]) fun v hv => by
    simp only [List.mem_cons, List.not_mem_nil, or_false] at hv
    rcases hv with rfl | rfl | rfl | rfl | rfl | rfl | rfl | rfl | rfl <;> exact RB.zc rfl
  simp only [↓R1, R2, R3, R4, TY, reduceIte, Nat.reduceEqDiff, Nat.reduceAdd, Nat.reduceMul, Nat.reduceLT, Nat.reduceLeDiff, reduceCtorEq, decide_true, decide_false, Int.reduceLE, Int.reduceLT, Int.reduceToNat, Int.reduceAdd, Int.reduceSub, Int.reduceMul, Int.reduceEq, hfl, hfl1, hfl2, hfl3, hfl4, hfl5, hfl6, NE, NE9, Nat.add_assoc]
  refine Ended.back hA ?_ rfl hrb
  simp (maxDischargeDepth := 20) only [xt_push, xt_put, xt_refl, Nat.le_refl, Nat.le_add_right, Nat.add_assoc, Nat.reduceAdd]

set_option maxHeartbeats 8000000 in
theorem wInPose {P : Po} {k : Nat} {g0 : Bool} {g1 g2 : List UInt8} {h0 : Bool} {h1 h2 : List UInt8} {i0 : Bool} {i1 i2 : List UInt8} {hf okg okh oki : Bool} {g h i : Rat} (hG : G 1 = some tabV) (hp : P.ok k) (rg : Raw G g0 g1 g2 okg g k) (rh : Raw G h0 h1 h2 okh h k) (ri : Raw G i0 i1 i2 oki i k) (hk : 2 * k ≤ 10000000000) : Sound Tryd.prog G 10 [poV P, .agg #[.bool g0, .string (S g1), .string (S g2), .bool h0, .string (S h1), .string (S h2), .bool hf, .bool i0, .string (S i1), .string (S i2)]] fl A (.bool (inPo P hf g h i)) A := by
  refine Sound.of mixed Tryd.func10 Tryd.ntmps10 Tryd.results10 (by kernel_rfl) rfl (by kernel_rfl) (by simp) fun hA => ?_
  have hfl : fl ≤ A.next := by have := hA.floor; omega
  have hfl1 : fl ≤ A.next + 1 := by have := hA.floor; omega
  have hfl2 : fl ≤ A.next + 2 := by have := hA.floor; omega
  have hfl3 : fl ≤ A.next + 3 := by have := hA.floor; omega
  have hfl4 : fl ≤ A.next + 4 := by have := hA.floor; omega
  have hfl5 : fl ≤ A.next + 5 := by have := hA.floor; omega
  have hfl6 : fl ≤ A.next + 6 := by have := hA.floor; omega
  have fr := fun fl A => wFrames (G := G) (fl := fl) (A := A) (hf := false) (g0 := g0) (g1 := g1) (g2 := g2) (h0 := h0) (h1 := h1) (h2 := h2) (i0 := i0) (i1 := i1) (i2 := i2) hG
  have o1 := fun fl A => gcmp (G := G) (fl := fl) (A := A) hG rg.fit (raw_good hG hp.1.low (by omega)).fit rg.sz hp.1.low (by omega)
  have o2 := fun fl A => gcmp (G := G) (fl := fl) (A := A) hG rg.fit (raw_good hG hp.1.high (by omega)).fit rg.sz hp.1.high (by omega)
  have o3 := fun fl A => gcmp (G := G) (fl := fl) (A := A) hG rh.fit (raw_good hG hp.2.1.low (by omega)).fit rh.sz hp.2.1.low (by omega)
  have o4 := fun fl A => gcmp (G := G) (fl := fl) (A := A) hG rh.fit (raw_good hG hp.2.1.high (by omega)).fit rh.sz hp.2.1.high (by omega)
  have o5 := fun fl A => gcmp (G := G) (fl := fl) (A := A) hG ri.fit (raw_good hG hp.2.2.low (by omega)).fit ri.sz hp.2.2.low (by omega)
  have o6 := fun fl A => gcmp (G := G) (fl := fl) (A := A) hG ri.fit (raw_good hG hp.2.2.high (by omega)).fit ri.sz hp.2.2.high (by omega)
  simp only [poV_def, prV_def, ratV_def] at o1 o2 o3 o4 o5 o6 ⊢
  cases hf with
  | true =>
    simp only [↓R1, R2, R3, R4, TY, reduceIte, Nat.reduceEqDiff, Nat.reduceAdd, Nat.reduceMul, Nat.reduceLT, Nat.reduceLeDiff, reduceCtorEq, decide_true, decide_false, Int.reduceLE, Int.reduceLT, Int.reduceToNat, Int.reduceAdd, Int.reduceSub, Int.reduceMul, Int.reduceEq, hfl, hfl1, hfl2, hfl3, hfl4, hfl5, hfl6, NE, NE9, Nat.add_assoc]
    exact Ended.back hA (by simp (maxDischargeDepth := 20) only [xt_push, xt_put, xt_refl, Nat.le_refl, Nat.le_add_right, Nat.add_assoc, Nat.reduceAdd]) rfl (RB.bool _)
  | false =>
    by_cases c1 : g < P.a
    · have e1 := eq_true c1
      rw [show inPo P false g h i = false from by unfold inPo; simp only [Bool.not_false, Bool.true_and, Bool.and_eq_false_iff, decide_eq_false_iff_not]; grind]
      simp only [↓R1, R2, R3, R4, TY, reduceIte, Nat.reduceEqDiff, Nat.reduceAdd, Nat.reduceMul, Nat.reduceLT, Nat.reduceLeDiff, reduceCtorEq, decide_true, decide_false, Int.reduceLE, Int.reduceLT, Int.reduceToNat, Int.reduceAdd, Int.reduceSub, Int.reduceMul, Int.reduceEq, hfl, hfl1, hfl2, hfl3, hfl4, hfl5, hfl6, NE, NE9, Nat.add_assoc, rcmp_lt_iff, rcmp_gt_iff, rsign_gt_iff, rcmp_zero, ex9_0, ex9_1, ex9_2, w_1, w_2, w_3, w_4, n_2, n_3, n_4, e1]
      refine call_of (fr _ _) ?_
      simp only [↓R1, R2, R3, R4, TY, reduceIte, Nat.reduceEqDiff, Nat.reduceAdd, Nat.reduceMul, Nat.reduceLT, Nat.reduceLeDiff, reduceCtorEq, decide_true, decide_false, Int.reduceLE, Int.reduceLT, Int.reduceToNat, Int.reduceAdd, Int.reduceSub, Int.reduceMul, Int.reduceEq, hfl, hfl1, hfl2, hfl3, hfl4, hfl5, hfl6, NE, NE9, Nat.add_assoc, rcmp_lt_iff, rcmp_gt_iff, rsign_gt_iff, rcmp_zero, ex9_0, ex9_1, ex9_2, w_1, w_2, w_3, w_4, n_2, n_3, n_4, e1]
      refine unroll_of [(), (), (), ()] ?_
      simp only [↓R1, R2, R3, R4, TY, reduceIte, Nat.reduceEqDiff, Nat.reduceAdd, Nat.reduceMul, Nat.reduceLT, Nat.reduceLeDiff, reduceCtorEq, decide_true, decide_false, Int.reduceLE, Int.reduceLT, Int.reduceToNat, Int.reduceAdd, Int.reduceSub, Int.reduceMul, Int.reduceEq, hfl, hfl1, hfl2, hfl3, hfl4, hfl5, hfl6, NE, NE9, Nat.add_assoc, rcmp_lt_iff, rcmp_gt_iff, rsign_gt_iff, rcmp_zero, ex9_0, ex9_1, ex9_2, w_1, w_2, w_3, w_4, n_2, n_3, n_4, e1]
      refine call_of (o1 _ _) ?_
      simp only [↓R1, R2, R3, R4, TY, reduceIte, Nat.reduceEqDiff, Nat.reduceAdd, Nat.reduceMul, Nat.reduceLT, Nat.reduceLeDiff, reduceCtorEq, decide_true, decide_false, Int.reduceLE, Int.reduceLT, Int.reduceToNat, Int.reduceAdd, Int.reduceSub, Int.reduceMul, Int.reduceEq, hfl, hfl1, hfl2, hfl3, hfl4, hfl5, hfl6, NE, NE9, Nat.add_assoc, rcmp_lt_iff, rcmp_gt_iff, rsign_gt_iff, rcmp_zero, ex9_0, ex9_1, ex9_2, w_1, w_2, w_3, w_4, n_2, n_3, n_4, e1]
      exact Ended.back hA (by simp (maxDischargeDepth := 20) only [xt_push, xt_put, xt_refl, Nat.le_refl, Nat.le_add_right, Nat.add_assoc, Nat.reduceAdd]) rfl (RB.bool _)
    · have e1 := eq_false c1
      by_cases c2 : P.b < g
      · have e2 := eq_true c2
        rw [show inPo P false g h i = false from by unfold inPo; simp only [Bool.not_false, Bool.true_and, Bool.and_eq_false_iff, decide_eq_false_iff_not]; grind]
        simp only [↓R1, R2, R3, R4, TY, reduceIte, Nat.reduceEqDiff, Nat.reduceAdd, Nat.reduceMul, Nat.reduceLT, Nat.reduceLeDiff, reduceCtorEq, decide_true, decide_false, Int.reduceLE, Int.reduceLT, Int.reduceToNat, Int.reduceAdd, Int.reduceSub, Int.reduceMul, Int.reduceEq, hfl, hfl1, hfl2, hfl3, hfl4, hfl5, hfl6, NE, NE9, Nat.add_assoc, rcmp_lt_iff, rcmp_gt_iff, rsign_gt_iff, rcmp_zero, ex9_0, ex9_1, ex9_2, w_1, w_2, w_3, w_4, n_2, n_3, n_4, e1, e2]
        refine call_of (fr _ _) ?_
        simp only [↓R1, R2, R3, R4, TY, reduceIte, Nat.reduceEqDiff, Nat.reduceAdd, Nat.reduceMul, Nat.reduceLT, Nat.reduceLeDiff, reduceCtorEq, decide_true, decide_false, Int.reduceLE, Int.reduceLT, Int.reduceToNat, Int.reduceAdd, Int.reduceSub, Int.reduceMul, Int.reduceEq, hfl, hfl1, hfl2, hfl3, hfl4, hfl5, hfl6, NE, NE9, Nat.add_assoc, rcmp_lt_iff, rcmp_gt_iff, rsign_gt_iff, rcmp_zero, ex9_0, ex9_1, ex9_2, w_1, w_2, w_3, w_4, n_2, n_3, n_4, e1, e2]
        refine unroll_of [(), (), (), ()] ?_
        simp only [↓R1, R2, R3, R4, TY, reduceIte, Nat.reduceEqDiff, Nat.reduceAdd, Nat.reduceMul, Nat.reduceLT, Nat.reduceLeDiff, reduceCtorEq, decide_true, decide_false, Int.reduceLE, Int.reduceLT, Int.reduceToNat, Int.reduceAdd, Int.reduceSub, Int.reduceMul, Int.reduceEq, hfl, hfl1, hfl2, hfl3, hfl4, hfl5, hfl6, NE, NE9, Nat.add_assoc, rcmp_lt_iff, rcmp_gt_iff, rsign_gt_iff, rcmp_zero, ex9_0, ex9_1, ex9_2, w_1, w_2, w_3, w_4, n_2, n_3, n_4, e1, e2]
        refine call_of (o1 _ _) ?_
        simp only [↓R1, R2, R3, R4, TY, reduceIte, Nat.reduceEqDiff, Nat.reduceAdd, Nat.reduceMul, Nat.reduceLT, Nat.reduceLeDiff, reduceCtorEq, decide_true, decide_false, Int.reduceLE, Int.reduceLT, Int.reduceToNat, Int.reduceAdd, Int.reduceSub, Int.reduceMul, Int.reduceEq, hfl, hfl1, hfl2, hfl3, hfl4, hfl5, hfl6, NE, NE9, Nat.add_assoc, rcmp_lt_iff, rcmp_gt_iff, rsign_gt_iff, rcmp_zero, ex9_0, ex9_1, ex9_2, w_1, w_2, w_3, w_4, n_2, n_3, n_4, e1, e2]
        refine call_of (o2 _ _) ?_
        simp only [↓R1, R2, R3, R4, TY, reduceIte, Nat.reduceEqDiff, Nat.reduceAdd, Nat.reduceMul, Nat.reduceLT, Nat.reduceLeDiff, reduceCtorEq, decide_true, decide_false, Int.reduceLE, Int.reduceLT, Int.reduceToNat, Int.reduceAdd, Int.reduceSub, Int.reduceMul, Int.reduceEq, hfl, hfl1, hfl2, hfl3, hfl4, hfl5, hfl6, NE, NE9, Nat.add_assoc, rcmp_lt_iff, rcmp_gt_iff, rsign_gt_iff, rcmp_zero, ex9_0, ex9_1, ex9_2, w_1, w_2, w_3, w_4, n_2, n_3, n_4, e1, e2]
        exact Ended.back hA (by simp (maxDischargeDepth := 20) only [xt_push, xt_put, xt_refl, Nat.le_refl, Nat.le_add_right, Nat.add_assoc, Nat.reduceAdd]) rfl (RB.bool _)
      · have e2 := eq_false c2
        by_cases c3 : h < P.c
        · have e3 := eq_true c3
          rw [show inPo P false g h i = false from by unfold inPo; simp only [Bool.not_false, Bool.true_and, Bool.and_eq_false_iff, decide_eq_false_iff_not]; grind]
          simp only [↓R1, R2, R3, R4, TY, reduceIte, Nat.reduceEqDiff, Nat.reduceAdd, Nat.reduceMul, Nat.reduceLT, Nat.reduceLeDiff, reduceCtorEq, decide_true, decide_false, Int.reduceLE, Int.reduceLT, Int.reduceToNat, Int.reduceAdd, Int.reduceSub, Int.reduceMul, Int.reduceEq, hfl, hfl1, hfl2, hfl3, hfl4, hfl5, hfl6, NE, NE9, Nat.add_assoc, rcmp_lt_iff, rcmp_gt_iff, rsign_gt_iff, rcmp_zero, ex9_0, ex9_1, ex9_2, w_1, w_2, w_3, w_4, n_2, n_3, n_4, e1, e2, e3]
          refine call_of (fr _ _) ?_
          simp only [↓R1, R2, R3, R4, TY, reduceIte, Nat.reduceEqDiff, Nat.reduceAdd, Nat.reduceMul, Nat.reduceLT, Nat.reduceLeDiff, reduceCtorEq, decide_true, decide_false, Int.reduceLE, Int.reduceLT, Int.reduceToNat, Int.reduceAdd, Int.reduceSub, Int.reduceMul, Int.reduceEq, hfl, hfl1, hfl2, hfl3, hfl4, hfl5, hfl6, NE, NE9, Nat.add_assoc, rcmp_lt_iff, rcmp_gt_iff, rsign_gt_iff, rcmp_zero, ex9_0, ex9_1, ex9_2, w_1, w_2, w_3, w_4, n_2, n_3, n_4, e1, e2, e3]
          refine unroll_of [(), (), (), ()] ?_
          simp only [↓R1, R2, R3, R4, TY, reduceIte, Nat.reduceEqDiff, Nat.reduceAdd, Nat.reduceMul, Nat.reduceLT, Nat.reduceLeDiff, reduceCtorEq, decide_true, decide_false, Int.reduceLE, Int.reduceLT, Int.reduceToNat, Int.reduceAdd, Int.reduceSub, Int.reduceMul, Int.reduceEq, hfl, hfl1, hfl2, hfl3, hfl4, hfl5, hfl6, NE, NE9, Nat.add_assoc, rcmp_lt_iff, rcmp_gt_iff, rsign_gt_iff, rcmp_zero, ex9_0, ex9_1, ex9_2, w_1, w_2, w_3, w_4, n_2, n_3, n_4, e1, e2, e3]
          refine call_of (o1 _ _) ?_
          simp only [↓R1, R2, R3, R4, TY, reduceIte, Nat.reduceEqDiff, Nat.reduceAdd, Nat.reduceMul, Nat.reduceLT, Nat.reduceLeDiff, reduceCtorEq, decide_true, decide_false, Int.reduceLE, Int.reduceLT, Int.reduceToNat, Int.reduceAdd, Int.reduceSub, Int.reduceMul, Int.reduceEq, hfl, hfl1, hfl2, hfl3, hfl4, hfl5, hfl6, NE, NE9, Nat.add_assoc, rcmp_lt_iff, rcmp_gt_iff, rsign_gt_iff, rcmp_zero, ex9_0, ex9_1, ex9_2, w_1, w_2, w_3, w_4, n_2, n_3, n_4, e1, e2, e3]
          refine call_of (o2 _ _) ?_
          simp only [↓R1, R2, R3, R4, TY, reduceIte, Nat.reduceEqDiff, Nat.reduceAdd, Nat.reduceMul, Nat.reduceLT, Nat.reduceLeDiff, reduceCtorEq, decide_true, decide_false, Int.reduceLE, Int.reduceLT, Int.reduceToNat, Int.reduceAdd, Int.reduceSub, Int.reduceMul, Int.reduceEq, hfl, hfl1, hfl2, hfl3, hfl4, hfl5, hfl6, NE, NE9, Nat.add_assoc, rcmp_lt_iff, rcmp_gt_iff, rsign_gt_iff, rcmp_zero, ex9_0, ex9_1, ex9_2, w_1, w_2, w_3, w_4, n_2, n_3, n_4, e1, e2, e3]
          refine call_of (o3 _ _) ?_
          simp only [↓R1, R2, R3, R4, TY, reduceIte, Nat.reduceEqDiff, Nat.reduceAdd, Nat.reduceMul, Nat.reduceLT, Nat.reduceLeDiff, reduceCtorEq, decide_true, decide_false, Int.reduceLE, Int.reduceLT, Int.reduceToNat, Int.reduceAdd, Int.reduceSub, Int.reduceMul, Int.reduceEq, hfl, hfl1, hfl2, hfl3, hfl4, hfl5, hfl6, NE, NE9, Nat.add_assoc, rcmp_lt_iff, rcmp_gt_iff, rsign_gt_iff, rcmp_zero, ex9_0, ex9_1, ex9_2, w_1, w_2, w_3, w_4, n_2, n_3, n_4, e1, e2, e3]
          exact Ended.back hA (by simp (maxDischargeDepth := 20) only [xt_push, xt_put, xt_refl, Nat.le_refl, Nat.le_add_right, Nat.add_assoc, Nat.reduceAdd]) rfl (RB.bool _)
        · have e3 := eq_false c3
          by_cases c4 : P.d < h
          · have e4 := eq_true c4
            rw [show inPo P false g h i = false from by unfold inPo; simp only [Bool.not_false, Bool.true_and, Bool.and_eq_false_iff, decide_eq_false_iff_not]; grind]
            simp only [↓R1, R2, R3, R4, TY, reduceIte, Nat.reduceEqDiff, Nat.reduceAdd, Nat.reduceMul, Nat.reduceLT, Nat.reduceLeDiff, reduceCtorEq, decide_true, decide_false, Int.reduceLE, Int.reduceLT, Int.reduceToNat, Int.reduceAdd, Int.reduceSub, Int.reduceMul, Int.reduceEq, hfl, hfl1, hfl2, hfl3, hfl4, hfl5, hfl6, NE, NE9, Nat.add_assoc, rcmp_lt_iff, rcmp_gt_iff, rsign_gt_iff, rcmp_zero, ex9_0, ex9_1, ex9_2, w_1, w_2, w_3, w_4, n_2, n_3, n_4, e1, e2, e3, e4]
            refine call_of (fr _ _) ?_
            simp only [↓R1, R2, R3, R4, TY, reduceIte, Nat.reduceEqDiff, Nat.reduceAdd, Nat.reduceMul, Nat.reduceLT, Nat.reduceLeDiff, reduceCtorEq, decide_true, decide_false, Int.reduceLE, Int.reduceLT, Int.reduceToNat, Int.reduceAdd, Int.reduceSub, Int.reduceMul, Int.reduceEq, hfl, hfl1, hfl2, hfl3, hfl4, hfl5, hfl6, NE, NE9, Nat.add_assoc, rcmp_lt_iff, rcmp_gt_iff, rsign_gt_iff, rcmp_zero, ex9_0, ex9_1, ex9_2, w_1, w_2, w_3, w_4, n_2, n_3, n_4, e1, e2, e3, e4]
            refine unroll_of [(), (), (), ()] ?_
            simp only [↓R1, R2, R3, R4, TY, reduceIte, Nat.reduceEqDiff, Nat.reduceAdd, Nat.reduceMul, Nat.reduceLT, Nat.reduceLeDiff, reduceCtorEq, decide_true, decide_false, Int.reduceLE, Int.reduceLT, Int.reduceToNat, Int.reduceAdd, Int.reduceSub, Int.reduceMul, Int.reduceEq, hfl, hfl1, hfl2, hfl3, hfl4, hfl5, hfl6, NE, NE9, Nat.add_assoc, rcmp_lt_iff, rcmp_gt_iff, rsign_gt_iff, rcmp_zero, ex9_0, ex9_1, ex9_2, w_1, w_2, w_3, w_4, n_2, n_3, n_4, e1, e2, e3, e4]
            refine call_of (o1 _ _) ?_
            simp only [↓R1, R2, R3, R4, TY, reduceIte, Nat.reduceEqDiff, Nat.reduceAdd, Nat.reduceMul, Nat.reduceLT, Nat.reduceLeDiff, reduceCtorEq, decide_true, decide_false, Int.reduceLE, Int.reduceLT, Int.reduceToNat, Int.reduceAdd, Int.reduceSub, Int.reduceMul, Int.reduceEq, hfl, hfl1, hfl2, hfl3, hfl4, hfl5, hfl6, NE, NE9, Nat.add_assoc, rcmp_lt_iff, rcmp_gt_iff, rsign_gt_iff, rcmp_zero, ex9_0, ex9_1, ex9_2, w_1, w_2, w_3, w_4, n_2, n_3, n_4, e1, e2, e3, e4]
            refine call_of (o2 _ _) ?_
            simp only [↓R1, R2, R3, R4, TY, reduceIte, Nat.reduceEqDiff, Nat.reduceAdd, Nat.reduceMul, Nat.reduceLT, Nat.reduceLeDiff, reduceCtorEq, decide_true, decide_false, Int.reduceLE, Int.reduceLT, Int.reduceToNat, Int.reduceAdd, Int.reduceSub, Int.reduceMul, Int.reduceEq, hfl, hfl1, hfl2, hfl3, hfl4, hfl5, hfl6, NE, NE9, Nat.add_assoc, rcmp_lt_iff, rcmp_gt_iff, rsign_gt_iff, rcmp_zero, ex9_0, ex9_1, ex9_2, w_1, w_2, w_3, w_4, n_2, n_3, n_4, e1, e2, e3, e4]
            refine call_of (o3 _ _) ?_
            simp only [↓R1, R2, R3, R4, TY, reduceIte, Nat.reduceEqDiff, Nat.reduceAdd, Nat.reduceMul, Nat.reduceLT, Nat.reduceLeDiff, reduceCtorEq, decide_true, decide_false, Int.reduceLE, Int.reduceLT, Int.reduceToNat, Int.reduceAdd, Int.reduceSub, Int.reduceMul, Int.reduceEq, hfl, hfl1, hfl2, hfl3, hfl4, hfl5, hfl6, NE, NE9, Nat.add_assoc, rcmp_lt_iff, rcmp_gt_iff, rsign_gt_iff, rcmp_zero, ex9_0, ex9_1, ex9_2, w_1, w_2, w_3, w_4, n_2, n_3, n_4, e1, e2, e3, e4]
            refine call_of (o4 _ _) ?_
            simp only [↓R1, R2, R3, R4, TY, reduceIte, Nat.reduceEqDiff, Nat.reduceAdd, Nat.reduceMul, Nat.reduceLT, Nat.reduceLeDiff, reduceCtorEq, decide_true, decide_false, Int.reduceLE, Int.reduceLT, Int.reduceToNat, Int.reduceAdd, Int.reduceSub, Int.reduceMul, Int.reduceEq, hfl, hfl1, hfl2, hfl3, hfl4, hfl5, hfl6, NE, NE9, Nat.add_assoc, rcmp_lt_iff, rcmp_gt_iff, rsign_gt_iff, rcmp_zero, ex9_0, ex9_1, ex9_2, w_1, w_2, w_3, w_4, n_2, n_3, n_4, e1, e2, e3, e4]
            exact Ended.back hA (by simp (maxDischargeDepth := 20) only [xt_push, xt_put, xt_refl, Nat.le_refl, Nat.le_add_right, Nat.add_assoc, Nat.reduceAdd]) rfl (RB.bool _)
          · have e4 := eq_false c4
            by_cases c5 : i < P.e
            · have e5 := eq_true c5
              rw [show inPo P false g h i = false from by unfold inPo; simp only [Bool.not_false, Bool.true_and, Bool.and_eq_false_iff, decide_eq_false_iff_not]; grind]
              simp only [↓R1, R2, R3, R4, TY, reduceIte, Nat.reduceEqDiff, Nat.reduceAdd, Nat.reduceMul, Nat.reduceLT, Nat.reduceLeDiff, reduceCtorEq, decide_true, decide_false, Int.reduceLE, Int.reduceLT, Int.reduceToNat, Int.reduceAdd, Int.reduceSub, Int.reduceMul, Int.reduceEq, hfl, hfl1, hfl2, hfl3, hfl4, hfl5, hfl6, NE, NE9, Nat.add_assoc, rcmp_lt_iff, rcmp_gt_iff, rsign_gt_iff, rcmp_zero, ex9_0, ex9_1, ex9_2, w_1, w_2, w_3, w_4, n_2, n_3, n_4, e1, e2, e3, e4, e5]
              refine call_of (fr _ _) ?_
              simp only [↓R1, R2, R3, R4, TY, reduceIte, Nat.reduceEqDiff, Nat.reduceAdd, Nat.reduceMul, Nat.reduceLT, Nat.reduceLeDiff, reduceCtorEq, decide_true, decide_false, Int.reduceLE, Int.reduceLT, Int.reduceToNat, Int.reduceAdd, Int.reduceSub, Int.reduceMul, Int.reduceEq, hfl, hfl1, hfl2, hfl3, hfl4, hfl5, hfl6, NE, NE9, Nat.add_assoc, rcmp_lt_iff, rcmp_gt_iff, rsign_gt_iff, rcmp_zero, ex9_0, ex9_1, ex9_2, w_1, w_2, w_3, w_4, n_2, n_3, n_4, e1, e2, e3, e4, e5]
              refine unroll_of [(), (), (), ()] ?_
              simp only [↓R1, R2, R3, R4, TY, reduceIte, Nat.reduceEqDiff, Nat.reduceAdd, Nat.reduceMul, Nat.reduceLT, Nat.reduceLeDiff, reduceCtorEq, decide_true, decide_false, Int.reduceLE, Int.reduceLT, Int.reduceToNat, Int.reduceAdd, Int.reduceSub, Int.reduceMul, Int.reduceEq, hfl, hfl1, hfl2, hfl3, hfl4, hfl5, hfl6, NE, NE9, Nat.add_assoc, rcmp_lt_iff, rcmp_gt_iff, rsign_gt_iff, rcmp_zero, ex9_0, ex9_1, ex9_2, w_1, w_2, w_3, w_4, n_2, n_3, n_4, e1, e2, e3, e4, e5]
              refine call_of (o1 _ _) ?_
              simp only [↓R1, R2, R3, R4, TY, reduceIte, Nat.reduceEqDiff, Nat.reduceAdd, Nat.reduceMul, Nat.reduceLT, Nat.reduceLeDiff, reduceCtorEq, decide_true, decide_false, Int.reduceLE, Int.reduceLT, Int.reduceToNat, Int.reduceAdd, Int.reduceSub, Int.reduceMul, Int.reduceEq, hfl, hfl1, hfl2, hfl3, hfl4, hfl5, hfl6, NE, NE9, Nat.add_assoc, rcmp_lt_iff, rcmp_gt_iff, rsign_gt_iff, rcmp_zero, ex9_0, ex9_1, ex9_2, w_1, w_2, w_3, w_4, n_2, n_3, n_4, e1, e2, e3, e4, e5]
              refine call_of (o2 _ _) ?_
              simp only [↓R1, R2, R3, R4, TY, reduceIte, Nat.reduceEqDiff, Nat.reduceAdd, Nat.reduceMul, Nat.reduceLT, Nat.reduceLeDiff, reduceCtorEq, decide_true, decide_false, Int.reduceLE, Int.reduceLT, Int.reduceToNat, Int.reduceAdd, Int.reduceSub, Int.reduceMul, Int.reduceEq, hfl, hfl1, hfl2, hfl3, hfl4, hfl5, hfl6, NE, NE9, Nat.add_assoc, rcmp_lt_iff, rcmp_gt_iff, rsign_gt_iff, rcmp_zero, ex9_0, ex9_1, ex9_2, w_1, w_2, w_3, w_4, n_2, n_3, n_4, e1, e2, e3, e4, e5]
              refine call_of (o3 _ _) ?_
              simp only [↓R1, R2, R3, R4, TY, reduceIte, Nat.reduceEqDiff, Nat.reduceAdd, Nat.reduceMul, Nat.reduceLT, Nat.reduceLeDiff, reduceCtorEq, decide_true, decide_false, Int.reduceLE, Int.reduceLT, Int.reduceToNat, Int.reduceAdd, Int.reduceSub, Int.reduceMul, Int.reduceEq, hfl, hfl1, hfl2, hfl3, hfl4, hfl5, hfl6, NE, NE9, Nat.add_assoc, rcmp_lt_iff, rcmp_gt_iff, rsign_gt_iff, rcmp_zero, ex9_0, ex9_1, ex9_2, w_1, w_2, w_3, w_4, n_2, n_3, n_4, e1, e2, e3, e4, e5]
              refine call_of (o4 _ _) ?_
              simp only [↓R1, R2, R3, R4, TY, reduceIte, Nat.reduceEqDiff, Nat.reduceAdd, Nat.reduceMul, Nat.reduceLT, Nat.reduceLeDiff, reduceCtorEq, decide_true, decide_false, Int.reduceLE, Int.reduceLT, Int.reduceToNat, Int.reduceAdd, Int.reduceSub, Int.reduceMul, Int.reduceEq, hfl, hfl1, hfl2, hfl3, hfl4, hfl5, hfl6, NE, NE9, Nat.add_assoc, rcmp_lt_iff, rcmp_gt_iff, rsign_gt_iff, rcmp_zero, ex9_0, ex9_1, ex9_2, w_1, w_2, w_3, w_4, n_2, n_3, n_4, e1, e2, e3, e4, e5]
              refine call_of (o5 _ _) ?_
              simp only [↓R1, R2, R3, R4, TY, reduceIte, Nat.reduceEqDiff, Nat.reduceAdd, Nat.reduceMul, Nat.reduceLT, Nat.reduceLeDiff, reduceCtorEq, decide_true, decide_false, Int.reduceLE, Int.reduceLT, Int.reduceToNat, Int.reduceAdd, Int.reduceSub, Int.reduceMul, Int.reduceEq, hfl, hfl1, hfl2, hfl3, hfl4, hfl5, hfl6, NE, NE9, Nat.add_assoc, rcmp_lt_iff, rcmp_gt_iff, rsign_gt_iff, rcmp_zero, ex9_0, ex9_1, ex9_2, w_1, w_2, w_3, w_4, n_2, n_3, n_4, e1, e2, e3, e4, e5]
              exact Ended.back hA (by simp (maxDischargeDepth := 20) only [xt_push, xt_put, xt_refl, Nat.le_refl, Nat.le_add_right, Nat.add_assoc, Nat.reduceAdd]) rfl (RB.bool _)
            · have e5 := eq_false c5
              by_cases c6 : P.f < i
              · have e6 := eq_true c6
                rw [show inPo P false g h i = false from by unfold inPo; simp only [Bool.not_false, Bool.true_and, Bool.and_eq_false_iff, decide_eq_false_iff_not]; grind]
                simp only [↓R1, R2, R3, R4, TY, reduceIte, Nat.reduceEqDiff, Nat.reduceAdd, Nat.reduceMul, Nat.reduceLT, Nat.reduceLeDiff, reduceCtorEq, decide_true, decide_false, Int.reduceLE, Int.reduceLT, Int.reduceToNat, Int.reduceAdd, Int.reduceSub, Int.reduceMul, Int.reduceEq, hfl, hfl1, hfl2, hfl3, hfl4, hfl5, hfl6, NE, NE9, Nat.add_assoc, rcmp_lt_iff, rcmp_gt_iff, rsign_gt_iff, rcmp_zero, ex9_0, ex9_1, ex9_2, w_1, w_2, w_3, w_4, n_2, n_3, n_4, e1, e2, e3, e4, e5, e6]
                refine call_of (fr _ _) ?_
                simp only [↓R1, R2, R3, R4, TY, reduceIte, Nat.reduceEqDiff, Nat.reduceAdd, Nat.reduceMul, Nat.reduceLT, Nat.reduceLeDiff, reduceCtorEq, decide_true, decide_false, Int.reduceLE, Int.reduceLT, Int.reduceToNat, Int.reduceAdd, Int.reduceSub, Int.reduceMul, Int.reduceEq, hfl, hfl1, hfl2, hfl3, hfl4, hfl5, hfl6, NE, NE9, Nat.add_assoc, rcmp_lt_iff, rcmp_gt_iff, rsign_gt_iff, rcmp_zero, ex9_0, ex9_1, ex9_2, w_1, w_2, w_3, w_4, n_2, n_3, n_4, e1, e2, e3, e4, e5, e6]
                refine unroll_of [(), (), (), ()] ?_
                simp only [↓R1, R2, R3, R4, TY, reduceIte, Nat.reduceEqDiff, Nat.reduceAdd, Nat.reduceMul, Nat.reduceLT, Nat.reduceLeDiff, reduceCtorEq, decide_true, decide_false, Int.reduceLE, Int.reduceLT, Int.reduceToNat, Int.reduceAdd, Int.reduceSub, Int.reduceMul, Int.reduceEq, hfl, hfl1, hfl2, hfl3, hfl4, hfl5, hfl6, NE, NE9, Nat.add_assoc, rcmp_lt_iff, rcmp_gt_iff, rsign_gt_iff, rcmp_zero, ex9_0, ex9_1, ex9_2, w_1, w_2, w_3, w_4, n_2, n_3, n_4, e1, e2, e3, e4, e5, e6]
                refine call_of (o1 _ _) ?_
                simp only [↓R1, R2, R3, R4, TY, reduceIte, Nat.reduceEqDiff, Nat.reduceAdd, Nat.reduceMul, Nat.reduceLT, Nat.reduceLeDiff, reduceCtorEq, decide_true, decide_false, Int.reduceLE, Int.reduceLT, Int.reduceToNat, Int.reduceAdd, Int.reduceSub, Int.reduceMul, Int.reduceEq, hfl, hfl1, hfl2, hfl3, hfl4, hfl5, hfl6, NE, NE9, Nat.add_assoc, rcmp_lt_iff, rcmp_gt_iff, rsign_gt_iff, rcmp_zero, ex9_0, ex9_1, ex9_2, w_1, w_2, w_3, w_4, n_2, n_3, n_4, e1, e2, e3, e4, e5, e6]
                refine call_of (o2 _ _) ?_
                simp only [↓R1, R2, R3, R4, TY, reduceIte, Nat.reduceEqDiff, Nat.reduceAdd, Nat.reduceMul, Nat.reduceLT, Nat.reduceLeDiff, reduceCtorEq, decide_true, decide_false, Int.reduceLE, Int.reduceLT, Int.reduceToNat, Int.reduceAdd, Int.reduceSub, Int.reduceMul, Int.reduceEq, hfl, hfl1, hfl2, hfl3, hfl4, hfl5, hfl6, NE, NE9, Nat.add_assoc, rcmp_lt_iff, rcmp_gt_iff, rsign_gt_iff, rcmp_zero, ex9_0, ex9_1, ex9_2, w_1, w_2, w_3, w_4, n_2, n_3, n_4, e1, e2, e3, e4, e5, e6]
                refine call_of (o3 _ _) ?_
                simp only [↓R1, R2, R3, R4, TY, reduceIte, Nat.reduceEqDiff, Nat.reduceAdd, Nat.reduceMul, Nat.reduceLT, Nat.reduceLeDiff, reduceCtorEq, decide_true, decide_false, Int.reduceLE, Int.reduceLT, Int.reduceToNat, Int.reduceAdd, Int.reduceSub, Int.reduceMul, Int.reduceEq, hfl, hfl1, hfl2, hfl3, hfl4, hfl5, hfl6, NE, NE9, Nat.add_assoc, rcmp_lt_iff, rcmp_gt_iff, rsign_gt_iff, rcmp_zero, ex9_0, ex9_1, ex9_2, w_1, w_2, w_3, w_4, n_2, n_3, n_4, e1, e2, e3, e4, e5, e6]
                refine call_of (o4 _ _) ?_
                simp only [↓R1, R2, R3, R4, TY, reduceIte, Nat.reduceEqDiff, Nat.reduceAdd, Nat.reduceMul, Nat.reduceLT, Nat.reduceLeDiff, reduceCtorEq, decide_true, decide_false, Int.reduceLE, Int.reduceLT, Int.reduceToNat, Int.reduceAdd, Int.reduceSub, Int.reduceMul, Int.reduceEq, hfl, hfl1, hfl2, hfl3, hfl4, hfl5, hfl6, NE, NE9, Nat.add_assoc, rcmp_lt_iff, rcmp_gt_iff, rsign_gt_iff, rcmp_zero, ex9_0, ex9_1, ex9_2, w_1, w_2, w_3, w_4, n_2, n_3, n_4, e1, e2, e3, e4, e5, e6]
                refine call_of (o5 _ _) ?_
                simp only [↓R1, R2, R3, R4, TY, reduceIte, Nat.reduceEqDiff, Nat.reduceAdd, Nat.reduceMul, Nat.reduceLT, Nat.reduceLeDiff, reduceCtorEq, decide_true, decide_false, Int.reduceLE, Int.reduceLT, Int.reduceToNat, Int.reduceAdd, Int.reduceSub, Int.reduceMul, Int.reduceEq, hfl, hfl1, hfl2, hfl3, hfl4, hfl5, hfl6, NE, NE9, Nat.add_assoc, rcmp_lt_iff, rcmp_gt_iff, rsign_gt_iff, rcmp_zero, ex9_0, ex9_1, ex9_2, w_1, w_2, w_3, w_4, n_2, n_3, n_4, e1, e2, e3, e4, e5, e6]
                refine call_of (o6 _ _) ?_
                simp only [↓R1, R2, R3, R4, TY, reduceIte, Nat.reduceEqDiff, Nat.reduceAdd, Nat.reduceMul, Nat.reduceLT, Nat.reduceLeDiff, reduceCtorEq, decide_true, decide_false, Int.reduceLE, Int.reduceLT, Int.reduceToNat, Int.reduceAdd, Int.reduceSub, Int.reduceMul, Int.reduceEq, hfl, hfl1, hfl2, hfl3, hfl4, hfl5, hfl6, NE, NE9, Nat.add_assoc, rcmp_lt_iff, rcmp_gt_iff, rsign_gt_iff, rcmp_zero, ex9_0, ex9_1, ex9_2, w_1, w_2, w_3, w_4, n_2, n_3, n_4, e1, e2, e3, e4, e5, e6]
                exact Ended.back hA (by simp (maxDischargeDepth := 20) only [xt_push, xt_put, xt_refl, Nat.le_refl, Nat.le_add_right, Nat.add_assoc, Nat.reduceAdd]) rfl (RB.bool _)
              · have e6 := eq_false c6
                rw [show inPo P false g h i = true from by unfold inPo; simp only [Bool.not_false, Bool.true_and, Bool.and_eq_true, decide_eq_true_eq]; grind]
                simp only [↓R1, R2, R3, R4, TY, reduceIte, Nat.reduceEqDiff, Nat.reduceAdd, Nat.reduceMul, Nat.reduceLT, Nat.reduceLeDiff, reduceCtorEq, decide_true, decide_false, Int.reduceLE, Int.reduceLT, Int.reduceToNat, Int.reduceAdd, Int.reduceSub, Int.reduceMul, Int.reduceEq, hfl, hfl1, hfl2, hfl3, hfl4, hfl5, hfl6, NE, NE9, Nat.add_assoc, rcmp_lt_iff, rcmp_gt_iff, rsign_gt_iff, rcmp_zero, ex9_0, ex9_1, ex9_2, w_1, w_2, w_3, w_4, n_2, n_3, n_4, e1, e2, e3, e4, e5, e6]
                refine call_of (fr _ _) ?_
                simp only [↓R1, R2, R3, R4, TY, reduceIte, Nat.reduceEqDiff, Nat.reduceAdd, Nat.reduceMul, Nat.reduceLT, Nat.reduceLeDiff, reduceCtorEq, decide_true, decide_false, Int.reduceLE, Int.reduceLT, Int.reduceToNat, Int.reduceAdd, Int.reduceSub, Int.reduceMul, Int.reduceEq, hfl, hfl1, hfl2, hfl3, hfl4, hfl5, hfl6, NE, NE9, Nat.add_assoc, rcmp_lt_iff, rcmp_gt_iff, rsign_gt_iff, rcmp_zero, ex9_0, ex9_1, ex9_2, w_1, w_2, w_3, w_4, n_2, n_3, n_4, e1, e2, e3, e4, e5, e6]
                refine unroll_of [(), (), (), ()] ?_
                simp only [↓R1, R2, R3, R4, TY, reduceIte, Nat.reduceEqDiff, Nat.reduceAdd, Nat.reduceMul, Nat.reduceLT, Nat.reduceLeDiff, reduceCtorEq, decide_true, decide_false, Int.reduceLE, Int.reduceLT, Int.reduceToNat, Int.reduceAdd, Int.reduceSub, Int.reduceMul, Int.reduceEq, hfl, hfl1, hfl2, hfl3, hfl4, hfl5, hfl6, NE, NE9, Nat.add_assoc, rcmp_lt_iff, rcmp_gt_iff, rsign_gt_iff, rcmp_zero, ex9_0, ex9_1, ex9_2, w_1, w_2, w_3, w_4, n_2, n_3, n_4, e1, e2, e3, e4, e5, e6]
                refine call_of (o1 _ _) ?_
                simp only [↓R1, R2, R3, R4, TY, reduceIte, Nat.reduceEqDiff, Nat.reduceAdd, Nat.reduceMul, Nat.reduceLT, Nat.reduceLeDiff, reduceCtorEq, decide_true, decide_false, Int.reduceLE, Int.reduceLT, Int.reduceToNat, Int.reduceAdd, Int.reduceSub, Int.reduceMul, Int.reduceEq, hfl, hfl1, hfl2, hfl3, hfl4, hfl5, hfl6, NE, NE9, Nat.add_assoc, rcmp_lt_iff, rcmp_gt_iff, rsign_gt_iff, rcmp_zero, ex9_0, ex9_1, ex9_2, w_1, w_2, w_3, w_4, n_2, n_3, n_4, e1, e2, e3, e4, e5, e6]
                refine call_of (o2 _ _) ?_
                simp only [↓R1, R2, R3, R4, TY, reduceIte, Nat.reduceEqDiff, Nat.reduceAdd, Nat.reduceMul, Nat.reduceLT, Nat.reduceLeDiff, reduceCtorEq, decide_true, decide_false, Int.reduceLE, Int.reduceLT, Int.reduceToNat, Int.reduceAdd, Int.reduceSub, Int.reduceMul, Int.reduceEq, hfl, hfl1, hfl2, hfl3, hfl4, hfl5, hfl6, NE, NE9, Nat.add_assoc, rcmp_lt_iff, rcmp_gt_iff, rsign_gt_iff, rcmp_zero, ex9_0, ex9_1, ex9_2, w_1, w_2, w_3, w_4, n_2, n_3, n_4, e1, e2, e3, e4, e5, e6]
                refine call_of (o3 _ _) ?_
                simp only [↓R1, R2, R3, R4, TY, reduceIte, Nat.reduceEqDiff, Nat.reduceAdd, Nat.reduceMul, Nat.reduceLT, Nat.reduceLeDiff, reduceCtorEq, decide_true, decide_false, Int.reduceLE, Int.reduceLT, Int.reduceToNat, Int.reduceAdd, Int.reduceSub, Int.reduceMul, Int.reduceEq, hfl, hfl1, hfl2, hfl3, hfl4, hfl5, hfl6, NE, NE9, Nat.add_assoc, rcmp_lt_iff, rcmp_gt_iff, rsign_gt_iff, rcmp_zero, ex9_0, ex9_1, ex9_2, w_1, w_2, w_3, w_4, n_2, n_3, n_4, e1, e2, e3, e4, e5, e6]
                refine call_of (o4 _ _) ?_
                simp only [↓R1, R2, R3, R4, TY, reduceIte, Nat.reduceEqDiff, Nat.reduceAdd, Nat.reduceMul, Nat.reduceLT, Nat.reduceLeDiff, reduceCtorEq, decide_true, decide_false, Int.reduceLE, Int.reduceLT, Int.reduceToNat, Int.reduceAdd, Int.reduceSub, Int.reduceMul, Int.reduceEq, hfl, hfl1, hfl2, hfl3, hfl4, hfl5, hfl6, NE, NE9, Nat.add_assoc, rcmp_lt_iff, rcmp_gt_iff, rsign_gt_iff, rcmp_zero, ex9_0, ex9_1, ex9_2, w_1, w_2, w_3, w_4, n_2, n_3, n_4, e1, e2, e3, e4, e5, e6]
                refine call_of (o5 _ _) ?_
                simp only [↓R1, R2, R3, R4, TY, reduceIte, Nat.reduceEqDiff, Nat.reduceAdd, Nat.reduceMul, Nat.reduceLT, Nat.reduceLeDiff, reduceCtorEq, decide_true, decide_false, Int.reduceLE, Int.reduceLT, Int.reduceToNat, Int.reduceAdd, Int.reduceSub, Int.reduceMul, Int.reduceEq, hfl, hfl1, hfl2, hfl3, hfl4, hfl5, hfl6, NE, NE9, Nat.add_assoc, rcmp_lt_iff, rcmp_gt_iff, rsign_gt_iff, rcmp_zero, ex9_0, ex9_1, ex9_2, w_1, w_2, w_3, w_4, n_2, n_3, n_4, e1, e2, e3, e4, e5, e6]
                refine call_of (o6 _ _) ?_
                simp only [↓R1, R2, R3, R4, TY, reduceIte, Nat.reduceEqDiff, Nat.reduceAdd, Nat.reduceMul, Nat.reduceLT, Nat.reduceLeDiff, reduceCtorEq, decide_true, decide_false, Int.reduceLE, Int.reduceLT, Int.reduceToNat, Int.reduceAdd, Int.reduceSub, Int.reduceMul, Int.reduceEq, hfl, hfl1, hfl2, hfl3, hfl4, hfl5, hfl6, NE, NE9, Nat.add_assoc, rcmp_lt_iff, rcmp_gt_iff, rsign_gt_iff, rcmp_zero, ex9_0, ex9_1, ex9_2, w_1, w_2, w_3, w_4, n_2, n_3, n_4, e1, e2, e3, e4, e5, e6]
                exact Ended.back hA (by simp (maxDischargeDepth := 20) only [xt_push, xt_put, xt_refl, Nat.le_refl, Nat.le_add_right, Nat.add_assoc, Nat.reduceAdd]) rfl (RB.bool _)

end
end Go.Proofs.YtjkimjmocfjjnaaDoor.Ab
