/- Spans as any bytes. -/
import Derived.Test.YtjkimjmocfjjnaaDoorQh
namespace Go.Proofs.YtjkimjmocfjjnaaDoor.Ab
open Go.RowKit
set_option linter.unusedVariables false
set_option linter.unusedSimpArgs false
set_option maxRecDepth 100000

section
variable {G : Gl} {fl : Nat} {A : Hp}

theorem RB.tuple2 {n : Nat} {v w : Value} (hv : RB n v) (hw : RB n w) : RB n (.tuple [v, w].toArray) := RB.tuple fun u hu => by
  simp only [List.mem_cons, List.not_mem_nil, or_false] at hu
  rcases hu with rfl | rfl
  · exact hv
  · exact hw

set_option maxHeartbeats 2000000 in
theorem goodS {a0 : Bool} {a1 a2 : List UInt8} {b0 : Bool} {b1 b2 : List UInt8} {oka okb : Bool} {p q : Rat} {k : Nat} (hG : G 1 = some tabV) (ra : Raw G a0 a1 a2 oka p k) (rb : Raw G b0 b1 b2 okb q k) (hk : 2 * k ≤ 10000000000) : Sound Tryd.prog G 85 [.agg #[.bool a0, .string (S a1), .string (S a2), .bool b0, .string (S b1), .string (S b2)]] fl A (.bool (oka && okb && decide (p ≤ q))) A := by
  refine Sound.of mixed Tryd.func85 Tryd.ntmps85 Tryd.results85 (by kernel_rfl) rfl (by kernel_rfl) (by kernel_rfl) fun hA => ?_
  have hfl : fl ≤ A.next := by have := hA.floor; omega
  have hfl1 : fl ≤ A.next + 1 := by have := hA.floor; omega
  have hfl2 : fl ≤ A.next + 2 := by have := hA.floor; omega
  have hfl3 : fl ≤ A.next + 3 := by have := hA.floor; omega
  have hfl4 : fl ≤ A.next + 4 := by have := hA.floor; omega
  have hfl5 : fl ≤ A.next + 5 := by have := hA.floor; omega
  have hfl6 : fl ≤ A.next + 6 := by have := hA.floor; omega
  cases oka with
  | false =>
    simp only [↓R1, R2, R3, R4, TY, reduceIte, Nat.reduceEqDiff, Nat.reduceAdd, Nat.reduceMul, Nat.reduceLT, Nat.reduceLeDiff, reduceCtorEq, decide_true, decide_false, Int.reduceLE, Int.reduceLT, Int.reduceToNat, Int.reduceAdd, Int.reduceSub, Int.reduceMul, Int.reduceEq, hfl, hfl1, hfl2, hfl3, hfl4, hfl5, hfl6, NE, NE9, Nat.add_assoc]
    refine call_of (ra.good _ _) ?_
    simp only [↓R1, R2, R3, R4, TY, reduceIte, Nat.reduceEqDiff, Nat.reduceAdd, Nat.reduceMul, Nat.reduceLT, Nat.reduceLeDiff, reduceCtorEq, decide_true, decide_false, Int.reduceLE, Int.reduceLT, Int.reduceToNat, Int.reduceAdd, Int.reduceSub, Int.reduceMul, Int.reduceEq, hfl, hfl1, hfl2, hfl3, hfl4, hfl5, hfl6, NE, NE9, Nat.add_assoc]
    exact Ended.back hA (by simp (maxDischargeDepth := 20) only [xt_push, xt_put, xt_refl, Nat.le_refl, Nat.le_add_right, Nat.add_assoc, Nat.reduceAdd]) rfl (RB.bool _)
  | true =>
    cases okb with
    | false =>
      simp only [↓R1, R2, R3, R4, TY, reduceIte, Nat.reduceEqDiff, Nat.reduceAdd, Nat.reduceMul, Nat.reduceLT, Nat.reduceLeDiff, reduceCtorEq, decide_true, decide_false, Int.reduceLE, Int.reduceLT, Int.reduceToNat, Int.reduceAdd, Int.reduceSub, Int.reduceMul, Int.reduceEq, hfl, hfl1, hfl2, hfl3, hfl4, hfl5, hfl6, NE, NE9, Nat.add_assoc]
      refine call_of (ra.good _ _) ?_
      simp only [↓R1, R2, R3, R4, TY, reduceIte, Nat.reduceEqDiff, Nat.reduceAdd, Nat.reduceMul, Nat.reduceLT, Nat.reduceLeDiff, reduceCtorEq, decide_true, decide_false, Int.reduceLE, Int.reduceLT, Int.reduceToNat, Int.reduceAdd, Int.reduceSub, Int.reduceMul, Int.reduceEq, hfl, hfl1, hfl2, hfl3, hfl4, hfl5, hfl6, NE, NE9, Nat.add_assoc]
      refine call_of (rb.good _ _) ?_
      simp only [↓R1, R2, R3, R4, TY, reduceIte, Nat.reduceEqDiff, Nat.reduceAdd, Nat.reduceMul, Nat.reduceLT, Nat.reduceLeDiff, reduceCtorEq, decide_true, decide_false, Int.reduceLE, Int.reduceLT, Int.reduceToNat, Int.reduceAdd, Int.reduceSub, Int.reduceMul, Int.reduceEq, hfl, hfl1, hfl2, hfl3, hfl4, hfl5, hfl6, NE, NE9, Nat.add_assoc]
      exact Ended.back hA (by simp (maxDischargeDepth := 20) only [xt_push, xt_put, xt_refl, Nat.le_refl, Nat.le_add_right, Nat.add_assoc, Nat.reduceAdd]) rfl (RB.bool _)
    | true =>
      have o1 := fun fl A => gcmp (G := G) (fl := fl) (A := A) hG ra.fit rb.fit ra.sz rb.sz (by omega)
      simp only [↓R1, R2, R3, R4, TY, reduceIte, Nat.reduceEqDiff, Nat.reduceAdd, Nat.reduceMul, Nat.reduceLT, Nat.reduceLeDiff, reduceCtorEq, decide_true, decide_false, Int.reduceLE, Int.reduceLT, Int.reduceToNat, Int.reduceAdd, Int.reduceSub, Int.reduceMul, Int.reduceEq, hfl, hfl1, hfl2, hfl3, hfl4, hfl5, hfl6, NE, NE9, Nat.add_assoc, rcmp_le_iff]
      refine call_of (ra.good _ _) ?_
      simp only [↓R1, R2, R3, R4, TY, reduceIte, Nat.reduceEqDiff, Nat.reduceAdd, Nat.reduceMul, Nat.reduceLT, Nat.reduceLeDiff, reduceCtorEq, decide_true, decide_false, Int.reduceLE, Int.reduceLT, Int.reduceToNat, Int.reduceAdd, Int.reduceSub, Int.reduceMul, Int.reduceEq, hfl, hfl1, hfl2, hfl3, hfl4, hfl5, hfl6, NE, NE9, Nat.add_assoc, rcmp_le_iff]
      refine call_of (rb.good _ _) ?_
      simp only [↓R1, R2, R3, R4, TY, reduceIte, Nat.reduceEqDiff, Nat.reduceAdd, Nat.reduceMul, Nat.reduceLT, Nat.reduceLeDiff, reduceCtorEq, decide_true, decide_false, Int.reduceLE, Int.reduceLT, Int.reduceToNat, Int.reduceAdd, Int.reduceSub, Int.reduceMul, Int.reduceEq, hfl, hfl1, hfl2, hfl3, hfl4, hfl5, hfl6, NE, NE9, Nat.add_assoc, rcmp_le_iff]
      refine call_of (o1 _ _) ?_
      simp only [↓R1, R2, R3, R4, TY, reduceIte, Nat.reduceEqDiff, Nat.reduceAdd, Nat.reduceMul, Nat.reduceLT, Nat.reduceLeDiff, reduceCtorEq, decide_true, decide_false, Int.reduceLE, Int.reduceLT, Int.reduceToNat, Int.reduceAdd, Int.reduceSub, Int.reduceMul, Int.reduceEq, hfl, hfl1, hfl2, hfl3, hfl4, hfl5, hfl6, NE, NE9, Nat.add_assoc, rcmp_le_iff]
      exact Ended.back hA (by simp (maxDischargeDepth := 20) only [xt_push, xt_put, xt_refl, Nat.le_refl, Nat.le_add_right, Nat.add_assoc, Nat.reduceAdd]) rfl (RB.bool _)

set_option maxHeartbeats 2000000 in
theorem fitS {a0 : Bool} {a1 a2 : List UInt8} {b0 : Bool} {b1 b2 : List UInt8} {oka okb : Bool} {p q : Rat} {k : Nat} {a b : Rat} (hG : G 1 = some tabV) (ra : Raw G a0 a1 a2 oka p k) (rb : Raw G b0 b1 b2 okb q k) (hk : 2 * k ≤ 10000000000) (e : if (oka && okb && decide (p ≤ q)) = true then a = p ∧ b = q else a = 0 ∧ b = 0) : Sound Tryd.prog G 86 [.agg #[.bool a0, .string (S a1), .string (S a2), .bool b0, .string (S b1), .string (S b2)]] fl A (prV a b) A := by
  refine Sound.of mixed Tryd.func86 Tryd.ntmps86 Tryd.results86 (by kernel_rfl) rfl (by kernel_rfl) (by kernel_rfl) fun hA => ?_
  have hfl : fl ≤ A.next := by have := hA.floor; omega
  have hfl1 : fl ≤ A.next + 1 := by have := hA.floor; omega
  have hfl2 : fl ≤ A.next + 2 := by have := hA.floor; omega
  have hfl3 : fl ≤ A.next + 3 := by have := hA.floor; omega
  have hfl4 : fl ≤ A.next + 4 := by have := hA.floor; omega
  have hfl5 : fl ≤ A.next + 5 := by have := hA.floor; omega
  have hfl6 : fl ≤ A.next + 6 := by have := hA.floor; omega
  have gd := fun fl A => goodS (G := G) (fl := fl) (A := A) hG ra rb hk
  have hrb := prV_rb A.next a b
  by_cases hg : (oka && okb && decide (p ≤ q)) = true
  · rw [if_pos hg] at e
    rw [hg] at gd
    simp only [Bool.and_eq_true] at hg
    obtain ⟨e1, e2, e3⟩ := ra.eq hg.1.1
    obtain ⟨e4, e5, e6⟩ := rb.eq hg.1.2
    rw [e.1, e.2, prV_def] at hrb ⊢
    rw [← e1, ← e2, ← e3, ← e4, ← e5, ← e6] at hrb ⊢
    simp only [↓R1, R2, R3, R4, TY, reduceIte, Nat.reduceEqDiff, Nat.reduceAdd, Nat.reduceMul, Nat.reduceLT, Nat.reduceLeDiff, reduceCtorEq, decide_true, decide_false, Int.reduceLE, Int.reduceLT, Int.reduceToNat, Int.reduceAdd, Int.reduceSub, Int.reduceMul, Int.reduceEq, hfl, hfl1, hfl2, hfl3, hfl4, hfl5, hfl6, NE, NE9, Nat.add_assoc]
    refine call_of (gd _ _) ?_
    simp only [↓R1, R2, R3, R4, TY, reduceIte, Nat.reduceEqDiff, Nat.reduceAdd, Nat.reduceMul, Nat.reduceLT, Nat.reduceLeDiff, reduceCtorEq, decide_true, decide_false, Int.reduceLE, Int.reduceLT, Int.reduceToNat, Int.reduceAdd, Int.reduceSub, Int.reduceMul, Int.reduceEq, hfl, hfl1, hfl2, hfl3, hfl4, hfl5, hfl6, NE, NE9, Nat.add_assoc]
    refine Ended.back hA ?_ rfl hrb
    simp (maxDischargeDepth := 20) only [xt_push, xt_put, xt_refl, Nat.le_refl, Nat.le_add_right, Nat.add_assoc, Nat.reduceAdd]
  · rw [if_neg hg] at e
    rw [show (oka && okb && decide (p ≤ q)) = false from by simpa using hg] at gd
    have hz : prV 0 0 = .agg #[.bool false, .string (S []), .string (S [1]), .bool false, .string (S []), .string (S [1])] := by rw [prV_def]; simp only [show (0 : Rat).num = 0 from rfl, show (0 : Rat).den = 1 from rfl, nb_one, show (0 : Int).natAbs = 0 from rfl, nb_zero, Int.lt_irrefl, decide_false]
    have hq : ratV 0 = .agg #[.bool false, .string (S []), .string (S [1])] := by rw [ratV_def]; simp only [show (0 : Rat).num = 0 from rfl, show (0 : Rat).den = 1 from rfl, nb_one, show (0 : Int).natAbs = 0 from rfl, nb_zero, Int.lt_irrefl, decide_false]
    have z0 := fun fl A => rof_ok (G := G) (fl := fl) (A := A) (n := 0) (by decide) (by decide)
    have s0 := fun fl A => sof (G := G) (fl := fl) (A := A) (a := 0) hG rz_zero (by omega)
    rw [rOf_zero, hq] at z0
    rw [hq, hz] at s0
    rw [e.1, e.2, hz] at hrb ⊢
    simp only [↓R1, R2, R3, R4, TY, reduceIte, Nat.reduceEqDiff, Nat.reduceAdd, Nat.reduceMul, Nat.reduceLT, Nat.reduceLeDiff, reduceCtorEq, decide_true, decide_false, Int.reduceLE, Int.reduceLT, Int.reduceToNat, Int.reduceAdd, Int.reduceSub, Int.reduceMul, Int.reduceEq, hfl, hfl1, hfl2, hfl3, hfl4, hfl5, hfl6, NE, NE9, Nat.add_assoc]
    refine call_of (gd _ _) ?_
    simp only [↓R1, R2, R3, R4, TY, reduceIte, Nat.reduceEqDiff, Nat.reduceAdd, Nat.reduceMul, Nat.reduceLT, Nat.reduceLeDiff, reduceCtorEq, decide_true, decide_false, Int.reduceLE, Int.reduceLT, Int.reduceToNat, Int.reduceAdd, Int.reduceSub, Int.reduceMul, Int.reduceEq, hfl, hfl1, hfl2, hfl3, hfl4, hfl5, hfl6, NE, NE9, Nat.add_assoc]
    refine call_of (z0 _ _) ?_
    simp only [↓R1, R2, R3, R4, TY, reduceIte, Nat.reduceEqDiff, Nat.reduceAdd, Nat.reduceMul, Nat.reduceLT, Nat.reduceLeDiff, reduceCtorEq, decide_true, decide_false, Int.reduceLE, Int.reduceLT, Int.reduceToNat, Int.reduceAdd, Int.reduceSub, Int.reduceMul, Int.reduceEq, hfl, hfl1, hfl2, hfl3, hfl4, hfl5, hfl6, NE, NE9, Nat.add_assoc]
    refine call_of (s0 _ _) ?_
    simp only [↓R1, R2, R3, R4, TY, reduceIte, Nat.reduceEqDiff, Nat.reduceAdd, Nat.reduceMul, Nat.reduceLT, Nat.reduceLeDiff, reduceCtorEq, decide_true, decide_false, Int.reduceLE, Int.reduceLT, Int.reduceToNat, Int.reduceAdd, Int.reduceSub, Int.reduceMul, Int.reduceEq, hfl, hfl1, hfl2, hfl3, hfl4, hfl5, hfl6, NE, NE9, Nat.add_assoc]
    refine Ended.back hA ?_ rfl hrb
    simp (maxDischargeDepth := 20) only [xt_push, xt_put, xt_refl, Nat.le_refl, Nat.le_add_right, Nat.add_assoc, Nat.reduceAdd]

set_option maxHeartbeats 2000000 in
theorem normS {a0 : Bool} {a1 a2 : List UInt8} {b0 : Bool} {b1 b2 : List UInt8} {oka okb : Bool} {p q : Rat} {k : Nat} {a b : Rat} (hG : G 1 = some tabV) (ra : Raw G a0 a1 a2 oka p k) (rb : Raw G b0 b1 b2 okb q k) (hk : 2 * k ≤ 10000000000) (e : if (oka && okb && decide (p ≤ q)) = true then a = p ∧ b = q else a = 0 ∧ b = 0) : Sound Tryd.prog G 61 [.agg #[.bool a0, .string (S a1), .string (S a2), .bool b0, .string (S b1), .string (S b2)]] fl A (prV a b) A := by
  refine Sound.of mixed Tryd.func61 Tryd.ntmps61 Tryd.results61 (by kernel_rfl) rfl (by kernel_rfl) (by kernel_rfl) fun hA => ?_
  have hfl : fl ≤ A.next := by have := hA.floor; omega
  have hfl1 : fl ≤ A.next + 1 := by have := hA.floor; omega
  have hfl2 : fl ≤ A.next + 2 := by have := hA.floor; omega
  have hfl3 : fl ≤ A.next + 3 := by have := hA.floor; omega
  have hfl4 : fl ≤ A.next + 4 := by have := hA.floor; omega
  have hfl5 : fl ≤ A.next + 5 := by have := hA.floor; omega
  have hfl6 : fl ≤ A.next + 6 := by have := hA.floor; omega
  have gd := fun fl A => goodS (G := G) (fl := fl) (A := A) hG ra rb hk
  have hrb := prV_rb A.next a b
  by_cases hg : (oka && okb && decide (p ≤ q)) = true
  · rw [if_pos hg] at e
    rw [hg] at gd
    simp only [Bool.and_eq_true] at hg
    obtain ⟨e1, e2, e3⟩ := ra.eq hg.1.1
    obtain ⟨e4, e5, e6⟩ := rb.eq hg.1.2
    rw [e.1, e.2, prV_def] at hrb ⊢
    rw [← e1, ← e2, ← e3, ← e4, ← e5, ← e6] at hrb ⊢
    simp only [↓R1, R2, R3, R4, TY, reduceIte, Nat.reduceEqDiff, Nat.reduceAdd, Nat.reduceMul, Nat.reduceLT, Nat.reduceLeDiff, reduceCtorEq, decide_true, decide_false, Int.reduceLE, Int.reduceLT, Int.reduceToNat, Int.reduceAdd, Int.reduceSub, Int.reduceMul, Int.reduceEq, hfl, hfl1, hfl2, hfl3, hfl4, hfl5, hfl6, NE, NE9, Nat.add_assoc]
    refine call_of (gd _ _) ?_
    simp only [↓R1, R2, R3, R4, TY, reduceIte, Nat.reduceEqDiff, Nat.reduceAdd, Nat.reduceMul, Nat.reduceLT, Nat.reduceLeDiff, reduceCtorEq, decide_true, decide_false, Int.reduceLE, Int.reduceLT, Int.reduceToNat, Int.reduceAdd, Int.reduceSub, Int.reduceMul, Int.reduceEq, hfl, hfl1, hfl2, hfl3, hfl4, hfl5, hfl6, NE, NE9, Nat.add_assoc]
    refine Ended.back hA ?_ rfl hrb
    simp (maxDischargeDepth := 20) only [xt_push, xt_put, xt_refl, Nat.le_refl, Nat.le_add_right, Nat.add_assoc, Nat.reduceAdd]
  · rw [if_neg hg] at e
    rw [show (oka && okb && decide (p ≤ q)) = false from by simpa using hg] at gd
    have hz : prV 0 0 = .agg #[.bool false, .string (S []), .string (S [1]), .bool false, .string (S []), .string (S [1])] := by rw [prV_def]; simp only [show (0 : Rat).num = 0 from rfl, show (0 : Rat).den = 1 from rfl, nb_one, show (0 : Int).natAbs = 0 from rfl, nb_zero, Int.lt_irrefl, decide_false]
    have hq : ratV 0 = .agg #[.bool false, .string (S []), .string (S [1])] := by rw [ratV_def]; simp only [show (0 : Rat).num = 0 from rfl, show (0 : Rat).den = 1 from rfl, nb_one, show (0 : Int).natAbs = 0 from rfl, nb_zero, Int.lt_irrefl, decide_false]
    have z0 := fun fl A => rof_ok (G := G) (fl := fl) (A := A) (n := 0) (by decide) (by decide)
    have s0 := fun fl A => sof (G := G) (fl := fl) (A := A) (a := 0) hG rz_zero (by omega)
    rw [rOf_zero, hq] at z0
    rw [hq, hz] at s0
    rw [e.1, e.2, hz] at hrb ⊢
    simp only [↓R1, R2, R3, R4, TY, reduceIte, Nat.reduceEqDiff, Nat.reduceAdd, Nat.reduceMul, Nat.reduceLT, Nat.reduceLeDiff, reduceCtorEq, decide_true, decide_false, Int.reduceLE, Int.reduceLT, Int.reduceToNat, Int.reduceAdd, Int.reduceSub, Int.reduceMul, Int.reduceEq, hfl, hfl1, hfl2, hfl3, hfl4, hfl5, hfl6, NE, NE9, Nat.add_assoc]
    refine call_of (gd _ _) ?_
    simp only [↓R1, R2, R3, R4, TY, reduceIte, Nat.reduceEqDiff, Nat.reduceAdd, Nat.reduceMul, Nat.reduceLT, Nat.reduceLeDiff, reduceCtorEq, decide_true, decide_false, Int.reduceLE, Int.reduceLT, Int.reduceToNat, Int.reduceAdd, Int.reduceSub, Int.reduceMul, Int.reduceEq, hfl, hfl1, hfl2, hfl3, hfl4, hfl5, hfl6, NE, NE9, Nat.add_assoc]
    refine call_of (z0 _ _) ?_
    simp only [↓R1, R2, R3, R4, TY, reduceIte, Nat.reduceEqDiff, Nat.reduceAdd, Nat.reduceMul, Nat.reduceLT, Nat.reduceLeDiff, reduceCtorEq, decide_true, decide_false, Int.reduceLE, Int.reduceLT, Int.reduceToNat, Int.reduceAdd, Int.reduceSub, Int.reduceMul, Int.reduceEq, hfl, hfl1, hfl2, hfl3, hfl4, hfl5, hfl6, NE, NE9, Nat.add_assoc]
    refine call_of (s0 _ _) ?_
    simp only [↓R1, R2, R3, R4, TY, reduceIte, Nat.reduceEqDiff, Nat.reduceAdd, Nat.reduceMul, Nat.reduceLT, Nat.reduceLeDiff, reduceCtorEq, decide_true, decide_false, Int.reduceLE, Int.reduceLT, Int.reduceToNat, Int.reduceAdd, Int.reduceSub, Int.reduceMul, Int.reduceEq, hfl, hfl1, hfl2, hfl3, hfl4, hfl5, hfl6, NE, NE9, Nat.add_assoc]
    refine Ended.back hA ?_ rfl hrb
    simp (maxDischargeDepth := 20) only [xt_push, xt_put, xt_refl, Nat.le_refl, Nat.le_add_right, Nat.add_assoc, Nat.reduceAdd]

set_option maxHeartbeats 2000000 in
theorem EndsS {a0 : Bool} {a1 a2 : List UInt8} {b0 : Bool} {b1 b2 : List UInt8} {oka okb : Bool} {p q : Rat} {k : Nat} {a b : Rat} (hG : G 1 = some tabV) (ra : Raw G a0 a1 a2 oka p k) (rb : Raw G b0 b1 b2 okb q k) (hk : 2 * k ≤ 10000000000) (e : if (oka && okb && decide (p ≤ q)) = true then a = p ∧ b = q else a = 0 ∧ b = 0) : Sound Tryd.prog G 48 [.agg #[.bool a0, .string (S a1), .string (S a2), .bool b0, .string (S b1), .string (S b2)]] fl A (prV a b) A := by
  refine Sound.of mixed Tryd.func48 Tryd.ntmps48 Tryd.results48 (by kernel_rfl) rfl (by kernel_rfl) (by kernel_rfl) fun hA => ?_
  have hfl : fl ≤ A.next := by have := hA.floor; omega
  have hfl1 : fl ≤ A.next + 1 := by have := hA.floor; omega
  have hfl2 : fl ≤ A.next + 2 := by have := hA.floor; omega
  have hfl3 : fl ≤ A.next + 3 := by have := hA.floor; omega
  have hfl4 : fl ≤ A.next + 4 := by have := hA.floor; omega
  have hfl5 : fl ≤ A.next + 5 := by have := hA.floor; omega
  have hfl6 : fl ≤ A.next + 6 := by have := hA.floor; omega
  have gd := fun fl A => goodS (G := G) (fl := fl) (A := A) hG ra rb hk
  have hrb := prV_rb A.next a b
  by_cases hg : (oka && okb && decide (p ≤ q)) = true
  · rw [if_pos hg] at e
    rw [hg] at gd
    simp only [Bool.and_eq_true] at hg
    obtain ⟨e1, e2, e3⟩ := ra.eq hg.1.1
    obtain ⟨e4, e5, e6⟩ := rb.eq hg.1.2
    rw [e.1, e.2, prV_def] at hrb ⊢
    rw [← e1, ← e2, ← e3, ← e4, ← e5, ← e6] at hrb ⊢
    simp only [↓R1, R2, R3, R4, TY, reduceIte, Nat.reduceEqDiff, Nat.reduceAdd, Nat.reduceMul, Nat.reduceLT, Nat.reduceLeDiff, reduceCtorEq, decide_true, decide_false, Int.reduceLE, Int.reduceLT, Int.reduceToNat, Int.reduceAdd, Int.reduceSub, Int.reduceMul, Int.reduceEq, hfl, hfl1, hfl2, hfl3, hfl4, hfl5, hfl6, NE, NE9, Nat.add_assoc]
    refine call_of (gd _ _) ?_
    simp only [↓R1, R2, R3, R4, TY, reduceIte, Nat.reduceEqDiff, Nat.reduceAdd, Nat.reduceMul, Nat.reduceLT, Nat.reduceLeDiff, reduceCtorEq, decide_true, decide_false, Int.reduceLE, Int.reduceLT, Int.reduceToNat, Int.reduceAdd, Int.reduceSub, Int.reduceMul, Int.reduceEq, hfl, hfl1, hfl2, hfl3, hfl4, hfl5, hfl6, NE, NE9, Nat.add_assoc]
    refine Ended.back hA ?_ rfl hrb
    simp (maxDischargeDepth := 20) only [xt_push, xt_put, xt_refl, Nat.le_refl, Nat.le_add_right, Nat.add_assoc, Nat.reduceAdd]
  · rw [if_neg hg] at e
    rw [show (oka && okb && decide (p ≤ q)) = false from by simpa using hg] at gd
    have hz : prV 0 0 = .agg #[.bool false, .string (S []), .string (S [1]), .bool false, .string (S []), .string (S [1])] := by rw [prV_def]; simp only [show (0 : Rat).num = 0 from rfl, show (0 : Rat).den = 1 from rfl, nb_one, show (0 : Int).natAbs = 0 from rfl, nb_zero, Int.lt_irrefl, decide_false]
    have hq : ratV 0 = .agg #[.bool false, .string (S []), .string (S [1])] := by rw [ratV_def]; simp only [show (0 : Rat).num = 0 from rfl, show (0 : Rat).den = 1 from rfl, nb_one, show (0 : Int).natAbs = 0 from rfl, nb_zero, Int.lt_irrefl, decide_false]
    have z0 := fun fl A => rof_ok (G := G) (fl := fl) (A := A) (n := 0) (by decide) (by decide)
    have s0 := fun fl A => sof (G := G) (fl := fl) (A := A) (a := 0) hG rz_zero (by omega)
    rw [rOf_zero, hq] at z0
    rw [hq, hz] at s0
    rw [e.1, e.2, hz] at hrb ⊢
    simp only [↓R1, R2, R3, R4, TY, reduceIte, Nat.reduceEqDiff, Nat.reduceAdd, Nat.reduceMul, Nat.reduceLT, Nat.reduceLeDiff, reduceCtorEq, decide_true, decide_false, Int.reduceLE, Int.reduceLT, Int.reduceToNat, Int.reduceAdd, Int.reduceSub, Int.reduceMul, Int.reduceEq, hfl, hfl1, hfl2, hfl3, hfl4, hfl5, hfl6, NE, NE9, Nat.add_assoc]
    refine call_of (gd _ _) ?_
    simp only [↓R1, R2, R3, R4, TY, reduceIte, Nat.reduceEqDiff, Nat.reduceAdd, Nat.reduceMul, Nat.reduceLT, Nat.reduceLeDiff, reduceCtorEq, decide_true, decide_false, Int.reduceLE, Int.reduceLT, Int.reduceToNat, Int.reduceAdd, Int.reduceSub, Int.reduceMul, Int.reduceEq, hfl, hfl1, hfl2, hfl3, hfl4, hfl5, hfl6, NE, NE9, Nat.add_assoc]
    refine call_of (z0 _ _) ?_
    simp only [↓R1, R2, R3, R4, TY, reduceIte, Nat.reduceEqDiff, Nat.reduceAdd, Nat.reduceMul, Nat.reduceLT, Nat.reduceLeDiff, reduceCtorEq, decide_true, decide_false, Int.reduceLE, Int.reduceLT, Int.reduceToNat, Int.reduceAdd, Int.reduceSub, Int.reduceMul, Int.reduceEq, hfl, hfl1, hfl2, hfl3, hfl4, hfl5, hfl6, NE, NE9, Nat.add_assoc]
    refine call_of (z0 _ _) ?_
    simp only [↓R1, R2, R3, R4, TY, reduceIte, Nat.reduceEqDiff, Nat.reduceAdd, Nat.reduceMul, Nat.reduceLT, Nat.reduceLeDiff, reduceCtorEq, decide_true, decide_false, Int.reduceLE, Int.reduceLT, Int.reduceToNat, Int.reduceAdd, Int.reduceSub, Int.reduceMul, Int.reduceEq, hfl, hfl1, hfl2, hfl3, hfl4, hfl5, hfl6, NE, NE9, Nat.add_assoc]
    refine Ended.back hA ?_ rfl hrb
    simp (maxDischargeDepth := 20) only [xt_push, xt_put, xt_refl, Nat.le_refl, Nat.le_add_right, Nat.add_assoc, Nat.reduceAdd]

/-- A span of any bytes: which span it counts as. -/
structure RawS (G : Gl) (a0 : Bool) (a1 a2 : List UInt8) (b0 : Bool) (b1 b2 : List UInt8) (a b : Rat) (k : Nat) : Prop where
  fit : ∀ fl A, Sound Tryd.prog G 86 [.agg #[.bool a0, .string (S a1), .string (S a2), .bool b0, .string (S b1), .string (S b2)]] fl A (prV a b) A
  norm : ∀ fl A, Sound Tryd.prog G 61 [.agg #[.bool a0, .string (S a1), .string (S a2), .bool b0, .string (S b1), .string (S b2)]] fl A (prV a b) A
  ends : ∀ fl A, Sound Tryd.prog G 48 [.agg #[.bool a0, .string (S a1), .string (S a2), .bool b0, .string (S b1), .string (S b2)]] fl A (prV a b) A
  sp : Sp a b k
  good : ∃ ok : Bool, (∀ fl A, Sound Tryd.prog G 85 [.agg #[.bool a0, .string (S a1), .string (S a2), .bool b0, .string (S b1), .string (S b2)]] fl A (.bool ok) A) ∧
    (ok = true → (a0 = decide (a.num < 0) ∧ a1 = nb a.num.natAbs ∧ a2 = nb a.den) ∧ b0 = decide (b.num < 0) ∧ b1 = nb b.num.natAbs ∧ b2 = nb b.den) ∧ (ok = false → a = 0 ∧ b = 0)

theorem raws_of {a0 : Bool} {a1 a2 : List UInt8} {b0 : Bool} {b1 b2 : List UInt8} {oka okb : Bool} {p q : Rat} {k : Nat} (hG : G 1 = some tabV) (ra : Raw G a0 a1 a2 oka p k) (rb : Raw G b0 b1 b2 okb q k) (hk : 2 * k ≤ 10000000000) : ∃ a b, RawS G a0 a1 a2 b0 b1 b2 a b k := by
  have hk1 := ra.sz.pos
  by_cases hg : (oka && okb && decide (p ≤ q)) = true
  · have e : if (oka && okb && decide (p ≤ q)) = true then p = p ∧ q = q else p = 0 ∧ q = 0 := by rw [if_pos hg]; exact ⟨rfl, rfl⟩
    have hg2 := hg
    simp only [Bool.and_eq_true, decide_eq_true_eq] at hg
    exact ⟨p, q, fun fl A => fitS hG ra rb hk e, fun fl A => normS hG ra rb hk e, fun fl A => EndsS hG ra rb hk e, ⟨ra.sz, rb.sz, hg.2⟩, true, fun fl A => by rw [← hg2]; exact goodS hG ra rb hk, fun _ => ⟨ra.eq hg.1.1, rb.eq hg.1.2⟩, by simp⟩
  · have e : if (oka && okb && decide (p ≤ q)) = true then (0 : Rat) = p ∧ (0 : Rat) = q else (0 : Rat) = 0 ∧ (0 : Rat) = 0 := by rw [if_neg hg]; exact ⟨rfl, rfl⟩
    exact ⟨0, 0, fun fl A => fitS hG ra rb hk e, fun fl A => normS hG ra rb hk e, fun fl A => EndsS hG ra rb hk e, ⟨rz_zero.mono hk1, rz_zero.mono hk1, Rat.le_refl⟩, false, fun fl A => by
      have hg3 : (oka && okb && decide (p ≤ q)) = false := by simpa using hg
      rw [← hg3]; exact goodS hG ra rb hk, by simp, fun _ => ⟨rfl, rfl⟩⟩
/-- A good number and a good span as any bytes. -/
theorem raw_good {q : Rat} {k : Nat} (hG : G 1 = some tabV) (h : Rz q k) (hk : k ≤ 40000000000) : Raw G (decide (q.num < 0)) (nb q.num.natAbs) (nb q.den) true q k :=
  ⟨fun fl A => qgood hG (Nat.le_trans h.1 hk) (Nat.le_trans h.2 hk), fun fl A => qfit hG (Nat.le_trans h.1 hk) (Nat.le_trans h.2 hk), h, fun _ => ⟨rfl, rfl, rfl⟩, by simp⟩
theorem raws_good {a b : Rat} {k : Nat} (hG : G 1 = some tabV) (h : Sp a b k) (hk : 2 * k ≤ 10000000000) : RawS G (decide (a.num < 0)) (nb a.num.natAbs) (nb a.den) (decide (b.num < 0)) (nb b.num.natAbs) (nb b.den) a b k := by
  have ra := raw_good hG h.low (by omega)
  have rb := raw_good hG h.high (by omega)
  have e : if (true && true && decide (a ≤ b)) = true then a = a ∧ b = b else a = 0 ∧ b = 0 := by rw [if_pos (by simpa using h.le)]; exact ⟨rfl, rfl⟩
  exact ⟨fun fl A => fitS hG ra rb hk e, fun fl A => normS hG ra rb hk e, fun fl A => EndsS hG ra rb hk e, h, true, fun fl A => by
    have := goodS (G := G) (fl := fl) (A := A) hG ra rb hk
    rwa [show (true && true && decide (a ≤ b)) = true from by simpa using h.le] at this, fun _ => ⟨⟨rfl, rfl, rfl⟩, rfl, rfl, rfl⟩, by simp⟩
end
end Go.Proofs.YtjkimjmocfjjnaaDoor.Ab
