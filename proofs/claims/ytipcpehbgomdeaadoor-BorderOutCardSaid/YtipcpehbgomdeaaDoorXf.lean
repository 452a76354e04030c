/- Floating-point numbers: To. -/
import Derived.Test.YtipcpehbgomdeaaDoorXe
namespace Go.Proofs.YtipcpehbgomdeaaDoor.Ab
open Go.RowKit
set_option linter.unusedVariables false
set_option linter.unusedSimpArgs false
set_option maxRecDepth 100000

theorem sign_or {m : Nat} (h : m < 9223372036854775808) : (BitVec.ofInt IntKind.u64.bits 9223372036854775808 ||| BitVec.ofInt IntKind.u64.bits (m : Int)).toNat % 18446744073709551616 = m + 9223372036854775808 := by
  rw [bits_u64, BitVec.or_comm, BitVec.toNat_or, BitVec.ofInt_natCast, BitVec.toNat_ofNat, Nat.mod_eq_of_lt (show m < 2 ^ 64 by omega)]
  have : (BitVec.ofInt 64 9223372036854775808).toNat = 1 * 2 ^ 63 := by decide
  rw [this, or_add' (by omega)]
  omega
theorem sign_or' {m : Nat} (h : m < 9223372036854775808) : (BitVec.ofInt IntKind.u64.bits (m : Int) ||| BitVec.ofInt IntKind.u64.bits 9223372036854775808).toNat % 18446744073709551616 = m + 9223372036854775808 := by
  rw [BitVec.or_comm]; exact sign_or h
theorem rsign_lt {p : Rat} : rsign p < 0 ↔ p < 0 := by
  unfold rsign
  have h : p.num < 0 ↔ p < 0 := num_neg_iff
  split
  · rename_i h0
    constructor
    · intro h; exact absurd h (by decide)
    · intro h1; have := h.2 h1; omega
  · split
    · rename_i h1; exact ⟨fun _ => h.1 h1, fun _ => by decide⟩
    · rename_i h1; exact ⟨fun h => absurd h (by decide), fun h2 => absurd (h.2 h2) h1⟩
theorem three_rb {m : Nat} (x y z : Int) : RB m (.tuple [Value.int .u64 x, Value.int .u64 y, Value.int .i64 z].toArray) := by
  refine RB.tuple fun w hw => ?_
  simp only [List.mem_cons, List.not_mem_nil, or_false] at hw
  rcases hw with rfl | rfl | rfl
  all_goals exact RB.int _ _
theorem rcmp_gt {p q : Rat} : 0 < rcmp p q ↔ q < p := by
  unfold rcmp; split
  · constructor
    · intro h; exact absurd h (by decide)
    · intro h; grind
  · split <;> simp_all
/-- The bits of the greatest number, and the number. -/
def mx : Rat := exq 9218868437227405311
theorem mx_def : mx = exq 9218868437227405311 := by unfold mx; rfl
theorem lt63 {v : Nat} (h : v < 9218868437227405312) : v < 9223372036854775808 := Nat.lt_trans h (by decide)

section
variable {G : Gl} {fl : Nat} {A : Hp}

theorem f64_ok (n : Nat) : Sound Tryd.prog G 23 [.float .f64 n] fl A (.int .u64 (n : Nat)) A := by
  refine Sound.of_scalar (fun u hu => ?_) rfl fun w => ?_
  · simp only [List.mem_cons, List.not_mem_nil, or_false] at hu
    subst hu
    exact ⟨rfl, fun μ A u' h => by cases h; rfl⟩
  · refine .inr ⟨.int .u64 (n : Nat), w, ?_, rfl, Below.refl _ _⟩
    rw [run_callFunc_extern (fn := Tryd.f23) (e := Extern.MathFloatBits.float64bits) (by kernel_rfl) (by kernel_rfl) (by kernel_rfl) (by kernel_rfl) (by kernel_rfl)]
    rfl

set_option maxHeartbeats 2000000 in
theorem to_l1 {p q : Rat} {k : Nat} (hG : G 2 = some tabV) (hp : Rz p k) (hq : Rz q k) (hk : k ≤ 1000) (hpq : p ≤ q) (h : p < -mx) : Sound Tryd.prog G 7 [prV p q] fl A (.tuple [Value.int .u64 0, Value.int .u64 0, Value.int .i64 2].toArray) A := by
  refine Sound.of mixed Tryd.func7 Tryd.ntmps7 Tryd.results7 (by kernel_rfl) rfl (by kernel_rfl) (by simp) fun hA => ?_
  have hfl : fl ≤ A.next := by have := hA.floor; omega
  have hfl1 : fl ≤ A.next + 1 := by have := hA.floor; omega
  have hfl2 : fl ≤ A.next + 2 := by have := hA.floor; omega
  have hfl3 : fl ≤ A.next + 3 := by have := hA.floor; omega
  have hfl4 : fl ≤ A.next + 4 := by have := hA.floor; omega
  have hfl5 : fl ≤ A.next + 5 := by have := hA.floor; omega
  have hfl6 : fl ≤ A.next + 6 := by have := hA.floor; omega
  have m1 : 9218868437227405311 < 9218868437227405312 := by decide
  have hz0 : Rz (rOf 0) 1 := Rz.of (nb_len_le.2 (by decide)) (by decide)
  have gd := fun fl A => sgood (G := G) (fl := fl) (A := A) hG hp hq (Nat.le_trans hk (by decide))
  have fb := fun fl A => f64_ok (G := G) (fl := fl) (A := A) 9218868437227405311
  have ex := fun fl A => exact_ok (G := G) (fl := fl) (A := A) (b := 9218868437227405311) hG (by decide)
  have ng := fun fl A => qneg (G := G) (fl := fl) (A := A) hG (exq_rz (b := 9218868437227405311) (by decide)) (by decide)
  have c1 := fun fl A => qcmp (G := G) (fl := fl) (A := A) hG hp (exq_rz (b := 9218868437227405311) (by decide)).neg (Nat.le_trans (Nat.add_le_add_right hk 150) (by decide))
  have c2 := fun fl A => qcmp (G := G) (fl := fl) (A := A) hG hq (exq_rz (b := 9218868437227405311) (by decide)) (Nat.le_trans (Nat.add_le_add_right hk 150) (by decide))
  simp only [decide_eq_true hpq] at gd
  simp only [← mx_def] at ex ng c1 c2
  have f1 : (rcmp p (-mx) < 0) = True := eq_true (rcmp_lt_iff.2 h)
  simp only [ratV_def] at fb ex ng c1 c2
  simp only [prV_def] at gd ⊢
  simp only [↓R1, R2, R3, R4, TY, reduceIte, Nat.reduceEqDiff, Nat.reduceAdd, Nat.reduceMul, Nat.reduceLT, Nat.reduceLeDiff, reduceCtorEq, decide_true, decide_false, Int.reduceLE, Int.reduceLT, Int.reduceToNat, Int.reduceAdd, Int.reduceSub, Int.reduceMul, Int.reduceEq, hfl, hfl1, hfl2, hfl3, hfl4, hfl5, hfl6, NE, UN, b_andNot, NE9, Nat.add_assoc, f1]
  refine call_of (gd _ _) ?_
  simp only [↓R1, R2, R3, R4, TY, reduceIte, Nat.reduceEqDiff, Nat.reduceAdd, Nat.reduceMul, Nat.reduceLT, Nat.reduceLeDiff, reduceCtorEq, decide_true, decide_false, Int.reduceLE, Int.reduceLT, Int.reduceToNat, Int.reduceAdd, Int.reduceSub, Int.reduceMul, Int.reduceEq, hfl, hfl1, hfl2, hfl3, hfl4, hfl5, hfl6, NE, UN, b_andNot, NE9, Nat.add_assoc, f1]
  refine call_of (fb _ _) ?_
  simp only [↓R1, R2, R3, R4, TY, reduceIte, Nat.reduceEqDiff, Nat.reduceAdd, Nat.reduceMul, Nat.reduceLT, Nat.reduceLeDiff, reduceCtorEq, decide_true, decide_false, Int.reduceLE, Int.reduceLT, Int.reduceToNat, Int.reduceAdd, Int.reduceSub, Int.reduceMul, Int.reduceEq, hfl, hfl1, hfl2, hfl3, hfl4, hfl5, hfl6, NE, UN, b_andNot, NE9, Nat.add_assoc, f1]
  refine call_of (ex _ _) ?_
  simp only [↓R1, R2, R3, R4, TY, reduceIte, Nat.reduceEqDiff, Nat.reduceAdd, Nat.reduceMul, Nat.reduceLT, Nat.reduceLeDiff, reduceCtorEq, decide_true, decide_false, Int.reduceLE, Int.reduceLT, Int.reduceToNat, Int.reduceAdd, Int.reduceSub, Int.reduceMul, Int.reduceEq, hfl, hfl1, hfl2, hfl3, hfl4, hfl5, hfl6, NE, UN, b_andNot, NE9, Nat.add_assoc, f1]
  refine call_of (ng _ _) ?_
  simp only [↓R1, R2, R3, R4, TY, reduceIte, Nat.reduceEqDiff, Nat.reduceAdd, Nat.reduceMul, Nat.reduceLT, Nat.reduceLeDiff, reduceCtorEq, decide_true, decide_false, Int.reduceLE, Int.reduceLT, Int.reduceToNat, Int.reduceAdd, Int.reduceSub, Int.reduceMul, Int.reduceEq, hfl, hfl1, hfl2, hfl3, hfl4, hfl5, hfl6, NE, UN, b_andNot, NE9, Nat.add_assoc, f1]
  refine call_of (c1 _ _) ?_
  simp only [↓R1, R2, R3, R4, TY, reduceIte, Nat.reduceEqDiff, Nat.reduceAdd, Nat.reduceMul, Nat.reduceLT, Nat.reduceLeDiff, reduceCtorEq, decide_true, decide_false, Int.reduceLE, Int.reduceLT, Int.reduceToNat, Int.reduceAdd, Int.reduceSub, Int.reduceMul, Int.reduceEq, hfl, hfl1, hfl2, hfl3, hfl4, hfl5, hfl6, NE, UN, b_andNot, NE9, Nat.add_assoc, f1]
  refine Ended.back hA ?_ rfl (three_rb _ _ _)
  simp (maxDischargeDepth := 20) only [xt_push, xt_put, xt_refl, Nat.le_refl, Nat.le_add_right, Nat.add_assoc, Nat.reduceAdd]

set_option maxHeartbeats 2000000 in
theorem to_l2 {p q : Rat} {k : Nat} (hG : G 2 = some tabV) (hp : Rz p k) (hq : Rz q k) (hk : k ≤ 1000) (hpq : p ≤ q) (h : ¬ p < -mx) (h2 : mx < q) : Sound Tryd.prog G 7 [prV p q] fl A (.tuple [Value.int .u64 0, Value.int .u64 0, Value.int .i64 2].toArray) A := by
  refine Sound.of mixed Tryd.func7 Tryd.ntmps7 Tryd.results7 (by kernel_rfl) rfl (by kernel_rfl) (by simp) fun hA => ?_
  have hfl : fl ≤ A.next := by have := hA.floor; omega
  have hfl1 : fl ≤ A.next + 1 := by have := hA.floor; omega
  have hfl2 : fl ≤ A.next + 2 := by have := hA.floor; omega
  have hfl3 : fl ≤ A.next + 3 := by have := hA.floor; omega
  have hfl4 : fl ≤ A.next + 4 := by have := hA.floor; omega
  have hfl5 : fl ≤ A.next + 5 := by have := hA.floor; omega
  have hfl6 : fl ≤ A.next + 6 := by have := hA.floor; omega
  have m1 : 9218868437227405311 < 9218868437227405312 := by decide
  have hz0 : Rz (rOf 0) 1 := Rz.of (nb_len_le.2 (by decide)) (by decide)
  have gd := fun fl A => sgood (G := G) (fl := fl) (A := A) hG hp hq (Nat.le_trans hk (by decide))
  have fb := fun fl A => f64_ok (G := G) (fl := fl) (A := A) 9218868437227405311
  have ex := fun fl A => exact_ok (G := G) (fl := fl) (A := A) (b := 9218868437227405311) hG (by decide)
  have ng := fun fl A => qneg (G := G) (fl := fl) (A := A) hG (exq_rz (b := 9218868437227405311) (by decide)) (by decide)
  have c1 := fun fl A => qcmp (G := G) (fl := fl) (A := A) hG hp (exq_rz (b := 9218868437227405311) (by decide)).neg (Nat.le_trans (Nat.add_le_add_right hk 150) (by decide))
  have c2 := fun fl A => qcmp (G := G) (fl := fl) (A := A) hG hq (exq_rz (b := 9218868437227405311) (by decide)) (Nat.le_trans (Nat.add_le_add_right hk 150) (by decide))
  simp only [decide_eq_true hpq] at gd
  simp only [← mx_def] at ex ng c1 c2
  have f1 : (rcmp p (-mx) < 0) = False := eq_false (mt rcmp_lt_iff.1 h)
  have f2 : (0 < rcmp q mx) = True := eq_true (rcmp_gt.2 h2)
  simp only [ratV_def] at fb ex ng c1 c2
  simp only [prV_def] at gd ⊢
  simp only [↓R1, R2, R3, R4, TY, reduceIte, Nat.reduceEqDiff, Nat.reduceAdd, Nat.reduceMul, Nat.reduceLT, Nat.reduceLeDiff, reduceCtorEq, decide_true, decide_false, Int.reduceLE, Int.reduceLT, Int.reduceToNat, Int.reduceAdd, Int.reduceSub, Int.reduceMul, Int.reduceEq, hfl, hfl1, hfl2, hfl3, hfl4, hfl5, hfl6, NE, UN, b_andNot, NE9, Nat.add_assoc, f1, f2]
  refine call_of (gd _ _) ?_
  simp only [↓R1, R2, R3, R4, TY, reduceIte, Nat.reduceEqDiff, Nat.reduceAdd, Nat.reduceMul, Nat.reduceLT, Nat.reduceLeDiff, reduceCtorEq, decide_true, decide_false, Int.reduceLE, Int.reduceLT, Int.reduceToNat, Int.reduceAdd, Int.reduceSub, Int.reduceMul, Int.reduceEq, hfl, hfl1, hfl2, hfl3, hfl4, hfl5, hfl6, NE, UN, b_andNot, NE9, Nat.add_assoc, f1, f2]
  refine call_of (fb _ _) ?_
  simp only [↓R1, R2, R3, R4, TY, reduceIte, Nat.reduceEqDiff, Nat.reduceAdd, Nat.reduceMul, Nat.reduceLT, Nat.reduceLeDiff, reduceCtorEq, decide_true, decide_false, Int.reduceLE, Int.reduceLT, Int.reduceToNat, Int.reduceAdd, Int.reduceSub, Int.reduceMul, Int.reduceEq, hfl, hfl1, hfl2, hfl3, hfl4, hfl5, hfl6, NE, UN, b_andNot, NE9, Nat.add_assoc, f1, f2]
  refine call_of (ex _ _) ?_
  simp only [↓R1, R2, R3, R4, TY, reduceIte, Nat.reduceEqDiff, Nat.reduceAdd, Nat.reduceMul, Nat.reduceLT, Nat.reduceLeDiff, reduceCtorEq, decide_true, decide_false, Int.reduceLE, Int.reduceLT, Int.reduceToNat, Int.reduceAdd, Int.reduceSub, Int.reduceMul, Int.reduceEq, hfl, hfl1, hfl2, hfl3, hfl4, hfl5, hfl6, NE, UN, b_andNot, NE9, Nat.add_assoc, f1, f2]
  refine call_of (ng _ _) ?_
  simp only [↓R1, R2, R3, R4, TY, reduceIte, Nat.reduceEqDiff, Nat.reduceAdd, Nat.reduceMul, Nat.reduceLT, Nat.reduceLeDiff, reduceCtorEq, decide_true, decide_false, Int.reduceLE, Int.reduceLT, Int.reduceToNat, Int.reduceAdd, Int.reduceSub, Int.reduceMul, Int.reduceEq, hfl, hfl1, hfl2, hfl3, hfl4, hfl5, hfl6, NE, UN, b_andNot, NE9, Nat.add_assoc, f1, f2]
  refine call_of (c1 _ _) ?_
  simp only [↓R1, R2, R3, R4, TY, reduceIte, Nat.reduceEqDiff, Nat.reduceAdd, Nat.reduceMul, Nat.reduceLT, Nat.reduceLeDiff, reduceCtorEq, decide_true, decide_false, Int.reduceLE, Int.reduceLT, Int.reduceToNat, Int.reduceAdd, Int.reduceSub, Int.reduceMul, Int.reduceEq, hfl, hfl1, hfl2, hfl3, hfl4, hfl5, hfl6, NE, UN, b_andNot, NE9, Nat.add_assoc, f1, f2]
  refine call_of (c2 _ _) ?_
  simp only [↓R1, R2, R3, R4, TY, reduceIte, Nat.reduceEqDiff, Nat.reduceAdd, Nat.reduceMul, Nat.reduceLT, Nat.reduceLeDiff, reduceCtorEq, decide_true, decide_false, Int.reduceLE, Int.reduceLT, Int.reduceToNat, Int.reduceAdd, Int.reduceSub, Int.reduceMul, Int.reduceEq, hfl, hfl1, hfl2, hfl3, hfl4, hfl5, hfl6, NE, UN, b_andNot, NE9, Nat.add_assoc, f1, f2]
  refine Ended.back hA ?_ rfl (three_rb _ _ _)
  simp (maxDischargeDepth := 20) only [xt_push, xt_put, xt_refl, Nat.le_refl, Nat.le_add_right, Nat.add_assoc, Nat.reduceAdd]

set_option maxHeartbeats 2000000 in
theorem to_pp {p q : Rat} {k : Nat} (hG : G 2 = some tabV) (hp : Rz p k) (hq : Rz q k) (hk : k ≤ 1000) (hpq : p ≤ q) (h1 : ¬ p < -mx) (h2 : ¬ mx < q) {u v v' : Nat} (hu : Un (rmax p (rOf 0)) u) (hv : Ov (rmax q (rOf 0)) v) (hv' : Un (rmax q (rOf 0)) v') (g1 : ¬ p < 0) (g2 : ¬ q < 0) : Sound Tryd.prog G 7 [prV p q] fl A (.tuple [Value.int .u64 (u : Nat), Value.int .u64 (v : Nat), Value.int .i64 0].toArray) A := by
  refine Sound.of mixed Tryd.func7 Tryd.ntmps7 Tryd.results7 (by kernel_rfl) rfl (by kernel_rfl) (by simp) fun hA => ?_
  have hfl : fl ≤ A.next := by have := hA.floor; omega
  have hfl1 : fl ≤ A.next + 1 := by have := hA.floor; omega
  have hfl2 : fl ≤ A.next + 2 := by have := hA.floor; omega
  have hfl3 : fl ≤ A.next + 3 := by have := hA.floor; omega
  have hfl4 : fl ≤ A.next + 4 := by have := hA.floor; omega
  have hfl5 : fl ≤ A.next + 5 := by have := hA.floor; omega
  have hfl6 : fl ≤ A.next + 6 := by have := hA.floor; omega
  have m1 : 9218868437227405311 < 9218868437227405312 := by decide
  have hz0 : Rz (rOf 0) 1 := Rz.of (nb_len_le.2 (by decide)) (by decide)
  have gd := fun fl A => sgood (G := G) (fl := fl) (A := A) hG hp hq (Nat.le_trans hk (by decide))
  have fb := fun fl A => f64_ok (G := G) (fl := fl) (A := A) 9218868437227405311
  have ex := fun fl A => exact_ok (G := G) (fl := fl) (A := A) (b := 9218868437227405311) hG (by decide)
  have ng := fun fl A => qneg (G := G) (fl := fl) (A := A) hG (exq_rz (b := 9218868437227405311) (by decide)) (by decide)
  have c1 := fun fl A => qcmp (G := G) (fl := fl) (A := A) hG hp (exq_rz (b := 9218868437227405311) (by decide)).neg (Nat.le_trans (Nat.add_le_add_right hk 150) (by decide))
  have c2 := fun fl A => qcmp (G := G) (fl := fl) (A := A) hG hq (exq_rz (b := 9218868437227405311) (by decide)) (Nat.le_trans (Nat.add_le_add_right hk 150) (by decide))
  simp only [decide_eq_true hpq] at gd
  simp only [← mx_def] at ex ng c1 c2
  have f1 : (rcmp p (-mx) < 0) = False := eq_false (mt rcmp_lt_iff.1 h1)
  have f2 : (0 < rcmp q mx) = False := eq_false (mt rcmp_gt.1 h2)
  have zp := hp.max (hz0.mono hp.pos)
  have zq := hq.max (hz0.mono hq.pos)
  have o0 := fun fl A => rof_ok (G := G) (fl := fl) (A := A) (n := 0) (by decide) (by decide)
  have x1 := fun fl A => qmax (G := G) (fl := fl) (A := A) hG hp hz0 (Nat.le_trans (Nat.add_le_add_right hk 1) (by decide))
  have x2 := fun fl A => qmax (G := G) (fl := fl) (A := A) hG hq hz0 (Nat.le_trans (Nat.add_le_add_right hk 1) (by decide))
  have un1 := fun fl A => under_ok (G := G) (fl := fl) (A := A) hG zp hk hu
  have ov1 := fun fl A => over_ok (G := G) (fl := fl) (A := A) hG zq hk hv' hv
  have s1 := fun fl A => qsign (G := G) (fl := fl) (A := A) hG hp (Nat.le_trans hk (by decide))
  have s2 := fun fl A => qsign (G := G) (fl := fl) (A := A) hG hq (Nat.le_trans hk (by decide))
  have n1 := fun fl A => qneg (G := G) (fl := fl) (A := A) hG hp (Nat.le_trans hk (by decide))
  have n2 := fun fl A => qneg (G := G) (fl := fl) (A := A) hG hq (Nat.le_trans hk (by decide))
  have f3 : (rsign p < 0) = False := eq_false (mt rsign_lt.1 g1)
  have f4 : (rsign q < 0) = False := eq_false (mt rsign_lt.1 g2)
  generalize rmax p (rOf 0) = mp at *
  generalize rmax q (rOf 0) = mq at *
  generalize rOf 0 = z0 at *
  simp only [ratV_def] at fb ex ng c1 c2 o0 x1 un1 x2 ov1 s1 s2 n1 n2
  simp only [prV_def] at gd ⊢
  simp only [↓R1, R2, R3, R4, TY, reduceIte, Nat.reduceEqDiff, Nat.reduceAdd, Nat.reduceMul, Nat.reduceLT, Nat.reduceLeDiff, reduceCtorEq, decide_true, decide_false, Int.reduceLE, Int.reduceLT, Int.reduceToNat, Int.reduceAdd, Int.reduceSub, Int.reduceMul, Int.reduceEq, hfl, hfl1, hfl2, hfl3, hfl4, hfl5, hfl6, NE, UN, b_andNot, NE9, Nat.add_assoc, f1, f2, f3, f4]
  refine call_of (gd _ _) ?_
  simp only [↓R1, R2, R3, R4, TY, reduceIte, Nat.reduceEqDiff, Nat.reduceAdd, Nat.reduceMul, Nat.reduceLT, Nat.reduceLeDiff, reduceCtorEq, decide_true, decide_false, Int.reduceLE, Int.reduceLT, Int.reduceToNat, Int.reduceAdd, Int.reduceSub, Int.reduceMul, Int.reduceEq, hfl, hfl1, hfl2, hfl3, hfl4, hfl5, hfl6, NE, UN, b_andNot, NE9, Nat.add_assoc, f1, f2, f3, f4]
  refine call_of (fb _ _) ?_
  simp only [↓R1, R2, R3, R4, TY, reduceIte, Nat.reduceEqDiff, Nat.reduceAdd, Nat.reduceMul, Nat.reduceLT, Nat.reduceLeDiff, reduceCtorEq, decide_true, decide_false, Int.reduceLE, Int.reduceLT, Int.reduceToNat, Int.reduceAdd, Int.reduceSub, Int.reduceMul, Int.reduceEq, hfl, hfl1, hfl2, hfl3, hfl4, hfl5, hfl6, NE, UN, b_andNot, NE9, Nat.add_assoc, f1, f2, f3, f4]
  refine call_of (ex _ _) ?_
  simp only [↓R1, R2, R3, R4, TY, reduceIte, Nat.reduceEqDiff, Nat.reduceAdd, Nat.reduceMul, Nat.reduceLT, Nat.reduceLeDiff, reduceCtorEq, decide_true, decide_false, Int.reduceLE, Int.reduceLT, Int.reduceToNat, Int.reduceAdd, Int.reduceSub, Int.reduceMul, Int.reduceEq, hfl, hfl1, hfl2, hfl3, hfl4, hfl5, hfl6, NE, UN, b_andNot, NE9, Nat.add_assoc, f1, f2, f3, f4]
  refine call_of (ng _ _) ?_
  simp only [↓R1, R2, R3, R4, TY, reduceIte, Nat.reduceEqDiff, Nat.reduceAdd, Nat.reduceMul, Nat.reduceLT, Nat.reduceLeDiff, reduceCtorEq, decide_true, decide_false, Int.reduceLE, Int.reduceLT, Int.reduceToNat, Int.reduceAdd, Int.reduceSub, Int.reduceMul, Int.reduceEq, hfl, hfl1, hfl2, hfl3, hfl4, hfl5, hfl6, NE, UN, b_andNot, NE9, Nat.add_assoc, f1, f2, f3, f4]
  refine call_of (c1 _ _) ?_
  simp only [↓R1, R2, R3, R4, TY, reduceIte, Nat.reduceEqDiff, Nat.reduceAdd, Nat.reduceMul, Nat.reduceLT, Nat.reduceLeDiff, reduceCtorEq, decide_true, decide_false, Int.reduceLE, Int.reduceLT, Int.reduceToNat, Int.reduceAdd, Int.reduceSub, Int.reduceMul, Int.reduceEq, hfl, hfl1, hfl2, hfl3, hfl4, hfl5, hfl6, NE, UN, b_andNot, NE9, Nat.add_assoc, f1, f2, f3, f4]
  refine call_of (c2 _ _) ?_
  simp only [↓R1, R2, R3, R4, TY, reduceIte, Nat.reduceEqDiff, Nat.reduceAdd, Nat.reduceMul, Nat.reduceLT, Nat.reduceLeDiff, reduceCtorEq, decide_true, decide_false, Int.reduceLE, Int.reduceLT, Int.reduceToNat, Int.reduceAdd, Int.reduceSub, Int.reduceMul, Int.reduceEq, hfl, hfl1, hfl2, hfl3, hfl4, hfl5, hfl6, NE, UN, b_andNot, NE9, Nat.add_assoc, f1, f2, f3, f4]
  refine call_of (o0 _ _) ?_
  simp only [↓R1, R2, R3, R4, TY, reduceIte, Nat.reduceEqDiff, Nat.reduceAdd, Nat.reduceMul, Nat.reduceLT, Nat.reduceLeDiff, reduceCtorEq, decide_true, decide_false, Int.reduceLE, Int.reduceLT, Int.reduceToNat, Int.reduceAdd, Int.reduceSub, Int.reduceMul, Int.reduceEq, hfl, hfl1, hfl2, hfl3, hfl4, hfl5, hfl6, NE, UN, b_andNot, NE9, Nat.add_assoc, f1, f2, f3, f4]
  refine call_of (x1 _ _) ?_
  simp only [↓R1, R2, R3, R4, TY, reduceIte, Nat.reduceEqDiff, Nat.reduceAdd, Nat.reduceMul, Nat.reduceLT, Nat.reduceLeDiff, reduceCtorEq, decide_true, decide_false, Int.reduceLE, Int.reduceLT, Int.reduceToNat, Int.reduceAdd, Int.reduceSub, Int.reduceMul, Int.reduceEq, hfl, hfl1, hfl2, hfl3, hfl4, hfl5, hfl6, NE, UN, b_andNot, NE9, Nat.add_assoc, f1, f2, f3, f4]
  refine call_of (un1 _ _) ?_
  simp only [↓R1, R2, R3, R4, TY, reduceIte, Nat.reduceEqDiff, Nat.reduceAdd, Nat.reduceMul, Nat.reduceLT, Nat.reduceLeDiff, reduceCtorEq, decide_true, decide_false, Int.reduceLE, Int.reduceLT, Int.reduceToNat, Int.reduceAdd, Int.reduceSub, Int.reduceMul, Int.reduceEq, hfl, hfl1, hfl2, hfl3, hfl4, hfl5, hfl6, NE, UN, b_andNot, NE9, Nat.add_assoc, f1, f2, f3, f4]
  refine call_of (o0 _ _) ?_
  simp only [↓R1, R2, R3, R4, TY, reduceIte, Nat.reduceEqDiff, Nat.reduceAdd, Nat.reduceMul, Nat.reduceLT, Nat.reduceLeDiff, reduceCtorEq, decide_true, decide_false, Int.reduceLE, Int.reduceLT, Int.reduceToNat, Int.reduceAdd, Int.reduceSub, Int.reduceMul, Int.reduceEq, hfl, hfl1, hfl2, hfl3, hfl4, hfl5, hfl6, NE, UN, b_andNot, NE9, Nat.add_assoc, f1, f2, f3, f4]
  refine call_of (x2 _ _) ?_
  simp only [↓R1, R2, R3, R4, TY, reduceIte, Nat.reduceEqDiff, Nat.reduceAdd, Nat.reduceMul, Nat.reduceLT, Nat.reduceLeDiff, reduceCtorEq, decide_true, decide_false, Int.reduceLE, Int.reduceLT, Int.reduceToNat, Int.reduceAdd, Int.reduceSub, Int.reduceMul, Int.reduceEq, hfl, hfl1, hfl2, hfl3, hfl4, hfl5, hfl6, NE, UN, b_andNot, NE9, Nat.add_assoc, f1, f2, f3, f4]
  refine call_of (ov1 _ _) ?_
  simp only [↓R1, R2, R3, R4, TY, reduceIte, Nat.reduceEqDiff, Nat.reduceAdd, Nat.reduceMul, Nat.reduceLT, Nat.reduceLeDiff, reduceCtorEq, decide_true, decide_false, Int.reduceLE, Int.reduceLT, Int.reduceToNat, Int.reduceAdd, Int.reduceSub, Int.reduceMul, Int.reduceEq, hfl, hfl1, hfl2, hfl3, hfl4, hfl5, hfl6, NE, UN, b_andNot, NE9, Nat.add_assoc, f1, f2, f3, f4]
  refine call_of (s1 _ _) ?_
  simp only [↓R1, R2, R3, R4, TY, reduceIte, Nat.reduceEqDiff, Nat.reduceAdd, Nat.reduceMul, Nat.reduceLT, Nat.reduceLeDiff, reduceCtorEq, decide_true, decide_false, Int.reduceLE, Int.reduceLT, Int.reduceToNat, Int.reduceAdd, Int.reduceSub, Int.reduceMul, Int.reduceEq, hfl, hfl1, hfl2, hfl3, hfl4, hfl5, hfl6, NE, UN, b_andNot, NE9, Nat.add_assoc, f1, f2, f3, f4]
  refine call_of (s2 _ _) ?_
  simp only [↓R1, R2, R3, R4, TY, reduceIte, Nat.reduceEqDiff, Nat.reduceAdd, Nat.reduceMul, Nat.reduceLT, Nat.reduceLeDiff, reduceCtorEq, decide_true, decide_false, Int.reduceLE, Int.reduceLT, Int.reduceToNat, Int.reduceAdd, Int.reduceSub, Int.reduceMul, Int.reduceEq, hfl, hfl1, hfl2, hfl3, hfl4, hfl5, hfl6, NE, UN, b_andNot, NE9, Nat.add_assoc, f1, f2, f3, f4]
  refine Ended.back hA ?_ rfl (three_rb _ _ _)
  simp (maxDischargeDepth := 20) only [xt_push, xt_put, xt_refl, Nat.le_refl, Nat.le_add_right, Nat.add_assoc, Nat.reduceAdd]

set_option maxHeartbeats 2000000 in
theorem to_np {p q : Rat} {k : Nat} (hG : G 2 = some tabV) (hp : Rz p k) (hq : Rz q k) (hk : k ≤ 1000) (hpq : p ≤ q) (h1 : ¬ p < -mx) (h2 : ¬ mx < q) {u v v' : Nat} (hu : Un (rmax p (rOf 0)) u) (hv : Ov (rmax q (rOf 0)) v) (hv' : Un (rmax q (rOf 0)) v') (g1 : p < 0) (g2 : ¬ q < 0) {u1 v1 : Nat} (hu1 : Un (-p) u1) (hv1 : Ov (-p) v1) : Sound Tryd.prog G 7 [prV p q] fl A (.tuple [Value.int .u64 (v1 + 9223372036854775808 : Nat), Value.int .u64 (v : Nat), Value.int .i64 0].toArray) A := by
  refine Sound.of mixed Tryd.func7 Tryd.ntmps7 Tryd.results7 (by kernel_rfl) rfl (by kernel_rfl) (by simp) fun hA => ?_
  have hfl : fl ≤ A.next := by have := hA.floor; omega
  have hfl1 : fl ≤ A.next + 1 := by have := hA.floor; omega
  have hfl2 : fl ≤ A.next + 2 := by have := hA.floor; omega
  have hfl3 : fl ≤ A.next + 3 := by have := hA.floor; omega
  have hfl4 : fl ≤ A.next + 4 := by have := hA.floor; omega
  have hfl5 : fl ≤ A.next + 5 := by have := hA.floor; omega
  have hfl6 : fl ≤ A.next + 6 := by have := hA.floor; omega
  have m1 : 9218868437227405311 < 9218868437227405312 := by decide
  have hz0 : Rz (rOf 0) 1 := Rz.of (nb_len_le.2 (by decide)) (by decide)
  have gd := fun fl A => sgood (G := G) (fl := fl) (A := A) hG hp hq (Nat.le_trans hk (by decide))
  have fb := fun fl A => f64_ok (G := G) (fl := fl) (A := A) 9218868437227405311
  have ex := fun fl A => exact_ok (G := G) (fl := fl) (A := A) (b := 9218868437227405311) hG (by decide)
  have ng := fun fl A => qneg (G := G) (fl := fl) (A := A) hG (exq_rz (b := 9218868437227405311) (by decide)) (by decide)
  have c1 := fun fl A => qcmp (G := G) (fl := fl) (A := A) hG hp (exq_rz (b := 9218868437227405311) (by decide)).neg (Nat.le_trans (Nat.add_le_add_right hk 150) (by decide))
  have c2 := fun fl A => qcmp (G := G) (fl := fl) (A := A) hG hq (exq_rz (b := 9218868437227405311) (by decide)) (Nat.le_trans (Nat.add_le_add_right hk 150) (by decide))
  simp only [decide_eq_true hpq] at gd
  simp only [← mx_def] at ex ng c1 c2
  have f1 : (rcmp p (-mx) < 0) = False := eq_false (mt rcmp_lt_iff.1 h1)
  have f2 : (0 < rcmp q mx) = False := eq_false (mt rcmp_gt.1 h2)
  have zp := hp.max (hz0.mono hp.pos)
  have zq := hq.max (hz0.mono hq.pos)
  have o0 := fun fl A => rof_ok (G := G) (fl := fl) (A := A) (n := 0) (by decide) (by decide)
  have x1 := fun fl A => qmax (G := G) (fl := fl) (A := A) hG hp hz0 (Nat.le_trans (Nat.add_le_add_right hk 1) (by decide))
  have x2 := fun fl A => qmax (G := G) (fl := fl) (A := A) hG hq hz0 (Nat.le_trans (Nat.add_le_add_right hk 1) (by decide))
  have un1 := fun fl A => under_ok (G := G) (fl := fl) (A := A) hG zp hk hu
  have ov1 := fun fl A => over_ok (G := G) (fl := fl) (A := A) hG zq hk hv' hv
  have s1 := fun fl A => qsign (G := G) (fl := fl) (A := A) hG hp (Nat.le_trans hk (by decide))
  have s2 := fun fl A => qsign (G := G) (fl := fl) (A := A) hG hq (Nat.le_trans hk (by decide))
  have n1 := fun fl A => qneg (G := G) (fl := fl) (A := A) hG hp (Nat.le_trans hk (by decide))
  have n2 := fun fl A => qneg (G := G) (fl := fl) (A := A) hG hq (Nat.le_trans hk (by decide))
  have f3 : (rsign p < 0) = True := eq_true (rsign_lt.2 g1)
  have f4 : (rsign q < 0) = False := eq_false (mt rsign_lt.1 g2)
  have ov2 := fun fl A => over_ok (G := G) (fl := fl) (A := A) hG hp.neg hk hu1 hv1
  have so := sign_or (lt63 hv1.1)
  generalize rmax p (rOf 0) = mp at *
  generalize rmax q (rOf 0) = mq at *
  generalize rOf 0 = z0 at *
  simp only [ratV_def] at fb ex ng c1 c2 o0 x1 un1 x2 ov1 s1 s2 n1 n2 ov2
  simp only [prV_def] at gd ⊢
  simp only [↓R1, R2, R3, R4, TY, reduceIte, Nat.reduceEqDiff, Nat.reduceAdd, Nat.reduceMul, Nat.reduceLT, Nat.reduceLeDiff, reduceCtorEq, decide_true, decide_false, Int.reduceLE, Int.reduceLT, Int.reduceToNat, Int.reduceAdd, Int.reduceSub, Int.reduceMul, Int.reduceEq, hfl, hfl1, hfl2, hfl3, hfl4, hfl5, hfl6, NE, UN, b_andNot, NE9, Nat.add_assoc, f1, f2, f3, f4, so]
  refine call_of (gd _ _) ?_
  simp only [↓R1, R2, R3, R4, TY, reduceIte, Nat.reduceEqDiff, Nat.reduceAdd, Nat.reduceMul, Nat.reduceLT, Nat.reduceLeDiff, reduceCtorEq, decide_true, decide_false, Int.reduceLE, Int.reduceLT, Int.reduceToNat, Int.reduceAdd, Int.reduceSub, Int.reduceMul, Int.reduceEq, hfl, hfl1, hfl2, hfl3, hfl4, hfl5, hfl6, NE, UN, b_andNot, NE9, Nat.add_assoc, f1, f2, f3, f4, so]
  refine call_of (fb _ _) ?_
  simp only [↓R1, R2, R3, R4, TY, reduceIte, Nat.reduceEqDiff, Nat.reduceAdd, Nat.reduceMul, Nat.reduceLT, Nat.reduceLeDiff, reduceCtorEq, decide_true, decide_false, Int.reduceLE, Int.reduceLT, Int.reduceToNat, Int.reduceAdd, Int.reduceSub, Int.reduceMul, Int.reduceEq, hfl, hfl1, hfl2, hfl3, hfl4, hfl5, hfl6, NE, UN, b_andNot, NE9, Nat.add_assoc, f1, f2, f3, f4, so]
  refine call_of (ex _ _) ?_
  simp only [↓R1, R2, R3, R4, TY, reduceIte, Nat.reduceEqDiff, Nat.reduceAdd, Nat.reduceMul, Nat.reduceLT, Nat.reduceLeDiff, reduceCtorEq, decide_true, decide_false, Int.reduceLE, Int.reduceLT, Int.reduceToNat, Int.reduceAdd, Int.reduceSub, Int.reduceMul, Int.reduceEq, hfl, hfl1, hfl2, hfl3, hfl4, hfl5, hfl6, NE, UN, b_andNot, NE9, Nat.add_assoc, f1, f2, f3, f4, so]
  refine call_of (ng _ _) ?_
  simp only [↓R1, R2, R3, R4, TY, reduceIte, Nat.reduceEqDiff, Nat.reduceAdd, Nat.reduceMul, Nat.reduceLT, Nat.reduceLeDiff, reduceCtorEq, decide_true, decide_false, Int.reduceLE, Int.reduceLT, Int.reduceToNat, Int.reduceAdd, Int.reduceSub, Int.reduceMul, Int.reduceEq, hfl, hfl1, hfl2, hfl3, hfl4, hfl5, hfl6, NE, UN, b_andNot, NE9, Nat.add_assoc, f1, f2, f3, f4, so]
  refine call_of (c1 _ _) ?_
  simp only [↓R1, R2, R3, R4, TY, reduceIte, Nat.reduceEqDiff, Nat.reduceAdd, Nat.reduceMul, Nat.reduceLT, Nat.reduceLeDiff, reduceCtorEq, decide_true, decide_false, Int.reduceLE, Int.reduceLT, Int.reduceToNat, Int.reduceAdd, Int.reduceSub, Int.reduceMul, Int.reduceEq, hfl, hfl1, hfl2, hfl3, hfl4, hfl5, hfl6, NE, UN, b_andNot, NE9, Nat.add_assoc, f1, f2, f3, f4, so]
  refine call_of (c2 _ _) ?_
  simp only [↓R1, R2, R3, R4, TY, reduceIte, Nat.reduceEqDiff, Nat.reduceAdd, Nat.reduceMul, Nat.reduceLT, Nat.reduceLeDiff, reduceCtorEq, decide_true, decide_false, Int.reduceLE, Int.reduceLT, Int.reduceToNat, Int.reduceAdd, Int.reduceSub, Int.reduceMul, Int.reduceEq, hfl, hfl1, hfl2, hfl3, hfl4, hfl5, hfl6, NE, UN, b_andNot, NE9, Nat.add_assoc, f1, f2, f3, f4, so]
  refine call_of (o0 _ _) ?_
  simp only [↓R1, R2, R3, R4, TY, reduceIte, Nat.reduceEqDiff, Nat.reduceAdd, Nat.reduceMul, Nat.reduceLT, Nat.reduceLeDiff, reduceCtorEq, decide_true, decide_false, Int.reduceLE, Int.reduceLT, Int.reduceToNat, Int.reduceAdd, Int.reduceSub, Int.reduceMul, Int.reduceEq, hfl, hfl1, hfl2, hfl3, hfl4, hfl5, hfl6, NE, UN, b_andNot, NE9, Nat.add_assoc, f1, f2, f3, f4, so]
  refine call_of (x1 _ _) ?_
  simp only [↓R1, R2, R3, R4, TY, reduceIte, Nat.reduceEqDiff, Nat.reduceAdd, Nat.reduceMul, Nat.reduceLT, Nat.reduceLeDiff, reduceCtorEq, decide_true, decide_false, Int.reduceLE, Int.reduceLT, Int.reduceToNat, Int.reduceAdd, Int.reduceSub, Int.reduceMul, Int.reduceEq, hfl, hfl1, hfl2, hfl3, hfl4, hfl5, hfl6, NE, UN, b_andNot, NE9, Nat.add_assoc, f1, f2, f3, f4, so]
  refine call_of (un1 _ _) ?_
  simp only [↓R1, R2, R3, R4, TY, reduceIte, Nat.reduceEqDiff, Nat.reduceAdd, Nat.reduceMul, Nat.reduceLT, Nat.reduceLeDiff, reduceCtorEq, decide_true, decide_false, Int.reduceLE, Int.reduceLT, Int.reduceToNat, Int.reduceAdd, Int.reduceSub, Int.reduceMul, Int.reduceEq, hfl, hfl1, hfl2, hfl3, hfl4, hfl5, hfl6, NE, UN, b_andNot, NE9, Nat.add_assoc, f1, f2, f3, f4, so]
  refine call_of (o0 _ _) ?_
  simp only [↓R1, R2, R3, R4, TY, reduceIte, Nat.reduceEqDiff, Nat.reduceAdd, Nat.reduceMul, Nat.reduceLT, Nat.reduceLeDiff, reduceCtorEq, decide_true, decide_false, Int.reduceLE, Int.reduceLT, Int.reduceToNat, Int.reduceAdd, Int.reduceSub, Int.reduceMul, Int.reduceEq, hfl, hfl1, hfl2, hfl3, hfl4, hfl5, hfl6, NE, UN, b_andNot, NE9, Nat.add_assoc, f1, f2, f3, f4, so]
  refine call_of (x2 _ _) ?_
  simp only [↓R1, R2, R3, R4, TY, reduceIte, Nat.reduceEqDiff, Nat.reduceAdd, Nat.reduceMul, Nat.reduceLT, Nat.reduceLeDiff, reduceCtorEq, decide_true, decide_false, Int.reduceLE, Int.reduceLT, Int.reduceToNat, Int.reduceAdd, Int.reduceSub, Int.reduceMul, Int.reduceEq, hfl, hfl1, hfl2, hfl3, hfl4, hfl5, hfl6, NE, UN, b_andNot, NE9, Nat.add_assoc, f1, f2, f3, f4, so]
  refine call_of (ov1 _ _) ?_
  simp only [↓R1, R2, R3, R4, TY, reduceIte, Nat.reduceEqDiff, Nat.reduceAdd, Nat.reduceMul, Nat.reduceLT, Nat.reduceLeDiff, reduceCtorEq, decide_true, decide_false, Int.reduceLE, Int.reduceLT, Int.reduceToNat, Int.reduceAdd, Int.reduceSub, Int.reduceMul, Int.reduceEq, hfl, hfl1, hfl2, hfl3, hfl4, hfl5, hfl6, NE, UN, b_andNot, NE9, Nat.add_assoc, f1, f2, f3, f4, so]
  refine call_of (s1 _ _) ?_
  simp only [↓R1, R2, R3, R4, TY, reduceIte, Nat.reduceEqDiff, Nat.reduceAdd, Nat.reduceMul, Nat.reduceLT, Nat.reduceLeDiff, reduceCtorEq, decide_true, decide_false, Int.reduceLE, Int.reduceLT, Int.reduceToNat, Int.reduceAdd, Int.reduceSub, Int.reduceMul, Int.reduceEq, hfl, hfl1, hfl2, hfl3, hfl4, hfl5, hfl6, NE, UN, b_andNot, NE9, Nat.add_assoc, f1, f2, f3, f4, so]
  refine call_of (n1 _ _) ?_
  simp only [↓R1, R2, R3, R4, TY, reduceIte, Nat.reduceEqDiff, Nat.reduceAdd, Nat.reduceMul, Nat.reduceLT, Nat.reduceLeDiff, reduceCtorEq, decide_true, decide_false, Int.reduceLE, Int.reduceLT, Int.reduceToNat, Int.reduceAdd, Int.reduceSub, Int.reduceMul, Int.reduceEq, hfl, hfl1, hfl2, hfl3, hfl4, hfl5, hfl6, NE, UN, b_andNot, NE9, Nat.add_assoc, f1, f2, f3, f4, so]
  refine call_of (ov2 _ _) ?_
  simp only [↓R1, R2, R3, R4, TY, reduceIte, Nat.reduceEqDiff, Nat.reduceAdd, Nat.reduceMul, Nat.reduceLT, Nat.reduceLeDiff, reduceCtorEq, decide_true, decide_false, Int.reduceLE, Int.reduceLT, Int.reduceToNat, Int.reduceAdd, Int.reduceSub, Int.reduceMul, Int.reduceEq, hfl, hfl1, hfl2, hfl3, hfl4, hfl5, hfl6, NE, UN, b_andNot, NE9, Nat.add_assoc, f1, f2, f3, f4, so]
  refine call_of (s2 _ _) ?_
  simp only [↓R1, R2, R3, R4, TY, reduceIte, Nat.reduceEqDiff, Nat.reduceAdd, Nat.reduceMul, Nat.reduceLT, Nat.reduceLeDiff, reduceCtorEq, decide_true, decide_false, Int.reduceLE, Int.reduceLT, Int.reduceToNat, Int.reduceAdd, Int.reduceSub, Int.reduceMul, Int.reduceEq, hfl, hfl1, hfl2, hfl3, hfl4, hfl5, hfl6, NE, UN, b_andNot, NE9, Nat.add_assoc, f1, f2, f3, f4, so]
  refine Ended.back hA ?_ rfl (three_rb _ _ _)
  simp (maxDischargeDepth := 20) only [xt_push, xt_put, xt_refl, Nat.le_refl, Nat.le_add_right, Nat.add_assoc, Nat.reduceAdd]

set_option maxHeartbeats 2000000 in
theorem to_nn0 {p q : Rat} {k : Nat} (hG : G 2 = some tabV) (hp : Rz p k) (hq : Rz q k) (hk : k ≤ 1000) (hpq : p ≤ q) (h1 : ¬ p < -mx) (h2 : ¬ mx < q) {u v v' : Nat} (hu : Un (rmax p (rOf 0)) u) (hv : Ov (rmax q (rOf 0)) v) (hv' : Un (rmax q (rOf 0)) v') (g1 : p < 0) (g2 : q < 0) {u1 v1 u2 : Nat} (hu1 : Un (-p) u1) (hv1 : Ov (-p) v1) (hu2 : Un (-q) u2) (h0 : 0 < u2) : Sound Tryd.prog G 7 [prV p q] fl A (.tuple [Value.int .u64 (v1 + 9223372036854775808 : Nat), Value.int .u64 (u2 + 9223372036854775808 : Nat), Value.int .i64 0].toArray) A := by
  refine Sound.of mixed Tryd.func7 Tryd.ntmps7 Tryd.results7 (by kernel_rfl) rfl (by kernel_rfl) (by simp) fun hA => ?_
  have hfl : fl ≤ A.next := by have := hA.floor; omega
  have hfl1 : fl ≤ A.next + 1 := by have := hA.floor; omega
  have hfl2 : fl ≤ A.next + 2 := by have := hA.floor; omega
  have hfl3 : fl ≤ A.next + 3 := by have := hA.floor; omega
  have hfl4 : fl ≤ A.next + 4 := by have := hA.floor; omega
  have hfl5 : fl ≤ A.next + 5 := by have := hA.floor; omega
  have hfl6 : fl ≤ A.next + 6 := by have := hA.floor; omega
  have m1 : 9218868437227405311 < 9218868437227405312 := by decide
  have hz0 : Rz (rOf 0) 1 := Rz.of (nb_len_le.2 (by decide)) (by decide)
  have gd := fun fl A => sgood (G := G) (fl := fl) (A := A) hG hp hq (Nat.le_trans hk (by decide))
  have fb := fun fl A => f64_ok (G := G) (fl := fl) (A := A) 9218868437227405311
  have ex := fun fl A => exact_ok (G := G) (fl := fl) (A := A) (b := 9218868437227405311) hG (by decide)
  have ng := fun fl A => qneg (G := G) (fl := fl) (A := A) hG (exq_rz (b := 9218868437227405311) (by decide)) (by decide)
  have c1 := fun fl A => qcmp (G := G) (fl := fl) (A := A) hG hp (exq_rz (b := 9218868437227405311) (by decide)).neg (Nat.le_trans (Nat.add_le_add_right hk 150) (by decide))
  have c2 := fun fl A => qcmp (G := G) (fl := fl) (A := A) hG hq (exq_rz (b := 9218868437227405311) (by decide)) (Nat.le_trans (Nat.add_le_add_right hk 150) (by decide))
  simp only [decide_eq_true hpq] at gd
  simp only [← mx_def] at ex ng c1 c2
  have f1 : (rcmp p (-mx) < 0) = False := eq_false (mt rcmp_lt_iff.1 h1)
  have f2 : (0 < rcmp q mx) = False := eq_false (mt rcmp_gt.1 h2)
  have zp := hp.max (hz0.mono hp.pos)
  have zq := hq.max (hz0.mono hq.pos)
  have o0 := fun fl A => rof_ok (G := G) (fl := fl) (A := A) (n := 0) (by decide) (by decide)
  have x1 := fun fl A => qmax (G := G) (fl := fl) (A := A) hG hp hz0 (Nat.le_trans (Nat.add_le_add_right hk 1) (by decide))
  have x2 := fun fl A => qmax (G := G) (fl := fl) (A := A) hG hq hz0 (Nat.le_trans (Nat.add_le_add_right hk 1) (by decide))
  have un1 := fun fl A => under_ok (G := G) (fl := fl) (A := A) hG zp hk hu
  have ov1 := fun fl A => over_ok (G := G) (fl := fl) (A := A) hG zq hk hv' hv
  have s1 := fun fl A => qsign (G := G) (fl := fl) (A := A) hG hp (Nat.le_trans hk (by decide))
  have s2 := fun fl A => qsign (G := G) (fl := fl) (A := A) hG hq (Nat.le_trans hk (by decide))
  have n1 := fun fl A => qneg (G := G) (fl := fl) (A := A) hG hp (Nat.le_trans hk (by decide))
  have n2 := fun fl A => qneg (G := G) (fl := fl) (A := A) hG hq (Nat.le_trans hk (by decide))
  have f3 : (rsign p < 0) = True := eq_true (rsign_lt.2 g1)
  have f4 : (rsign q < 0) = True := eq_true (rsign_lt.2 g2)
  have ov2 := fun fl A => over_ok (G := G) (fl := fl) (A := A) hG hp.neg hk hu1 hv1
  have un2 := fun fl A => under_ok (G := G) (fl := fl) (A := A) hG hq.neg hk hu2
  have so := sign_or (lt63 hv1.1)
  have so2 := sign_or' (lt63 hu2.1)
  have f5 : ((0 : Int) < ((u2 : Nat) : Int)) = True := eq_true (by omega)
  generalize rmax p (rOf 0) = mp at *
  generalize rmax q (rOf 0) = mq at *
  generalize rOf 0 = z0 at *
  simp only [ratV_def] at fb ex ng c1 c2 o0 x1 un1 x2 ov1 s1 s2 n1 n2 ov2 un2
  simp only [prV_def] at gd ⊢
  simp only [↓R1, R2, R3, R4, TY, reduceIte, Nat.reduceEqDiff, Nat.reduceAdd, Nat.reduceMul, Nat.reduceLT, Nat.reduceLeDiff, reduceCtorEq, decide_true, decide_false, Int.reduceLE, Int.reduceLT, Int.reduceToNat, Int.reduceAdd, Int.reduceSub, Int.reduceMul, Int.reduceEq, hfl, hfl1, hfl2, hfl3, hfl4, hfl5, hfl6, NE, UN, b_andNot, NE9, Nat.add_assoc, f1, f2, f3, f4, f5, so, so2]
  refine call_of (gd _ _) ?_
  simp only [↓R1, R2, R3, R4, TY, reduceIte, Nat.reduceEqDiff, Nat.reduceAdd, Nat.reduceMul, Nat.reduceLT, Nat.reduceLeDiff, reduceCtorEq, decide_true, decide_false, Int.reduceLE, Int.reduceLT, Int.reduceToNat, Int.reduceAdd, Int.reduceSub, Int.reduceMul, Int.reduceEq, hfl, hfl1, hfl2, hfl3, hfl4, hfl5, hfl6, NE, UN, b_andNot, NE9, Nat.add_assoc, f1, f2, f3, f4, f5, so, so2]
  refine call_of (fb _ _) ?_
  simp only [↓R1, R2, R3, R4, TY, reduceIte, Nat.reduceEqDiff, Nat.reduceAdd, Nat.reduceMul, Nat.reduceLT, Nat.reduceLeDiff, reduceCtorEq, decide_true, decide_false, Int.reduceLE, Int.reduceLT, Int.reduceToNat, Int.reduceAdd, Int.reduceSub, Int.reduceMul, Int.reduceEq, hfl, hfl1, hfl2, hfl3, hfl4, hfl5, hfl6, NE, UN, b_andNot, NE9, Nat.add_assoc, f1, f2, f3, f4, f5, so, so2]
  refine call_of (ex _ _) ?_
  simp only [↓R1, R2, R3, R4, TY, reduceIte, Nat.reduceEqDiff, Nat.reduceAdd, Nat.reduceMul, Nat.reduceLT, Nat.reduceLeDiff, reduceCtorEq, decide_true, decide_false, Int.reduceLE, Int.reduceLT, Int.reduceToNat, Int.reduceAdd, Int.reduceSub, Int.reduceMul, Int.reduceEq, hfl, hfl1, hfl2, hfl3, hfl4, hfl5, hfl6, NE, UN, b_andNot, NE9, Nat.add_assoc, f1, f2, f3, f4, f5, so, so2]
  refine call_of (ng _ _) ?_
  simp only [↓R1, R2, R3, R4, TY, reduceIte, Nat.reduceEqDiff, Nat.reduceAdd, Nat.reduceMul, Nat.reduceLT, Nat.reduceLeDiff, reduceCtorEq, decide_true, decide_false, Int.reduceLE, Int.reduceLT, Int.reduceToNat, Int.reduceAdd, Int.reduceSub, Int.reduceMul, Int.reduceEq, hfl, hfl1, hfl2, hfl3, hfl4, hfl5, hfl6, NE, UN, b_andNot, NE9, Nat.add_assoc, f1, f2, f3, f4, f5, so, so2]
  refine call_of (c1 _ _) ?_
  simp only [↓R1, R2, R3, R4, TY, reduceIte, Nat.reduceEqDiff, Nat.reduceAdd, Nat.reduceMul, Nat.reduceLT, Nat.reduceLeDiff, reduceCtorEq, decide_true, decide_false, Int.reduceLE, Int.reduceLT, Int.reduceToNat, Int.reduceAdd, Int.reduceSub, Int.reduceMul, Int.reduceEq, hfl, hfl1, hfl2, hfl3, hfl4, hfl5, hfl6, NE, UN, b_andNot, NE9, Nat.add_assoc, f1, f2, f3, f4, f5, so, so2]
  refine call_of (c2 _ _) ?_
  simp only [↓R1, R2, R3, R4, TY, reduceIte, Nat.reduceEqDiff, Nat.reduceAdd, Nat.reduceMul, Nat.reduceLT, Nat.reduceLeDiff, reduceCtorEq, decide_true, decide_false, Int.reduceLE, Int.reduceLT, Int.reduceToNat, Int.reduceAdd, Int.reduceSub, Int.reduceMul, Int.reduceEq, hfl, hfl1, hfl2, hfl3, hfl4, hfl5, hfl6, NE, UN, b_andNot, NE9, Nat.add_assoc, f1, f2, f3, f4, f5, so, so2]
  refine call_of (o0 _ _) ?_
  simp only [↓R1, R2, R3, R4, TY, reduceIte, Nat.reduceEqDiff, Nat.reduceAdd, Nat.reduceMul, Nat.reduceLT, Nat.reduceLeDiff, reduceCtorEq, decide_true, decide_false, Int.reduceLE, Int.reduceLT, Int.reduceToNat, Int.reduceAdd, Int.reduceSub, Int.reduceMul, Int.reduceEq, hfl, hfl1, hfl2, hfl3, hfl4, hfl5, hfl6, NE, UN, b_andNot, NE9, Nat.add_assoc, f1, f2, f3, f4, f5, so, so2]
  refine call_of (x1 _ _) ?_
  simp only [↓R1, R2, R3, R4, TY, reduceIte, Nat.reduceEqDiff, Nat.reduceAdd, Nat.reduceMul, Nat.reduceLT, Nat.reduceLeDiff, reduceCtorEq, decide_true, decide_false, Int.reduceLE, Int.reduceLT, Int.reduceToNat, Int.reduceAdd, Int.reduceSub, Int.reduceMul, Int.reduceEq, hfl, hfl1, hfl2, hfl3, hfl4, hfl5, hfl6, NE, UN, b_andNot, NE9, Nat.add_assoc, f1, f2, f3, f4, f5, so, so2]
  refine call_of (un1 _ _) ?_
  simp only [↓R1, R2, R3, R4, TY, reduceIte, Nat.reduceEqDiff, Nat.reduceAdd, Nat.reduceMul, Nat.reduceLT, Nat.reduceLeDiff, reduceCtorEq, decide_true, decide_false, Int.reduceLE, Int.reduceLT, Int.reduceToNat, Int.reduceAdd, Int.reduceSub, Int.reduceMul, Int.reduceEq, hfl, hfl1, hfl2, hfl3, hfl4, hfl5, hfl6, NE, UN, b_andNot, NE9, Nat.add_assoc, f1, f2, f3, f4, f5, so, so2]
  refine call_of (o0 _ _) ?_
  simp only [↓R1, R2, R3, R4, TY, reduceIte, Nat.reduceEqDiff, Nat.reduceAdd, Nat.reduceMul, Nat.reduceLT, Nat.reduceLeDiff, reduceCtorEq, decide_true, decide_false, Int.reduceLE, Int.reduceLT, Int.reduceToNat, Int.reduceAdd, Int.reduceSub, Int.reduceMul, Int.reduceEq, hfl, hfl1, hfl2, hfl3, hfl4, hfl5, hfl6, NE, UN, b_andNot, NE9, Nat.add_assoc, f1, f2, f3, f4, f5, so, so2]
  refine call_of (x2 _ _) ?_
  simp only [↓R1, R2, R3, R4, TY, reduceIte, Nat.reduceEqDiff, Nat.reduceAdd, Nat.reduceMul, Nat.reduceLT, Nat.reduceLeDiff, reduceCtorEq, decide_true, decide_false, Int.reduceLE, Int.reduceLT, Int.reduceToNat, Int.reduceAdd, Int.reduceSub, Int.reduceMul, Int.reduceEq, hfl, hfl1, hfl2, hfl3, hfl4, hfl5, hfl6, NE, UN, b_andNot, NE9, Nat.add_assoc, f1, f2, f3, f4, f5, so, so2]
  refine call_of (ov1 _ _) ?_
  simp only [↓R1, R2, R3, R4, TY, reduceIte, Nat.reduceEqDiff, Nat.reduceAdd, Nat.reduceMul, Nat.reduceLT, Nat.reduceLeDiff, reduceCtorEq, decide_true, decide_false, Int.reduceLE, Int.reduceLT, Int.reduceToNat, Int.reduceAdd, Int.reduceSub, Int.reduceMul, Int.reduceEq, hfl, hfl1, hfl2, hfl3, hfl4, hfl5, hfl6, NE, UN, b_andNot, NE9, Nat.add_assoc, f1, f2, f3, f4, f5, so, so2]
  refine call_of (s1 _ _) ?_
  simp only [↓R1, R2, R3, R4, TY, reduceIte, Nat.reduceEqDiff, Nat.reduceAdd, Nat.reduceMul, Nat.reduceLT, Nat.reduceLeDiff, reduceCtorEq, decide_true, decide_false, Int.reduceLE, Int.reduceLT, Int.reduceToNat, Int.reduceAdd, Int.reduceSub, Int.reduceMul, Int.reduceEq, hfl, hfl1, hfl2, hfl3, hfl4, hfl5, hfl6, NE, UN, b_andNot, NE9, Nat.add_assoc, f1, f2, f3, f4, f5, so, so2]
  refine call_of (n1 _ _) ?_
  simp only [↓R1, R2, R3, R4, TY, reduceIte, Nat.reduceEqDiff, Nat.reduceAdd, Nat.reduceMul, Nat.reduceLT, Nat.reduceLeDiff, reduceCtorEq, decide_true, decide_false, Int.reduceLE, Int.reduceLT, Int.reduceToNat, Int.reduceAdd, Int.reduceSub, Int.reduceMul, Int.reduceEq, hfl, hfl1, hfl2, hfl3, hfl4, hfl5, hfl6, NE, UN, b_andNot, NE9, Nat.add_assoc, f1, f2, f3, f4, f5, so, so2]
  refine call_of (ov2 _ _) ?_
  simp only [↓R1, R2, R3, R4, TY, reduceIte, Nat.reduceEqDiff, Nat.reduceAdd, Nat.reduceMul, Nat.reduceLT, Nat.reduceLeDiff, reduceCtorEq, decide_true, decide_false, Int.reduceLE, Int.reduceLT, Int.reduceToNat, Int.reduceAdd, Int.reduceSub, Int.reduceMul, Int.reduceEq, hfl, hfl1, hfl2, hfl3, hfl4, hfl5, hfl6, NE, UN, b_andNot, NE9, Nat.add_assoc, f1, f2, f3, f4, f5, so, so2]
  refine call_of (s2 _ _) ?_
  simp only [↓R1, R2, R3, R4, TY, reduceIte, Nat.reduceEqDiff, Nat.reduceAdd, Nat.reduceMul, Nat.reduceLT, Nat.reduceLeDiff, reduceCtorEq, decide_true, decide_false, Int.reduceLE, Int.reduceLT, Int.reduceToNat, Int.reduceAdd, Int.reduceSub, Int.reduceMul, Int.reduceEq, hfl, hfl1, hfl2, hfl3, hfl4, hfl5, hfl6, NE, UN, b_andNot, NE9, Nat.add_assoc, f1, f2, f3, f4, f5, so, so2]
  refine call_of (n2 _ _) ?_
  simp only [↓R1, R2, R3, R4, TY, reduceIte, Nat.reduceEqDiff, Nat.reduceAdd, Nat.reduceMul, Nat.reduceLT, Nat.reduceLeDiff, reduceCtorEq, decide_true, decide_false, Int.reduceLE, Int.reduceLT, Int.reduceToNat, Int.reduceAdd, Int.reduceSub, Int.reduceMul, Int.reduceEq, hfl, hfl1, hfl2, hfl3, hfl4, hfl5, hfl6, NE, UN, b_andNot, NE9, Nat.add_assoc, f1, f2, f3, f4, f5, so, so2]
  refine call_of (un2 _ _) ?_
  simp only [↓R1, R2, R3, R4, TY, reduceIte, Nat.reduceEqDiff, Nat.reduceAdd, Nat.reduceMul, Nat.reduceLT, Nat.reduceLeDiff, reduceCtorEq, decide_true, decide_false, Int.reduceLE, Int.reduceLT, Int.reduceToNat, Int.reduceAdd, Int.reduceSub, Int.reduceMul, Int.reduceEq, hfl, hfl1, hfl2, hfl3, hfl4, hfl5, hfl6, NE, UN, b_andNot, NE9, Nat.add_assoc, f1, f2, f3, f4, f5, so, so2]
  refine Ended.back hA ?_ rfl (three_rb _ _ _)
  simp (maxDischargeDepth := 20) only [xt_push, xt_put, xt_refl, Nat.le_refl, Nat.le_add_right, Nat.add_assoc, Nat.reduceAdd]

set_option maxHeartbeats 2000000 in
theorem to_nn1 {p q : Rat} {k : Nat} (hG : G 2 = some tabV) (hp : Rz p k) (hq : Rz q k) (hk : k ≤ 1000) (hpq : p ≤ q) (h1 : ¬ p < -mx) (h2 : ¬ mx < q) {u v v' : Nat} (hu : Un (rmax p (rOf 0)) u) (hv : Ov (rmax q (rOf 0)) v) (hv' : Un (rmax q (rOf 0)) v') (g1 : p < 0) (g2 : q < 0) {u1 v1 u2 : Nat} (hu1 : Un (-p) u1) (hv1 : Ov (-p) v1) (hu2 : Un (-q) u2) (h0 : u2 = 0) : Sound Tryd.prog G 7 [prV p q] fl A (.tuple [Value.int .u64 (v1 + 9223372036854775808 : Nat), Value.int .u64 (0 : Nat), Value.int .i64 0].toArray) A := by
  refine Sound.of mixed Tryd.func7 Tryd.ntmps7 Tryd.results7 (by kernel_rfl) rfl (by kernel_rfl) (by simp) fun hA => ?_
  have hfl : fl ≤ A.next := by have := hA.floor; omega
  have hfl1 : fl ≤ A.next + 1 := by have := hA.floor; omega
  have hfl2 : fl ≤ A.next + 2 := by have := hA.floor; omega
  have hfl3 : fl ≤ A.next + 3 := by have := hA.floor; omega
  have hfl4 : fl ≤ A.next + 4 := by have := hA.floor; omega
  have hfl5 : fl ≤ A.next + 5 := by have := hA.floor; omega
  have hfl6 : fl ≤ A.next + 6 := by have := hA.floor; omega
  have m1 : 9218868437227405311 < 9218868437227405312 := by decide
  have hz0 : Rz (rOf 0) 1 := Rz.of (nb_len_le.2 (by decide)) (by decide)
  have gd := fun fl A => sgood (G := G) (fl := fl) (A := A) hG hp hq (Nat.le_trans hk (by decide))
  have fb := fun fl A => f64_ok (G := G) (fl := fl) (A := A) 9218868437227405311
  have ex := fun fl A => exact_ok (G := G) (fl := fl) (A := A) (b := 9218868437227405311) hG (by decide)
  have ng := fun fl A => qneg (G := G) (fl := fl) (A := A) hG (exq_rz (b := 9218868437227405311) (by decide)) (by decide)
  have c1 := fun fl A => qcmp (G := G) (fl := fl) (A := A) hG hp (exq_rz (b := 9218868437227405311) (by decide)).neg (Nat.le_trans (Nat.add_le_add_right hk 150) (by decide))
  have c2 := fun fl A => qcmp (G := G) (fl := fl) (A := A) hG hq (exq_rz (b := 9218868437227405311) (by decide)) (Nat.le_trans (Nat.add_le_add_right hk 150) (by decide))
  simp only [decide_eq_true hpq] at gd
  simp only [← mx_def] at ex ng c1 c2
  have f1 : (rcmp p (-mx) < 0) = False := eq_false (mt rcmp_lt_iff.1 h1)
  have f2 : (0 < rcmp q mx) = False := eq_false (mt rcmp_gt.1 h2)
  have zp := hp.max (hz0.mono hp.pos)
  have zq := hq.max (hz0.mono hq.pos)
  have o0 := fun fl A => rof_ok (G := G) (fl := fl) (A := A) (n := 0) (by decide) (by decide)
  have x1 := fun fl A => qmax (G := G) (fl := fl) (A := A) hG hp hz0 (Nat.le_trans (Nat.add_le_add_right hk 1) (by decide))
  have x2 := fun fl A => qmax (G := G) (fl := fl) (A := A) hG hq hz0 (Nat.le_trans (Nat.add_le_add_right hk 1) (by decide))
  have un1 := fun fl A => under_ok (G := G) (fl := fl) (A := A) hG zp hk hu
  have ov1 := fun fl A => over_ok (G := G) (fl := fl) (A := A) hG zq hk hv' hv
  have s1 := fun fl A => qsign (G := G) (fl := fl) (A := A) hG hp (Nat.le_trans hk (by decide))
  have s2 := fun fl A => qsign (G := G) (fl := fl) (A := A) hG hq (Nat.le_trans hk (by decide))
  have n1 := fun fl A => qneg (G := G) (fl := fl) (A := A) hG hp (Nat.le_trans hk (by decide))
  have n2 := fun fl A => qneg (G := G) (fl := fl) (A := A) hG hq (Nat.le_trans hk (by decide))
  have f3 : (rsign p < 0) = True := eq_true (rsign_lt.2 g1)
  have f4 : (rsign q < 0) = True := eq_true (rsign_lt.2 g2)
  have ov2 := fun fl A => over_ok (G := G) (fl := fl) (A := A) hG hp.neg hk hu1 hv1
  have un2 := fun fl A => under_ok (G := G) (fl := fl) (A := A) hG hq.neg hk hu2
  have so := sign_or (lt63 hv1.1)
  have so2 := sign_or' (lt63 hu2.1)
  have f5 : ((0 : Int) < ((u2 : Nat) : Int)) = False := eq_false (by omega)
  generalize rmax p (rOf 0) = mp at *
  generalize rmax q (rOf 0) = mq at *
  generalize rOf 0 = z0 at *
  simp only [ratV_def] at fb ex ng c1 c2 o0 x1 un1 x2 ov1 s1 s2 n1 n2 ov2 un2
  simp only [prV_def] at gd ⊢
  simp only [↓R1, R2, R3, R4, TY, reduceIte, Nat.reduceEqDiff, Nat.reduceAdd, Nat.reduceMul, Nat.reduceLT, Nat.reduceLeDiff, reduceCtorEq, decide_true, decide_false, Int.reduceLE, Int.reduceLT, Int.reduceToNat, Int.reduceAdd, Int.reduceSub, Int.reduceMul, Int.reduceEq, hfl, hfl1, hfl2, hfl3, hfl4, hfl5, hfl6, NE, UN, b_andNot, NE9, Nat.add_assoc, f1, f2, f3, f4, f5, so, so2]
  refine call_of (gd _ _) ?_
  simp only [↓R1, R2, R3, R4, TY, reduceIte, Nat.reduceEqDiff, Nat.reduceAdd, Nat.reduceMul, Nat.reduceLT, Nat.reduceLeDiff, reduceCtorEq, decide_true, decide_false, Int.reduceLE, Int.reduceLT, Int.reduceToNat, Int.reduceAdd, Int.reduceSub, Int.reduceMul, Int.reduceEq, hfl, hfl1, hfl2, hfl3, hfl4, hfl5, hfl6, NE, UN, b_andNot, NE9, Nat.add_assoc, f1, f2, f3, f4, f5, so, so2]
  refine call_of (fb _ _) ?_
  simp only [↓R1, R2, R3, R4, TY, reduceIte, Nat.reduceEqDiff, Nat.reduceAdd, Nat.reduceMul, Nat.reduceLT, Nat.reduceLeDiff, reduceCtorEq, decide_true, decide_false, Int.reduceLE, Int.reduceLT, Int.reduceToNat, Int.reduceAdd, Int.reduceSub, Int.reduceMul, Int.reduceEq, hfl, hfl1, hfl2, hfl3, hfl4, hfl5, hfl6, NE, UN, b_andNot, NE9, Nat.add_assoc, f1, f2, f3, f4, f5, so, so2]
  refine call_of (ex _ _) ?_
  simp only [↓R1, R2, R3, R4, TY, reduceIte, Nat.reduceEqDiff, Nat.reduceAdd, Nat.reduceMul, Nat.reduceLT, Nat.reduceLeDiff, reduceCtorEq, decide_true, decide_false, Int.reduceLE, Int.reduceLT, Int.reduceToNat, Int.reduceAdd, Int.reduceSub, Int.reduceMul, Int.reduceEq, hfl, hfl1, hfl2, hfl3, hfl4, hfl5, hfl6, NE, UN, b_andNot, NE9, Nat.add_assoc, f1, f2, f3, f4, f5, so, so2]
  refine call_of (ng _ _) ?_
  simp only [↓R1, R2, R3, R4, TY, reduceIte, Nat.reduceEqDiff, Nat.reduceAdd, Nat.reduceMul, Nat.reduceLT, Nat.reduceLeDiff, reduceCtorEq, decide_true, decide_false, Int.reduceLE, Int.reduceLT, Int.reduceToNat, Int.reduceAdd, Int.reduceSub, Int.reduceMul, Int.reduceEq, hfl, hfl1, hfl2, hfl3, hfl4, hfl5, hfl6, NE, UN, b_andNot, NE9, Nat.add_assoc, f1, f2, f3, f4, f5, so, so2]
  refine call_of (c1 _ _) ?_
  simp only [↓R1, R2, R3, R4, TY, reduceIte, Nat.reduceEqDiff, Nat.reduceAdd, Nat.reduceMul, Nat.reduceLT, Nat.reduceLeDiff, reduceCtorEq, decide_true, decide_false, Int.reduceLE, Int.reduceLT, Int.reduceToNat, Int.reduceAdd, Int.reduceSub, Int.reduceMul, Int.reduceEq, hfl, hfl1, hfl2, hfl3, hfl4, hfl5, hfl6, NE, UN, b_andNot, NE9, Nat.add_assoc, f1, f2, f3, f4, f5, so, so2]
  refine call_of (c2 _ _) ?_
  simp only [↓R1, R2, R3, R4, TY, reduceIte, Nat.reduceEqDiff, Nat.reduceAdd, Nat.reduceMul, Nat.reduceLT, Nat.reduceLeDiff, reduceCtorEq, decide_true, decide_false, Int.reduceLE, Int.reduceLT, Int.reduceToNat, Int.reduceAdd, Int.reduceSub, Int.reduceMul, Int.reduceEq, hfl, hfl1, hfl2, hfl3, hfl4, hfl5, hfl6, NE, UN, b_andNot, NE9, Nat.add_assoc, f1, f2, f3, f4, f5, so, so2]
  refine call_of (o0 _ _) ?_
  simp only [↓R1, R2, R3, R4, TY, reduceIte, Nat.reduceEqDiff, Nat.reduceAdd, Nat.reduceMul, Nat.reduceLT, Nat.reduceLeDiff, reduceCtorEq, decide_true, decide_false, Int.reduceLE, Int.reduceLT, Int.reduceToNat, Int.reduceAdd, Int.reduceSub, Int.reduceMul, Int.reduceEq, hfl, hfl1, hfl2, hfl3, hfl4, hfl5, hfl6, NE, UN, b_andNot, NE9, Nat.add_assoc, f1, f2, f3, f4, f5, so, so2]
  refine call_of (x1 _ _) ?_
  simp only [↓R1, R2, R3, R4, TY, reduceIte, Nat.reduceEqDiff, Nat.reduceAdd, Nat.reduceMul, Nat.reduceLT, Nat.reduceLeDiff, reduceCtorEq, decide_true, decide_false, Int.reduceLE, Int.reduceLT, Int.reduceToNat, Int.reduceAdd, Int.reduceSub, Int.reduceMul, Int.reduceEq, hfl, hfl1, hfl2, hfl3, hfl4, hfl5, hfl6, NE, UN, b_andNot, NE9, Nat.add_assoc, f1, f2, f3, f4, f5, so, so2]
  refine call_of (un1 _ _) ?_
  simp only [↓R1, R2, R3, R4, TY, reduceIte, Nat.reduceEqDiff, Nat.reduceAdd, Nat.reduceMul, Nat.reduceLT, Nat.reduceLeDiff, reduceCtorEq, decide_true, decide_false, Int.reduceLE, Int.reduceLT, Int.reduceToNat, Int.reduceAdd, Int.reduceSub, Int.reduceMul, Int.reduceEq, hfl, hfl1, hfl2, hfl3, hfl4, hfl5, hfl6, NE, UN, b_andNot, NE9, Nat.add_assoc, f1, f2, f3, f4, f5, so, so2]
  refine call_of (o0 _ _) ?_
  simp only [↓R1, R2, R3, R4, TY, reduceIte, Nat.reduceEqDiff, Nat.reduceAdd, Nat.reduceMul, Nat.reduceLT, Nat.reduceLeDiff, reduceCtorEq, decide_true, decide_false, Int.reduceLE, Int.reduceLT, Int.reduceToNat, Int.reduceAdd, Int.reduceSub, Int.reduceMul, Int.reduceEq, hfl, hfl1, hfl2, hfl3, hfl4, hfl5, hfl6, NE, UN, b_andNot, NE9, Nat.add_assoc, f1, f2, f3, f4, f5, so, so2]
  refine call_of (x2 _ _) ?_
  simp only [↓R1, R2, R3, R4, TY, reduceIte, Nat.reduceEqDiff, Nat.reduceAdd, Nat.reduceMul, Nat.reduceLT, Nat.reduceLeDiff, reduceCtorEq, decide_true, decide_false, Int.reduceLE, Int.reduceLT, Int.reduceToNat, Int.reduceAdd, Int.reduceSub, Int.reduceMul, Int.reduceEq, hfl, hfl1, hfl2, hfl3, hfl4, hfl5, hfl6, NE, UN, b_andNot, NE9, Nat.add_assoc, f1, f2, f3, f4, f5, so, so2]
  refine call_of (ov1 _ _) ?_
  simp only [↓R1, R2, R3, R4, TY, reduceIte, Nat.reduceEqDiff, Nat.reduceAdd, Nat.reduceMul, Nat.reduceLT, Nat.reduceLeDiff, reduceCtorEq, decide_true, decide_false, Int.reduceLE, Int.reduceLT, Int.reduceToNat, Int.reduceAdd, Int.reduceSub, Int.reduceMul, Int.reduceEq, hfl, hfl1, hfl2, hfl3, hfl4, hfl5, hfl6, NE, UN, b_andNot, NE9, Nat.add_assoc, f1, f2, f3, f4, f5, so, so2]
  refine call_of (s1 _ _) ?_
  simp only [↓R1, R2, R3, R4, TY, reduceIte, Nat.reduceEqDiff, Nat.reduceAdd, Nat.reduceMul, Nat.reduceLT, Nat.reduceLeDiff, reduceCtorEq, decide_true, decide_false, Int.reduceLE, Int.reduceLT, Int.reduceToNat, Int.reduceAdd, Int.reduceSub, Int.reduceMul, Int.reduceEq, hfl, hfl1, hfl2, hfl3, hfl4, hfl5, hfl6, NE, UN, b_andNot, NE9, Nat.add_assoc, f1, f2, f3, f4, f5, so, so2]
  refine call_of (n1 _ _) ?_
  simp only [↓R1, R2, R3, R4, TY, reduceIte, Nat.reduceEqDiff, Nat.reduceAdd, Nat.reduceMul, Nat.reduceLT, Nat.reduceLeDiff, reduceCtorEq, decide_true, decide_false, Int.reduceLE, Int.reduceLT, Int.reduceToNat, Int.reduceAdd, Int.reduceSub, Int.reduceMul, Int.reduceEq, hfl, hfl1, hfl2, hfl3, hfl4, hfl5, hfl6, NE, UN, b_andNot, NE9, Nat.add_assoc, f1, f2, f3, f4, f5, so, so2]
  refine call_of (ov2 _ _) ?_
  simp only [↓R1, R2, R3, R4, TY, reduceIte, Nat.reduceEqDiff, Nat.reduceAdd, Nat.reduceMul, Nat.reduceLT, Nat.reduceLeDiff, reduceCtorEq, decide_true, decide_false, Int.reduceLE, Int.reduceLT, Int.reduceToNat, Int.reduceAdd, Int.reduceSub, Int.reduceMul, Int.reduceEq, hfl, hfl1, hfl2, hfl3, hfl4, hfl5, hfl6, NE, UN, b_andNot, NE9, Nat.add_assoc, f1, f2, f3, f4, f5, so, so2]
  refine call_of (s2 _ _) ?_
  simp only [↓R1, R2, R3, R4, TY, reduceIte, Nat.reduceEqDiff, Nat.reduceAdd, Nat.reduceMul, Nat.reduceLT, Nat.reduceLeDiff, reduceCtorEq, decide_true, decide_false, Int.reduceLE, Int.reduceLT, Int.reduceToNat, Int.reduceAdd, Int.reduceSub, Int.reduceMul, Int.reduceEq, hfl, hfl1, hfl2, hfl3, hfl4, hfl5, hfl6, NE, UN, b_andNot, NE9, Nat.add_assoc, f1, f2, f3, f4, f5, so, so2]
  refine call_of (n2 _ _) ?_
  simp only [↓R1, R2, R3, R4, TY, reduceIte, Nat.reduceEqDiff, Nat.reduceAdd, Nat.reduceMul, Nat.reduceLT, Nat.reduceLeDiff, reduceCtorEq, decide_true, decide_false, Int.reduceLE, Int.reduceLT, Int.reduceToNat, Int.reduceAdd, Int.reduceSub, Int.reduceMul, Int.reduceEq, hfl, hfl1, hfl2, hfl3, hfl4, hfl5, hfl6, NE, UN, b_andNot, NE9, Nat.add_assoc, f1, f2, f3, f4, f5, so, so2]
  refine call_of (un2 _ _) ?_
  simp only [↓R1, R2, R3, R4, TY, reduceIte, Nat.reduceEqDiff, Nat.reduceAdd, Nat.reduceMul, Nat.reduceLT, Nat.reduceLeDiff, reduceCtorEq, decide_true, decide_false, Int.reduceLE, Int.reduceLT, Int.reduceToNat, Int.reduceAdd, Int.reduceSub, Int.reduceMul, Int.reduceEq, hfl, hfl1, hfl2, hfl3, hfl4, hfl5, hfl6, NE, UN, b_andNot, NE9, Nat.add_assoc, f1, f2, f3, f4, f5, so, so2]
  subst h0
  refine Ended.back hA ?_ rfl (three_rb _ _ _)
  simp (maxDischargeDepth := 20) only [xt_push, xt_put, xt_refl, Nat.le_refl, Nat.le_add_right, Nat.add_assoc, Nat.reduceAdd]

end
end Go.Proofs.YtipcpehbgomdeaaDoor.Ab
