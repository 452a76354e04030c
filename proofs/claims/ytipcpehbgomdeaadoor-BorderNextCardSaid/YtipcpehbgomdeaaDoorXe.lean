/- Floating-point numbers: From. -/
import Derived.Test.YtipcpehbgomdeaaDoorXd
namespace Go.Proofs.YtipcpehbgomdeaaDoor.Ab
open Go.RowKit
set_option linter.unusedVariables false
set_option linter.unusedSimpArgs false
set_option maxRecDepth 100000

theorem b_andNot {P : Program} {f : Value → Prop} {k : IntKind} {x y : Int} {e : TypeId} : @aBin P .andNot e (.int k x) (.int k y) ⟨f⟩ = f (.int k (k.wrap (BitVec.ofInt k.bits x &&& ~~~ BitVec.ofInt k.bits y).toNat)) := two_int (F := _)
theorem clear_fact {n : Nat} (h : n < 18446744073709551616) : (BitVec.ofInt IntKind.u64.bits (n : Int) &&& ~~~ BitVec.ofInt IntKind.u64.bits 9223372036854775808).toNat % 18446744073709551616 = n % 9223372036854775808 := by
  rw [bits_u64, BitVec.toNat_and, BitVec.ofInt_natCast, BitVec.toNat_ofNat, Nat.mod_eq_of_lt (show n < 2 ^ 64 by omega)]
  have : (~~~ BitVec.ofInt 64 9223372036854775808).toNat = 2 ^ 63 - 1 := by decide
  rw [this, Nat.and_two_pow_sub_one_eq_mod]
  omega
/-- The ends of the span of a floating-point number that is not negative. -/
def bhi (b : Nat) : Rat := rOf 1 / rOf 2 * (exq b + exq (b + 1))
def blo (b : Nat) : Rat := if 0 < b then rOf 1 / rOf 2 * (exq b + exq (b - 1)) else -(bhi b)
theorem half_val : rOf 1 / rOf 2 = 1 / 2 := by rw [rOf_eq, rOf_eq]; rfl
theorem err_rb (m : Nat) : RB m (.tuple [Value.agg #[.bool false, .string (S []), .string (S []), .bool false, .string (S []), .string (S [])], Value.int .i64 3].toArray) := by
  refine RB.tuple fun w hw => ?_
  simp only [List.mem_cons, List.not_mem_nil, or_false] at hw
  rcases hw with rfl | rfl
  · refine RB.agg fun v hv => ?_
    simp only [List.mem_cons, List.not_mem_nil, or_false] at hv
    rcases hv with rfl | rfl | rfl | rfl | rfl | rfl
    · exact RB.bool _
    · exact RB.string _
    · exact RB.string _
    · exact RB.bool _
    · exact RB.string _
    · exact RB.string _
  · exact RB.int _ _
theorem two_rb {m : Nat} {v : Value} {x : Int} (h : RB m v) : RB m (.tuple [v, Value.int .i64 x].toArray) := by
  refine RB.tuple fun w hw => ?_
  simp only [List.mem_cons, List.not_mem_nil, or_false] at hw
  rcases hw with rfl | rfl
  · exact h
  · exact RB.int _ _
theorem bhi_def (b : Nat) : bhi b = rOf 1 / rOf 2 * (exq b + exq (b + 1)) := by unfold bhi; rfl
theorem from_facts {n b : Nat} (hb : b < 9218868437227405312) : b + 1 ≤ 9218868437227405312 ∧ b ≤ 9218868437227405312 ∧ b - 1 ≤ 9218868437227405312 ∧ (((9218868437227405312 : Int) ≤ ((b : Nat) : Int)) = False) ∧ IntKind.u64.wrap (((b : Nat) : Int) + 1) = ((b + 1 : Nat) : Int) ∧ (0 < b → IntKind.u64.wrap (((b : Nat) : Int) - 1) = ((b - 1 : Nat) : Int)) ∧ ((0 : Int) < ((b : Nat) : Int)) = (0 < b) := by
  refine ⟨by omega, by omega, by omega, eq_false (by omega), ?_, ?_, propext (by omega)⟩
  · rw [show ((b : Nat) : Int) + 1 = ((b + 1 : Nat) : Int) by omega, u64_n, Nat.mod_eq_of_lt (by omega)]
  · intro h
    rw [show ((b : Nat) : Int) - 1 = ((b - 1 : Nat) : Int) by omega, u64_n, Nat.mod_eq_of_lt (by omega)]
theorem half_rz : Rz (rOf 1 / rOf 2) 2 := by
  exact (Rz.of (k := 1) (nb_len_le.2 (by decide)) (by decide)).div (Rz.of (k := 1) (nb_len_le.2 (by decide)) (by decide)) (num_ne (by rw [rOf_eq]; decide))
theorem sum_rz {a b : Nat} (ha : a ≤ 9218868437227405312) (hb : b ≤ 9218868437227405312) : Rz (exq a + exq b) 301 := (exq_rz ha).add (exq_rz hb)
theorem mid_rz {a b : Nat} (ha : a ≤ 9218868437227405312) (hb : b ≤ 9218868437227405312) : Rz (rOf 1 / rOf 2 * (exq a + exq b)) 303 := (half_rz.mul (sum_rz ha hb)).mono (by decide)
theorem blo_0 : blo 0 = -(bhi 0) := rfl
theorem blo_pos {b : Nat} (h : 0 < b) : blo b = rOf 1 / rOf 2 * (exq b + exq (b - 1)) := by unfold blo; rw [if_pos h]
theorem bhi_gt (b : Nat) : exq b < bhi b ∧ bhi b < exq (b + 1) := by
  unfold bhi; rw [half_val]
  have := exq_lt (Nat.lt_succ_self b)
  grind
theorem blo_lt {b : Nat} (h : 0 < b) : exq (b - 1) < blo b ∧ blo b < exq b := by
  rw [blo_pos h, half_val]
  have := exq_lt (show b - 1 < b by omega)
  grind
theorem blo_le (b : Nat) : blo b ≤ bhi b := by
  have h1 := bhi_gt b
  by_cases h : 0 < b
  · have := blo_lt h; grind
  · have : b = 0 := by omega
    subst this
    rw [blo_0]
    rw [exq_zero] at h1
    grind
theorem bhi_rz {b : Nat} (h : b < 9218868437227405312) : Rz (bhi b) 303 := mid_rz (Nat.le_of_lt h) h
theorem blo_rz {b : Nat} (h : b < 9218868437227405312) : Rz (blo b) 303 := by
  by_cases h0 : 0 < b
  · rw [blo_pos h0]; exact mid_rz (Nat.le_of_lt h) (Nat.le_trans (Nat.sub_le _ _) (Nat.le_of_lt h))
  · have : b = 0 := by omega
    subst this
    rw [blo_0]; exact (bhi_rz h).neg

section
variable {G : Gl} {fl : Nat} {A : Hp}

set_option maxHeartbeats 2000000 in
theorem from_bad {n : Nat} (hG : G 2 = some tabV) (hn : n < 18446744073709551616) (h : 9218868437227405312 ≤ n % 9223372036854775808) : Sound Tryd.prog G 6 [.int .u64 (n : Nat)] fl A (.tuple [.agg #[.bool false, .string (S []), .string (S []), .bool false, .string (S []), .string (S [])], Value.int .i64 3].toArray) A := by
  refine Sound.of mixed Tryd.func6 Tryd.ntmps6 Tryd.results6 (by kernel_rfl) rfl (by kernel_rfl) (by simp) fun hA => ?_
  have hfl : fl ≤ A.next := by have := hA.floor; omega
  have hfl1 : fl ≤ A.next + 1 := by have := hA.floor; omega
  have hfl2 : fl ≤ A.next + 2 := by have := hA.floor; omega
  have hfl3 : fl ≤ A.next + 3 := by have := hA.floor; omega
  have hfl4 : fl ≤ A.next + 4 := by have := hA.floor; omega
  have hfl5 : fl ≤ A.next + 5 := by have := hA.floor; omega
  have hfl6 : fl ≤ A.next + 6 := by have := hA.floor; omega
  have m63 : min 63 64 = 63 := rfl
  have p63 : 2 ^ 63 = 9223372036854775808 := rfl
  have e1 := clear_fact hn
  have hc : ((9218868437227405312 : Int) ≤ ((n % 9223372036854775808 : Nat) : Int)) = True := eq_true (by omega)
  simp only [↓R1, R2, R3, R4, TY, reduceIte, Nat.reduceEqDiff, Nat.reduceAdd, Nat.reduceMul, Nat.reduceLT, Nat.reduceLeDiff, reduceCtorEq, decide_true, decide_false, Int.reduceLE, Int.reduceLT, Int.reduceToNat, Int.reduceAdd, Int.reduceSub, Int.reduceMul, Int.reduceEq, hfl, hfl1, hfl2, hfl3, hfl4, hfl5, hfl6, NE, UN, b_andNot, e1, m63, p63, NE9, Nat.add_assoc, hc]
  refine Ended.back hA ?_ rfl (err_rb _)
  simp (maxDischargeDepth := 20) only [xt_push, xt_put, xt_refl, Nat.le_refl, Nat.le_add_right, Nat.add_assoc, Nat.reduceAdd]

set_option maxHeartbeats 2000000 in
theorem from_00 {n b : Nat} (hG : G 2 = some tabV) (hn : n < 18446744073709551616) (hm : n % 9223372036854775808 = b) (hb : b < 9218868437227405312) (hs : n / 9223372036854775808 = 0) (h0 : 0 < b) : Sound Tryd.prog G 6 [.int .u64 (n : Nat)] fl A (.tuple [prV (blo b) (bhi b), Value.int .i64 0].toArray) A := by
  refine Sound.of mixed Tryd.func6 Tryd.ntmps6 Tryd.results6 (by kernel_rfl) rfl (by kernel_rfl) (by simp) fun hA => ?_
  have hfl : fl ≤ A.next := by have := hA.floor; omega
  have hfl1 : fl ≤ A.next + 1 := by have := hA.floor; omega
  have hfl2 : fl ≤ A.next + 2 := by have := hA.floor; omega
  have hfl3 : fl ≤ A.next + 3 := by have := hA.floor; omega
  have hfl4 : fl ≤ A.next + 4 := by have := hA.floor; omega
  have hfl5 : fl ≤ A.next + 5 := by have := hA.floor; omega
  have hfl6 : fl ≤ A.next + 6 := by have := hA.floor; omega
  have m63 : min 63 64 = 63 := rfl
  have p63 : 2 ^ 63 = 9223372036854775808 := rfl
  have e1 := clear_fact hn
  rw [hm] at e1
  obtain ⟨b1, b2, b3, hc, w1, w2, hz⟩ := from_facts (n := n) hb
  have mk := fun fl A => rmake_ok (G := G) (fl := fl) (A := A) (m := 1) (n := 2) (by decide) (by decide) (by decide) (by decide) (by decide)
  have hv0 : (((0 : Nat) : Int) = 1) = False := eq_false (by decide)
  have hv1 : (((1 : Nat) : Int) = 1) = True := eq_true rfl
  have ex1 := fun fl A => exact_ok (G := G) (fl := fl) (A := A) hG b2
  have ex2 := fun fl A => exact_ok (G := G) (fl := fl) (A := A) hG b1
  have ex3 := fun fl A => exact_ok (G := G) (fl := fl) (A := A) hG b3
  have ad := fun fl A => qadd (G := G) (fl := fl) (A := A) hG (exq_rz b2) (exq_rz b1) (by decide)
  have mu := fun fl A => qmul (G := G) (fl := fl) (A := A) hG half_rz (sum_rz b2 b1) (by decide)
  have ad2 := fun fl A => qadd (G := G) (fl := fl) (A := A) hG (exq_rz b2) (exq_rz b3) (by decide)
  have mu2 := fun fl A => qmul (G := G) (fl := fl) (A := A) hG half_rz (sum_rz b2 b3) (by decide)
  have nh := fun fl A => qneg (G := G) (fl := fl) (A := A) hG (bhi_rz hb) (by decide)
  have nl := fun fl A => qneg (G := G) (fl := fl) (A := A) hG (blo_rz hb) (by decide)
  have sm := fun fl A => smake (G := G) (fl := fl) (A := A) hG (blo_rz hb) (bhi_rz hb) (blo_le b) (by decide)
  have hrb := prV_rb A.next (blo b) (bhi b)
  simp only [← bhi_def] at mu
  simp only [← blo_pos h0] at mu2
  have w2 := w2 h0
  have hz := hz.trans (eq_true h0)
  generalize exq b + exq (b + 1) = s1 at *
  generalize exq b + exq (b - 1) = s2 at *
  generalize exq b = x1 at *
  generalize exq (b + 1) = x2 at *
  generalize exq (b - 1) = x3 at *
  generalize rOf 1 / rOf 2 = hf at *
  simp only [ratV_def] at mk ex1 ex2 ex3 ad mu ad2 mu2 nh nl sm
  rw [prV_def] at hrb ⊢
  simp only [prV_def] at sm
  simp only [↓R1, R2, R3, R4, TY, reduceIte, Nat.reduceEqDiff, Nat.reduceAdd, Nat.reduceMul, Nat.reduceLT, Nat.reduceLeDiff, reduceCtorEq, decide_true, decide_false, Int.reduceLE, Int.reduceLT, Int.reduceToNat, Int.reduceAdd, Int.reduceSub, Int.reduceMul, Int.reduceEq, hfl, hfl1, hfl2, hfl3, hfl4, hfl5, hfl6, NE, UN, b_andNot, e1, m63, p63, NE9, Nat.add_assoc, hs, hc, w1, w2, hz, hv0]
  refine call_of (mk _ _) ?_
  simp only [↓R1, R2, R3, R4, TY, reduceIte, Nat.reduceEqDiff, Nat.reduceAdd, Nat.reduceMul, Nat.reduceLT, Nat.reduceLeDiff, reduceCtorEq, decide_true, decide_false, Int.reduceLE, Int.reduceLT, Int.reduceToNat, Int.reduceAdd, Int.reduceSub, Int.reduceMul, Int.reduceEq, hfl, hfl1, hfl2, hfl3, hfl4, hfl5, hfl6, NE, UN, b_andNot, e1, m63, p63, NE9, Nat.add_assoc, hs, hc, w1, w2, hz, hv0]
  refine call_of (ex1 _ _) ?_
  simp only [↓R1, R2, R3, R4, TY, reduceIte, Nat.reduceEqDiff, Nat.reduceAdd, Nat.reduceMul, Nat.reduceLT, Nat.reduceLeDiff, reduceCtorEq, decide_true, decide_false, Int.reduceLE, Int.reduceLT, Int.reduceToNat, Int.reduceAdd, Int.reduceSub, Int.reduceMul, Int.reduceEq, hfl, hfl1, hfl2, hfl3, hfl4, hfl5, hfl6, NE, UN, b_andNot, e1, m63, p63, NE9, Nat.add_assoc, hs, hc, w1, w2, hz, hv0]
  refine call_of (ex2 _ _) ?_
  simp only [↓R1, R2, R3, R4, TY, reduceIte, Nat.reduceEqDiff, Nat.reduceAdd, Nat.reduceMul, Nat.reduceLT, Nat.reduceLeDiff, reduceCtorEq, decide_true, decide_false, Int.reduceLE, Int.reduceLT, Int.reduceToNat, Int.reduceAdd, Int.reduceSub, Int.reduceMul, Int.reduceEq, hfl, hfl1, hfl2, hfl3, hfl4, hfl5, hfl6, NE, UN, b_andNot, e1, m63, p63, NE9, Nat.add_assoc, hs, hc, w1, w2, hz, hv0]
  refine call_of (ad _ _) ?_
  simp only [↓R1, R2, R3, R4, TY, reduceIte, Nat.reduceEqDiff, Nat.reduceAdd, Nat.reduceMul, Nat.reduceLT, Nat.reduceLeDiff, reduceCtorEq, decide_true, decide_false, Int.reduceLE, Int.reduceLT, Int.reduceToNat, Int.reduceAdd, Int.reduceSub, Int.reduceMul, Int.reduceEq, hfl, hfl1, hfl2, hfl3, hfl4, hfl5, hfl6, NE, UN, b_andNot, e1, m63, p63, NE9, Nat.add_assoc, hs, hc, w1, w2, hz, hv0]
  refine call_of (mu _ _) ?_
  simp only [↓R1, R2, R3, R4, TY, reduceIte, Nat.reduceEqDiff, Nat.reduceAdd, Nat.reduceMul, Nat.reduceLT, Nat.reduceLeDiff, reduceCtorEq, decide_true, decide_false, Int.reduceLE, Int.reduceLT, Int.reduceToNat, Int.reduceAdd, Int.reduceSub, Int.reduceMul, Int.reduceEq, hfl, hfl1, hfl2, hfl3, hfl4, hfl5, hfl6, NE, UN, b_andNot, e1, m63, p63, NE9, Nat.add_assoc, hs, hc, w1, w2, hz, hv0]
  rw [floOf_wr (by kernel_rfl)]
  simp only [↓R1, R2, R3, R4, TY, reduceIte, Nat.reduceEqDiff, Nat.reduceAdd, Nat.reduceMul, Nat.reduceLT, Nat.reduceLeDiff, reduceCtorEq, decide_true, decide_false, Int.reduceLE, Int.reduceLT, Int.reduceToNat, Int.reduceAdd, Int.reduceSub, Int.reduceMul, Int.reduceEq, hfl, hfl1, hfl2, hfl3, hfl4, hfl5, hfl6, NE, UN, b_andNot, e1, m63, p63, NE9, Nat.add_assoc, hs, hc, w1, w2, hz, hv0]
  refine call_of (nh _ _) ?_
  simp only [↓R1, R2, R3, R4, TY, reduceIte, Nat.reduceEqDiff, Nat.reduceAdd, Nat.reduceMul, Nat.reduceLT, Nat.reduceLeDiff, reduceCtorEq, decide_true, decide_false, Int.reduceLE, Int.reduceLT, Int.reduceToNat, Int.reduceAdd, Int.reduceSub, Int.reduceMul, Int.reduceEq, hfl, hfl1, hfl2, hfl3, hfl4, hfl5, hfl6, NE, UN, b_andNot, e1, m63, p63, NE9, Nat.add_assoc, hs, hc, w1, w2, hz, hv0]
  refine call_of (ex3 _ _) ?_
  simp only [↓R1, R2, R3, R4, TY, reduceIte, Nat.reduceEqDiff, Nat.reduceAdd, Nat.reduceMul, Nat.reduceLT, Nat.reduceLeDiff, reduceCtorEq, decide_true, decide_false, Int.reduceLE, Int.reduceLT, Int.reduceToNat, Int.reduceAdd, Int.reduceSub, Int.reduceMul, Int.reduceEq, hfl, hfl1, hfl2, hfl3, hfl4, hfl5, hfl6, NE, UN, b_andNot, e1, m63, p63, NE9, Nat.add_assoc, hs, hc, w1, w2, hz, hv0]
  refine call_of (ad2 _ _) ?_
  simp only [↓R1, R2, R3, R4, TY, reduceIte, Nat.reduceEqDiff, Nat.reduceAdd, Nat.reduceMul, Nat.reduceLT, Nat.reduceLeDiff, reduceCtorEq, decide_true, decide_false, Int.reduceLE, Int.reduceLT, Int.reduceToNat, Int.reduceAdd, Int.reduceSub, Int.reduceMul, Int.reduceEq, hfl, hfl1, hfl2, hfl3, hfl4, hfl5, hfl6, NE, UN, b_andNot, e1, m63, p63, NE9, Nat.add_assoc, hs, hc, w1, w2, hz, hv0]
  refine call_of (mu2 _ _) ?_
  simp only [↓R1, R2, R3, R4, TY, reduceIte, Nat.reduceEqDiff, Nat.reduceAdd, Nat.reduceMul, Nat.reduceLT, Nat.reduceLeDiff, reduceCtorEq, decide_true, decide_false, Int.reduceLE, Int.reduceLT, Int.reduceToNat, Int.reduceAdd, Int.reduceSub, Int.reduceMul, Int.reduceEq, hfl, hfl1, hfl2, hfl3, hfl4, hfl5, hfl6, NE, UN, b_andNot, e1, m63, p63, NE9, Nat.add_assoc, hs, hc, w1, w2, hz, hv0]
  rw [floOf_wr (by kernel_rfl)]
  simp only [↓R1, R2, R3, R4, TY, reduceIte, Nat.reduceEqDiff, Nat.reduceAdd, Nat.reduceMul, Nat.reduceLT, Nat.reduceLeDiff, reduceCtorEq, decide_true, decide_false, Int.reduceLE, Int.reduceLT, Int.reduceToNat, Int.reduceAdd, Int.reduceSub, Int.reduceMul, Int.reduceEq, hfl, hfl1, hfl2, hfl3, hfl4, hfl5, hfl6, NE, UN, b_andNot, e1, m63, p63, NE9, Nat.add_assoc, hs, hc, w1, w2, hz, hv0]
  refine call_of (sm _ _) ?_
  simp only [↓R1, R2, R3, R4, TY, reduceIte, Nat.reduceEqDiff, Nat.reduceAdd, Nat.reduceMul, Nat.reduceLT, Nat.reduceLeDiff, reduceCtorEq, decide_true, decide_false, Int.reduceLE, Int.reduceLT, Int.reduceToNat, Int.reduceAdd, Int.reduceSub, Int.reduceMul, Int.reduceEq, hfl, hfl1, hfl2, hfl3, hfl4, hfl5, hfl6, NE, UN, b_andNot, e1, m63, p63, NE9, Nat.add_assoc, hs, hc, w1, w2, hz, hv0]
  refine Ended.back hA ?_ rfl (two_rb hrb)
  simp (maxDischargeDepth := 20) only [xt_push, xt_put, xt_refl, Nat.le_refl, Nat.le_add_right, Nat.add_assoc, Nat.reduceAdd]

set_option maxHeartbeats 2000000 in
theorem from_01 {n b : Nat} (hG : G 2 = some tabV) (hn : n < 18446744073709551616) (hm : n % 9223372036854775808 = b) (hb : b < 9218868437227405312) (hs : n / 9223372036854775808 = 0) (h0 : b = 0) : Sound Tryd.prog G 6 [.int .u64 (n : Nat)] fl A (.tuple [prV (blo b) (bhi b), Value.int .i64 0].toArray) A := by
  refine Sound.of mixed Tryd.func6 Tryd.ntmps6 Tryd.results6 (by kernel_rfl) rfl (by kernel_rfl) (by simp) fun hA => ?_
  have hfl : fl ≤ A.next := by have := hA.floor; omega
  have hfl1 : fl ≤ A.next + 1 := by have := hA.floor; omega
  have hfl2 : fl ≤ A.next + 2 := by have := hA.floor; omega
  have hfl3 : fl ≤ A.next + 3 := by have := hA.floor; omega
  have hfl4 : fl ≤ A.next + 4 := by have := hA.floor; omega
  have hfl5 : fl ≤ A.next + 5 := by have := hA.floor; omega
  have hfl6 : fl ≤ A.next + 6 := by have := hA.floor; omega
  have m63 : min 63 64 = 63 := rfl
  have p63 : 2 ^ 63 = 9223372036854775808 := rfl
  have e1 := clear_fact hn
  rw [hm] at e1
  obtain ⟨b1, b2, b3, hc, w1, w2, hz⟩ := from_facts (n := n) hb
  have mk := fun fl A => rmake_ok (G := G) (fl := fl) (A := A) (m := 1) (n := 2) (by decide) (by decide) (by decide) (by decide) (by decide)
  have hv0 : (((0 : Nat) : Int) = 1) = False := eq_false (by decide)
  have hv1 : (((1 : Nat) : Int) = 1) = True := eq_true rfl
  have ex1 := fun fl A => exact_ok (G := G) (fl := fl) (A := A) hG b2
  have ex2 := fun fl A => exact_ok (G := G) (fl := fl) (A := A) hG b1
  have ex3 := fun fl A => exact_ok (G := G) (fl := fl) (A := A) hG b3
  have ad := fun fl A => qadd (G := G) (fl := fl) (A := A) hG (exq_rz b2) (exq_rz b1) (by decide)
  have mu := fun fl A => qmul (G := G) (fl := fl) (A := A) hG half_rz (sum_rz b2 b1) (by decide)
  have ad2 := fun fl A => qadd (G := G) (fl := fl) (A := A) hG (exq_rz b2) (exq_rz b3) (by decide)
  have mu2 := fun fl A => qmul (G := G) (fl := fl) (A := A) hG half_rz (sum_rz b2 b3) (by decide)
  have nh := fun fl A => qneg (G := G) (fl := fl) (A := A) hG (bhi_rz hb) (by decide)
  have nl := fun fl A => qneg (G := G) (fl := fl) (A := A) hG (blo_rz hb) (by decide)
  have sm := fun fl A => smake (G := G) (fl := fl) (A := A) hG (blo_rz hb) (bhi_rz hb) (blo_le b) (by decide)
  have hrb := prV_rb A.next (blo b) (bhi b)
  simp only [← bhi_def] at mu
  have hz := hz.trans (eq_false (by omega))
  have hblo : -(bhi b) = blo b := by rw [h0, blo_0]
  rw [hblo] at nh
  generalize exq b + exq (b + 1) = s1 at *
  generalize exq b + exq (b - 1) = s2 at *
  generalize exq b = x1 at *
  generalize exq (b + 1) = x2 at *
  generalize exq (b - 1) = x3 at *
  generalize rOf 1 / rOf 2 = hf at *
  simp only [ratV_def] at mk ex1 ex2 ex3 ad mu ad2 mu2 nh nl sm
  rw [prV_def] at hrb ⊢
  simp only [prV_def] at sm
  simp only [↓R1, R2, R3, R4, TY, reduceIte, Nat.reduceEqDiff, Nat.reduceAdd, Nat.reduceMul, Nat.reduceLT, Nat.reduceLeDiff, reduceCtorEq, decide_true, decide_false, Int.reduceLE, Int.reduceLT, Int.reduceToNat, Int.reduceAdd, Int.reduceSub, Int.reduceMul, Int.reduceEq, hfl, hfl1, hfl2, hfl3, hfl4, hfl5, hfl6, NE, UN, b_andNot, e1, m63, p63, NE9, Nat.add_assoc, hs, hc, w1, w2, hz, hv0]
  refine call_of (mk _ _) ?_
  simp only [↓R1, R2, R3, R4, TY, reduceIte, Nat.reduceEqDiff, Nat.reduceAdd, Nat.reduceMul, Nat.reduceLT, Nat.reduceLeDiff, reduceCtorEq, decide_true, decide_false, Int.reduceLE, Int.reduceLT, Int.reduceToNat, Int.reduceAdd, Int.reduceSub, Int.reduceMul, Int.reduceEq, hfl, hfl1, hfl2, hfl3, hfl4, hfl5, hfl6, NE, UN, b_andNot, e1, m63, p63, NE9, Nat.add_assoc, hs, hc, w1, w2, hz, hv0]
  refine call_of (ex1 _ _) ?_
  simp only [↓R1, R2, R3, R4, TY, reduceIte, Nat.reduceEqDiff, Nat.reduceAdd, Nat.reduceMul, Nat.reduceLT, Nat.reduceLeDiff, reduceCtorEq, decide_true, decide_false, Int.reduceLE, Int.reduceLT, Int.reduceToNat, Int.reduceAdd, Int.reduceSub, Int.reduceMul, Int.reduceEq, hfl, hfl1, hfl2, hfl3, hfl4, hfl5, hfl6, NE, UN, b_andNot, e1, m63, p63, NE9, Nat.add_assoc, hs, hc, w1, w2, hz, hv0]
  refine call_of (ex2 _ _) ?_
  simp only [↓R1, R2, R3, R4, TY, reduceIte, Nat.reduceEqDiff, Nat.reduceAdd, Nat.reduceMul, Nat.reduceLT, Nat.reduceLeDiff, reduceCtorEq, decide_true, decide_false, Int.reduceLE, Int.reduceLT, Int.reduceToNat, Int.reduceAdd, Int.reduceSub, Int.reduceMul, Int.reduceEq, hfl, hfl1, hfl2, hfl3, hfl4, hfl5, hfl6, NE, UN, b_andNot, e1, m63, p63, NE9, Nat.add_assoc, hs, hc, w1, w2, hz, hv0]
  refine call_of (ad _ _) ?_
  simp only [↓R1, R2, R3, R4, TY, reduceIte, Nat.reduceEqDiff, Nat.reduceAdd, Nat.reduceMul, Nat.reduceLT, Nat.reduceLeDiff, reduceCtorEq, decide_true, decide_false, Int.reduceLE, Int.reduceLT, Int.reduceToNat, Int.reduceAdd, Int.reduceSub, Int.reduceMul, Int.reduceEq, hfl, hfl1, hfl2, hfl3, hfl4, hfl5, hfl6, NE, UN, b_andNot, e1, m63, p63, NE9, Nat.add_assoc, hs, hc, w1, w2, hz, hv0]
  refine call_of (mu _ _) ?_
  simp only [↓R1, R2, R3, R4, TY, reduceIte, Nat.reduceEqDiff, Nat.reduceAdd, Nat.reduceMul, Nat.reduceLT, Nat.reduceLeDiff, reduceCtorEq, decide_true, decide_false, Int.reduceLE, Int.reduceLT, Int.reduceToNat, Int.reduceAdd, Int.reduceSub, Int.reduceMul, Int.reduceEq, hfl, hfl1, hfl2, hfl3, hfl4, hfl5, hfl6, NE, UN, b_andNot, e1, m63, p63, NE9, Nat.add_assoc, hs, hc, w1, w2, hz, hv0]
  rw [floOf_wr (by kernel_rfl)]
  simp only [↓R1, R2, R3, R4, TY, reduceIte, Nat.reduceEqDiff, Nat.reduceAdd, Nat.reduceMul, Nat.reduceLT, Nat.reduceLeDiff, reduceCtorEq, decide_true, decide_false, Int.reduceLE, Int.reduceLT, Int.reduceToNat, Int.reduceAdd, Int.reduceSub, Int.reduceMul, Int.reduceEq, hfl, hfl1, hfl2, hfl3, hfl4, hfl5, hfl6, NE, UN, b_andNot, e1, m63, p63, NE9, Nat.add_assoc, hs, hc, w1, w2, hz, hv0]
  refine call_of (nh _ _) ?_
  simp only [↓R1, R2, R3, R4, TY, reduceIte, Nat.reduceEqDiff, Nat.reduceAdd, Nat.reduceMul, Nat.reduceLT, Nat.reduceLeDiff, reduceCtorEq, decide_true, decide_false, Int.reduceLE, Int.reduceLT, Int.reduceToNat, Int.reduceAdd, Int.reduceSub, Int.reduceMul, Int.reduceEq, hfl, hfl1, hfl2, hfl3, hfl4, hfl5, hfl6, NE, UN, b_andNot, e1, m63, p63, NE9, Nat.add_assoc, hs, hc, w1, w2, hz, hv0]
  refine call_of (sm _ _) ?_
  simp only [↓R1, R2, R3, R4, TY, reduceIte, Nat.reduceEqDiff, Nat.reduceAdd, Nat.reduceMul, Nat.reduceLT, Nat.reduceLeDiff, reduceCtorEq, decide_true, decide_false, Int.reduceLE, Int.reduceLT, Int.reduceToNat, Int.reduceAdd, Int.reduceSub, Int.reduceMul, Int.reduceEq, hfl, hfl1, hfl2, hfl3, hfl4, hfl5, hfl6, NE, UN, b_andNot, e1, m63, p63, NE9, Nat.add_assoc, hs, hc, w1, w2, hz, hv0]
  refine Ended.back hA ?_ rfl (two_rb hrb)
  simp (maxDischargeDepth := 20) only [xt_push, xt_put, xt_refl, Nat.le_refl, Nat.le_add_right, Nat.add_assoc, Nat.reduceAdd]

set_option maxHeartbeats 2000000 in
theorem from_10 {n b : Nat} (hG : G 2 = some tabV) (hn : n < 18446744073709551616) (hm : n % 9223372036854775808 = b) (hb : b < 9218868437227405312) (hs : n / 9223372036854775808 = 1) (h0 : 0 < b) : Sound Tryd.prog G 6 [.int .u64 (n : Nat)] fl A (.tuple [prV (-(bhi b)) (-(blo b)), Value.int .i64 0].toArray) A := by
  refine Sound.of mixed Tryd.func6 Tryd.ntmps6 Tryd.results6 (by kernel_rfl) rfl (by kernel_rfl) (by simp) fun hA => ?_
  have hfl : fl ≤ A.next := by have := hA.floor; omega
  have hfl1 : fl ≤ A.next + 1 := by have := hA.floor; omega
  have hfl2 : fl ≤ A.next + 2 := by have := hA.floor; omega
  have hfl3 : fl ≤ A.next + 3 := by have := hA.floor; omega
  have hfl4 : fl ≤ A.next + 4 := by have := hA.floor; omega
  have hfl5 : fl ≤ A.next + 5 := by have := hA.floor; omega
  have hfl6 : fl ≤ A.next + 6 := by have := hA.floor; omega
  have m63 : min 63 64 = 63 := rfl
  have p63 : 2 ^ 63 = 9223372036854775808 := rfl
  have e1 := clear_fact hn
  rw [hm] at e1
  obtain ⟨b1, b2, b3, hc, w1, w2, hz⟩ := from_facts (n := n) hb
  have mk := fun fl A => rmake_ok (G := G) (fl := fl) (A := A) (m := 1) (n := 2) (by decide) (by decide) (by decide) (by decide) (by decide)
  have hv0 : (((0 : Nat) : Int) = 1) = False := eq_false (by decide)
  have hv1 : (((1 : Nat) : Int) = 1) = True := eq_true rfl
  have ex1 := fun fl A => exact_ok (G := G) (fl := fl) (A := A) hG b2
  have ex2 := fun fl A => exact_ok (G := G) (fl := fl) (A := A) hG b1
  have ex3 := fun fl A => exact_ok (G := G) (fl := fl) (A := A) hG b3
  have ad := fun fl A => qadd (G := G) (fl := fl) (A := A) hG (exq_rz b2) (exq_rz b1) (by decide)
  have mu := fun fl A => qmul (G := G) (fl := fl) (A := A) hG half_rz (sum_rz b2 b1) (by decide)
  have ad2 := fun fl A => qadd (G := G) (fl := fl) (A := A) hG (exq_rz b2) (exq_rz b3) (by decide)
  have mu2 := fun fl A => qmul (G := G) (fl := fl) (A := A) hG half_rz (sum_rz b2 b3) (by decide)
  have nh := fun fl A => qneg (G := G) (fl := fl) (A := A) hG (bhi_rz hb) (by decide)
  have nl := fun fl A => qneg (G := G) (fl := fl) (A := A) hG (blo_rz hb) (by decide)
  have sm := fun fl A => smake (G := G) (fl := fl) (A := A) hG (bhi_rz hb).neg (blo_rz hb).neg (by have := blo_le b; grind) (by decide)
  have hrb := prV_rb A.next (-(bhi b)) (-(blo b))
  simp only [← bhi_def] at mu
  simp only [← blo_pos h0] at mu2
  have w2 := w2 h0
  have hz := hz.trans (eq_true h0)
  generalize exq b + exq (b + 1) = s1 at *
  generalize exq b + exq (b - 1) = s2 at *
  generalize exq b = x1 at *
  generalize exq (b + 1) = x2 at *
  generalize exq (b - 1) = x3 at *
  generalize rOf 1 / rOf 2 = hf at *
  simp only [ratV_def] at mk ex1 ex2 ex3 ad mu ad2 mu2 nh nl sm
  rw [prV_def] at hrb ⊢
  simp only [prV_def] at sm
  simp only [↓R1, R2, R3, R4, TY, reduceIte, Nat.reduceEqDiff, Nat.reduceAdd, Nat.reduceMul, Nat.reduceLT, Nat.reduceLeDiff, reduceCtorEq, decide_true, decide_false, Int.reduceLE, Int.reduceLT, Int.reduceToNat, Int.reduceAdd, Int.reduceSub, Int.reduceMul, Int.reduceEq, hfl, hfl1, hfl2, hfl3, hfl4, hfl5, hfl6, NE, UN, b_andNot, e1, m63, p63, NE9, Nat.add_assoc, hs, hc, w1, w2, hz, hv1]
  refine call_of (mk _ _) ?_
  simp only [↓R1, R2, R3, R4, TY, reduceIte, Nat.reduceEqDiff, Nat.reduceAdd, Nat.reduceMul, Nat.reduceLT, Nat.reduceLeDiff, reduceCtorEq, decide_true, decide_false, Int.reduceLE, Int.reduceLT, Int.reduceToNat, Int.reduceAdd, Int.reduceSub, Int.reduceMul, Int.reduceEq, hfl, hfl1, hfl2, hfl3, hfl4, hfl5, hfl6, NE, UN, b_andNot, e1, m63, p63, NE9, Nat.add_assoc, hs, hc, w1, w2, hz, hv1]
  refine call_of (ex1 _ _) ?_
  simp only [↓R1, R2, R3, R4, TY, reduceIte, Nat.reduceEqDiff, Nat.reduceAdd, Nat.reduceMul, Nat.reduceLT, Nat.reduceLeDiff, reduceCtorEq, decide_true, decide_false, Int.reduceLE, Int.reduceLT, Int.reduceToNat, Int.reduceAdd, Int.reduceSub, Int.reduceMul, Int.reduceEq, hfl, hfl1, hfl2, hfl3, hfl4, hfl5, hfl6, NE, UN, b_andNot, e1, m63, p63, NE9, Nat.add_assoc, hs, hc, w1, w2, hz, hv1]
  refine call_of (ex2 _ _) ?_
  simp only [↓R1, R2, R3, R4, TY, reduceIte, Nat.reduceEqDiff, Nat.reduceAdd, Nat.reduceMul, Nat.reduceLT, Nat.reduceLeDiff, reduceCtorEq, decide_true, decide_false, Int.reduceLE, Int.reduceLT, Int.reduceToNat, Int.reduceAdd, Int.reduceSub, Int.reduceMul, Int.reduceEq, hfl, hfl1, hfl2, hfl3, hfl4, hfl5, hfl6, NE, UN, b_andNot, e1, m63, p63, NE9, Nat.add_assoc, hs, hc, w1, w2, hz, hv1]
  refine call_of (ad _ _) ?_
  simp only [↓R1, R2, R3, R4, TY, reduceIte, Nat.reduceEqDiff, Nat.reduceAdd, Nat.reduceMul, Nat.reduceLT, Nat.reduceLeDiff, reduceCtorEq, decide_true, decide_false, Int.reduceLE, Int.reduceLT, Int.reduceToNat, Int.reduceAdd, Int.reduceSub, Int.reduceMul, Int.reduceEq, hfl, hfl1, hfl2, hfl3, hfl4, hfl5, hfl6, NE, UN, b_andNot, e1, m63, p63, NE9, Nat.add_assoc, hs, hc, w1, w2, hz, hv1]
  refine call_of (mu _ _) ?_
  simp only [↓R1, R2, R3, R4, TY, reduceIte, Nat.reduceEqDiff, Nat.reduceAdd, Nat.reduceMul, Nat.reduceLT, Nat.reduceLeDiff, reduceCtorEq, decide_true, decide_false, Int.reduceLE, Int.reduceLT, Int.reduceToNat, Int.reduceAdd, Int.reduceSub, Int.reduceMul, Int.reduceEq, hfl, hfl1, hfl2, hfl3, hfl4, hfl5, hfl6, NE, UN, b_andNot, e1, m63, p63, NE9, Nat.add_assoc, hs, hc, w1, w2, hz, hv1]
  rw [floOf_wr (by kernel_rfl)]
  simp only [↓R1, R2, R3, R4, TY, reduceIte, Nat.reduceEqDiff, Nat.reduceAdd, Nat.reduceMul, Nat.reduceLT, Nat.reduceLeDiff, reduceCtorEq, decide_true, decide_false, Int.reduceLE, Int.reduceLT, Int.reduceToNat, Int.reduceAdd, Int.reduceSub, Int.reduceMul, Int.reduceEq, hfl, hfl1, hfl2, hfl3, hfl4, hfl5, hfl6, NE, UN, b_andNot, e1, m63, p63, NE9, Nat.add_assoc, hs, hc, w1, w2, hz, hv1]
  refine call_of (nh _ _) ?_
  simp only [↓R1, R2, R3, R4, TY, reduceIte, Nat.reduceEqDiff, Nat.reduceAdd, Nat.reduceMul, Nat.reduceLT, Nat.reduceLeDiff, reduceCtorEq, decide_true, decide_false, Int.reduceLE, Int.reduceLT, Int.reduceToNat, Int.reduceAdd, Int.reduceSub, Int.reduceMul, Int.reduceEq, hfl, hfl1, hfl2, hfl3, hfl4, hfl5, hfl6, NE, UN, b_andNot, e1, m63, p63, NE9, Nat.add_assoc, hs, hc, w1, w2, hz, hv1]
  refine call_of (ex3 _ _) ?_
  simp only [↓R1, R2, R3, R4, TY, reduceIte, Nat.reduceEqDiff, Nat.reduceAdd, Nat.reduceMul, Nat.reduceLT, Nat.reduceLeDiff, reduceCtorEq, decide_true, decide_false, Int.reduceLE, Int.reduceLT, Int.reduceToNat, Int.reduceAdd, Int.reduceSub, Int.reduceMul, Int.reduceEq, hfl, hfl1, hfl2, hfl3, hfl4, hfl5, hfl6, NE, UN, b_andNot, e1, m63, p63, NE9, Nat.add_assoc, hs, hc, w1, w2, hz, hv1]
  refine call_of (ad2 _ _) ?_
  simp only [↓R1, R2, R3, R4, TY, reduceIte, Nat.reduceEqDiff, Nat.reduceAdd, Nat.reduceMul, Nat.reduceLT, Nat.reduceLeDiff, reduceCtorEq, decide_true, decide_false, Int.reduceLE, Int.reduceLT, Int.reduceToNat, Int.reduceAdd, Int.reduceSub, Int.reduceMul, Int.reduceEq, hfl, hfl1, hfl2, hfl3, hfl4, hfl5, hfl6, NE, UN, b_andNot, e1, m63, p63, NE9, Nat.add_assoc, hs, hc, w1, w2, hz, hv1]
  refine call_of (mu2 _ _) ?_
  simp only [↓R1, R2, R3, R4, TY, reduceIte, Nat.reduceEqDiff, Nat.reduceAdd, Nat.reduceMul, Nat.reduceLT, Nat.reduceLeDiff, reduceCtorEq, decide_true, decide_false, Int.reduceLE, Int.reduceLT, Int.reduceToNat, Int.reduceAdd, Int.reduceSub, Int.reduceMul, Int.reduceEq, hfl, hfl1, hfl2, hfl3, hfl4, hfl5, hfl6, NE, UN, b_andNot, e1, m63, p63, NE9, Nat.add_assoc, hs, hc, w1, w2, hz, hv1]
  rw [floOf_wr (by kernel_rfl)]
  simp only [↓R1, R2, R3, R4, TY, reduceIte, Nat.reduceEqDiff, Nat.reduceAdd, Nat.reduceMul, Nat.reduceLT, Nat.reduceLeDiff, reduceCtorEq, decide_true, decide_false, Int.reduceLE, Int.reduceLT, Int.reduceToNat, Int.reduceAdd, Int.reduceSub, Int.reduceMul, Int.reduceEq, hfl, hfl1, hfl2, hfl3, hfl4, hfl5, hfl6, NE, UN, b_andNot, e1, m63, p63, NE9, Nat.add_assoc, hs, hc, w1, w2, hz, hv1]
  refine call_of (nh _ _) ?_
  simp only [↓R1, R2, R3, R4, TY, reduceIte, Nat.reduceEqDiff, Nat.reduceAdd, Nat.reduceMul, Nat.reduceLT, Nat.reduceLeDiff, reduceCtorEq, decide_true, decide_false, Int.reduceLE, Int.reduceLT, Int.reduceToNat, Int.reduceAdd, Int.reduceSub, Int.reduceMul, Int.reduceEq, hfl, hfl1, hfl2, hfl3, hfl4, hfl5, hfl6, NE, UN, b_andNot, e1, m63, p63, NE9, Nat.add_assoc, hs, hc, w1, w2, hz, hv1]
  refine call_of (nl _ _) ?_
  simp only [↓R1, R2, R3, R4, TY, reduceIte, Nat.reduceEqDiff, Nat.reduceAdd, Nat.reduceMul, Nat.reduceLT, Nat.reduceLeDiff, reduceCtorEq, decide_true, decide_false, Int.reduceLE, Int.reduceLT, Int.reduceToNat, Int.reduceAdd, Int.reduceSub, Int.reduceMul, Int.reduceEq, hfl, hfl1, hfl2, hfl3, hfl4, hfl5, hfl6, NE, UN, b_andNot, e1, m63, p63, NE9, Nat.add_assoc, hs, hc, w1, w2, hz, hv1]
  rw [floOf_wr (by kernel_rfl)]
  simp only [↓R1, R2, R3, R4, TY, reduceIte, Nat.reduceEqDiff, Nat.reduceAdd, Nat.reduceMul, Nat.reduceLT, Nat.reduceLeDiff, reduceCtorEq, decide_true, decide_false, Int.reduceLE, Int.reduceLT, Int.reduceToNat, Int.reduceAdd, Int.reduceSub, Int.reduceMul, Int.reduceEq, hfl, hfl1, hfl2, hfl3, hfl4, hfl5, hfl6, NE, UN, b_andNot, e1, m63, p63, NE9, Nat.add_assoc, hs, hc, w1, w2, hz, hv1]
  rw [floOf_wr (by kernel_rfl)]
  simp only [↓R1, R2, R3, R4, TY, reduceIte, Nat.reduceEqDiff, Nat.reduceAdd, Nat.reduceMul, Nat.reduceLT, Nat.reduceLeDiff, reduceCtorEq, decide_true, decide_false, Int.reduceLE, Int.reduceLT, Int.reduceToNat, Int.reduceAdd, Int.reduceSub, Int.reduceMul, Int.reduceEq, hfl, hfl1, hfl2, hfl3, hfl4, hfl5, hfl6, NE, UN, b_andNot, e1, m63, p63, NE9, Nat.add_assoc, hs, hc, w1, w2, hz, hv1]
  refine call_of (sm _ _) ?_
  simp only [↓R1, R2, R3, R4, TY, reduceIte, Nat.reduceEqDiff, Nat.reduceAdd, Nat.reduceMul, Nat.reduceLT, Nat.reduceLeDiff, reduceCtorEq, decide_true, decide_false, Int.reduceLE, Int.reduceLT, Int.reduceToNat, Int.reduceAdd, Int.reduceSub, Int.reduceMul, Int.reduceEq, hfl, hfl1, hfl2, hfl3, hfl4, hfl5, hfl6, NE, UN, b_andNot, e1, m63, p63, NE9, Nat.add_assoc, hs, hc, w1, w2, hz, hv1]
  refine Ended.back hA ?_ rfl (two_rb hrb)
  simp (maxDischargeDepth := 20) only [xt_push, xt_put, xt_refl, Nat.le_refl, Nat.le_add_right, Nat.add_assoc, Nat.reduceAdd]

set_option maxHeartbeats 2000000 in
theorem from_11 {n b : Nat} (hG : G 2 = some tabV) (hn : n < 18446744073709551616) (hm : n % 9223372036854775808 = b) (hb : b < 9218868437227405312) (hs : n / 9223372036854775808 = 1) (h0 : b = 0) : Sound Tryd.prog G 6 [.int .u64 (n : Nat)] fl A (.tuple [prV (-(bhi b)) (-(blo b)), Value.int .i64 0].toArray) A := by
  refine Sound.of mixed Tryd.func6 Tryd.ntmps6 Tryd.results6 (by kernel_rfl) rfl (by kernel_rfl) (by simp) fun hA => ?_
  have hfl : fl ≤ A.next := by have := hA.floor; omega
  have hfl1 : fl ≤ A.next + 1 := by have := hA.floor; omega
  have hfl2 : fl ≤ A.next + 2 := by have := hA.floor; omega
  have hfl3 : fl ≤ A.next + 3 := by have := hA.floor; omega
  have hfl4 : fl ≤ A.next + 4 := by have := hA.floor; omega
  have hfl5 : fl ≤ A.next + 5 := by have := hA.floor; omega
  have hfl6 : fl ≤ A.next + 6 := by have := hA.floor; omega
  have m63 : min 63 64 = 63 := rfl
  have p63 : 2 ^ 63 = 9223372036854775808 := rfl
  have e1 := clear_fact hn
  rw [hm] at e1
  obtain ⟨b1, b2, b3, hc, w1, w2, hz⟩ := from_facts (n := n) hb
  have mk := fun fl A => rmake_ok (G := G) (fl := fl) (A := A) (m := 1) (n := 2) (by decide) (by decide) (by decide) (by decide) (by decide)
  have hv0 : (((0 : Nat) : Int) = 1) = False := eq_false (by decide)
  have hv1 : (((1 : Nat) : Int) = 1) = True := eq_true rfl
  have ex1 := fun fl A => exact_ok (G := G) (fl := fl) (A := A) hG b2
  have ex2 := fun fl A => exact_ok (G := G) (fl := fl) (A := A) hG b1
  have ex3 := fun fl A => exact_ok (G := G) (fl := fl) (A := A) hG b3
  have ad := fun fl A => qadd (G := G) (fl := fl) (A := A) hG (exq_rz b2) (exq_rz b1) (by decide)
  have mu := fun fl A => qmul (G := G) (fl := fl) (A := A) hG half_rz (sum_rz b2 b1) (by decide)
  have ad2 := fun fl A => qadd (G := G) (fl := fl) (A := A) hG (exq_rz b2) (exq_rz b3) (by decide)
  have mu2 := fun fl A => qmul (G := G) (fl := fl) (A := A) hG half_rz (sum_rz b2 b3) (by decide)
  have nh := fun fl A => qneg (G := G) (fl := fl) (A := A) hG (bhi_rz hb) (by decide)
  have nl := fun fl A => qneg (G := G) (fl := fl) (A := A) hG (blo_rz hb) (by decide)
  have sm := fun fl A => smake (G := G) (fl := fl) (A := A) hG (bhi_rz hb).neg (blo_rz hb).neg (by have := blo_le b; grind) (by decide)
  have hrb := prV_rb A.next (-(bhi b)) (-(blo b))
  simp only [← bhi_def] at mu
  have hz := hz.trans (eq_false (by omega))
  have hblo : -(bhi b) = blo b := by rw [h0, blo_0]
  rw [hblo] at nh
  generalize exq b + exq (b + 1) = s1 at *
  generalize exq b + exq (b - 1) = s2 at *
  generalize exq b = x1 at *
  generalize exq (b + 1) = x2 at *
  generalize exq (b - 1) = x3 at *
  generalize rOf 1 / rOf 2 = hf at *
  rw [hblo] at hrb ⊢
  simp only [hblo] at sm
  simp only [ratV_def] at mk ex1 ex2 ex3 ad mu ad2 mu2 nh nl sm
  rw [prV_def] at hrb ⊢
  simp only [prV_def] at sm
  simp only [↓R1, R2, R3, R4, TY, reduceIte, Nat.reduceEqDiff, Nat.reduceAdd, Nat.reduceMul, Nat.reduceLT, Nat.reduceLeDiff, reduceCtorEq, decide_true, decide_false, Int.reduceLE, Int.reduceLT, Int.reduceToNat, Int.reduceAdd, Int.reduceSub, Int.reduceMul, Int.reduceEq, hfl, hfl1, hfl2, hfl3, hfl4, hfl5, hfl6, NE, UN, b_andNot, e1, m63, p63, NE9, Nat.add_assoc, hs, hc, w1, w2, hz, hv1]
  refine call_of (mk _ _) ?_
  simp only [↓R1, R2, R3, R4, TY, reduceIte, Nat.reduceEqDiff, Nat.reduceAdd, Nat.reduceMul, Nat.reduceLT, Nat.reduceLeDiff, reduceCtorEq, decide_true, decide_false, Int.reduceLE, Int.reduceLT, Int.reduceToNat, Int.reduceAdd, Int.reduceSub, Int.reduceMul, Int.reduceEq, hfl, hfl1, hfl2, hfl3, hfl4, hfl5, hfl6, NE, UN, b_andNot, e1, m63, p63, NE9, Nat.add_assoc, hs, hc, w1, w2, hz, hv1]
  refine call_of (ex1 _ _) ?_
  simp only [↓R1, R2, R3, R4, TY, reduceIte, Nat.reduceEqDiff, Nat.reduceAdd, Nat.reduceMul, Nat.reduceLT, Nat.reduceLeDiff, reduceCtorEq, decide_true, decide_false, Int.reduceLE, Int.reduceLT, Int.reduceToNat, Int.reduceAdd, Int.reduceSub, Int.reduceMul, Int.reduceEq, hfl, hfl1, hfl2, hfl3, hfl4, hfl5, hfl6, NE, UN, b_andNot, e1, m63, p63, NE9, Nat.add_assoc, hs, hc, w1, w2, hz, hv1]
  refine call_of (ex2 _ _) ?_
  simp only [↓R1, R2, R3, R4, TY, reduceIte, Nat.reduceEqDiff, Nat.reduceAdd, Nat.reduceMul, Nat.reduceLT, Nat.reduceLeDiff, reduceCtorEq, decide_true, decide_false, Int.reduceLE, Int.reduceLT, Int.reduceToNat, Int.reduceAdd, Int.reduceSub, Int.reduceMul, Int.reduceEq, hfl, hfl1, hfl2, hfl3, hfl4, hfl5, hfl6, NE, UN, b_andNot, e1, m63, p63, NE9, Nat.add_assoc, hs, hc, w1, w2, hz, hv1]
  refine call_of (ad _ _) ?_
  simp only [↓R1, R2, R3, R4, TY, reduceIte, Nat.reduceEqDiff, Nat.reduceAdd, Nat.reduceMul, Nat.reduceLT, Nat.reduceLeDiff, reduceCtorEq, decide_true, decide_false, Int.reduceLE, Int.reduceLT, Int.reduceToNat, Int.reduceAdd, Int.reduceSub, Int.reduceMul, Int.reduceEq, hfl, hfl1, hfl2, hfl3, hfl4, hfl5, hfl6, NE, UN, b_andNot, e1, m63, p63, NE9, Nat.add_assoc, hs, hc, w1, w2, hz, hv1]
  refine call_of (mu _ _) ?_
  simp only [↓R1, R2, R3, R4, TY, reduceIte, Nat.reduceEqDiff, Nat.reduceAdd, Nat.reduceMul, Nat.reduceLT, Nat.reduceLeDiff, reduceCtorEq, decide_true, decide_false, Int.reduceLE, Int.reduceLT, Int.reduceToNat, Int.reduceAdd, Int.reduceSub, Int.reduceMul, Int.reduceEq, hfl, hfl1, hfl2, hfl3, hfl4, hfl5, hfl6, NE, UN, b_andNot, e1, m63, p63, NE9, Nat.add_assoc, hs, hc, w1, w2, hz, hv1]
  rw [floOf_wr (by kernel_rfl)]
  simp only [↓R1, R2, R3, R4, TY, reduceIte, Nat.reduceEqDiff, Nat.reduceAdd, Nat.reduceMul, Nat.reduceLT, Nat.reduceLeDiff, reduceCtorEq, decide_true, decide_false, Int.reduceLE, Int.reduceLT, Int.reduceToNat, Int.reduceAdd, Int.reduceSub, Int.reduceMul, Int.reduceEq, hfl, hfl1, hfl2, hfl3, hfl4, hfl5, hfl6, NE, UN, b_andNot, e1, m63, p63, NE9, Nat.add_assoc, hs, hc, w1, w2, hz, hv1]
  refine call_of (nh _ _) ?_
  simp only [↓R1, R2, R3, R4, TY, reduceIte, Nat.reduceEqDiff, Nat.reduceAdd, Nat.reduceMul, Nat.reduceLT, Nat.reduceLeDiff, reduceCtorEq, decide_true, decide_false, Int.reduceLE, Int.reduceLT, Int.reduceToNat, Int.reduceAdd, Int.reduceSub, Int.reduceMul, Int.reduceEq, hfl, hfl1, hfl2, hfl3, hfl4, hfl5, hfl6, NE, UN, b_andNot, e1, m63, p63, NE9, Nat.add_assoc, hs, hc, w1, w2, hz, hv1]
  refine call_of (nh _ _) ?_
  simp only [↓R1, R2, R3, R4, TY, reduceIte, Nat.reduceEqDiff, Nat.reduceAdd, Nat.reduceMul, Nat.reduceLT, Nat.reduceLeDiff, reduceCtorEq, decide_true, decide_false, Int.reduceLE, Int.reduceLT, Int.reduceToNat, Int.reduceAdd, Int.reduceSub, Int.reduceMul, Int.reduceEq, hfl, hfl1, hfl2, hfl3, hfl4, hfl5, hfl6, NE, UN, b_andNot, e1, m63, p63, NE9, Nat.add_assoc, hs, hc, w1, w2, hz, hv1]
  refine call_of (nl _ _) ?_
  simp only [↓R1, R2, R3, R4, TY, reduceIte, Nat.reduceEqDiff, Nat.reduceAdd, Nat.reduceMul, Nat.reduceLT, Nat.reduceLeDiff, reduceCtorEq, decide_true, decide_false, Int.reduceLE, Int.reduceLT, Int.reduceToNat, Int.reduceAdd, Int.reduceSub, Int.reduceMul, Int.reduceEq, hfl, hfl1, hfl2, hfl3, hfl4, hfl5, hfl6, NE, UN, b_andNot, e1, m63, p63, NE9, Nat.add_assoc, hs, hc, w1, w2, hz, hv1]
  rw [floOf_wr (by kernel_rfl)]
  simp only [↓R1, R2, R3, R4, TY, reduceIte, Nat.reduceEqDiff, Nat.reduceAdd, Nat.reduceMul, Nat.reduceLT, Nat.reduceLeDiff, reduceCtorEq, decide_true, decide_false, Int.reduceLE, Int.reduceLT, Int.reduceToNat, Int.reduceAdd, Int.reduceSub, Int.reduceMul, Int.reduceEq, hfl, hfl1, hfl2, hfl3, hfl4, hfl5, hfl6, NE, UN, b_andNot, e1, m63, p63, NE9, Nat.add_assoc, hs, hc, w1, w2, hz, hv1]
  rw [floOf_wr (by kernel_rfl)]
  simp only [↓R1, R2, R3, R4, TY, reduceIte, Nat.reduceEqDiff, Nat.reduceAdd, Nat.reduceMul, Nat.reduceLT, Nat.reduceLeDiff, reduceCtorEq, decide_true, decide_false, Int.reduceLE, Int.reduceLT, Int.reduceToNat, Int.reduceAdd, Int.reduceSub, Int.reduceMul, Int.reduceEq, hfl, hfl1, hfl2, hfl3, hfl4, hfl5, hfl6, NE, UN, b_andNot, e1, m63, p63, NE9, Nat.add_assoc, hs, hc, w1, w2, hz, hv1]
  refine call_of (sm _ _) ?_
  simp only [↓R1, R2, R3, R4, TY, reduceIte, Nat.reduceEqDiff, Nat.reduceAdd, Nat.reduceMul, Nat.reduceLT, Nat.reduceLeDiff, reduceCtorEq, decide_true, decide_false, Int.reduceLE, Int.reduceLT, Int.reduceToNat, Int.reduceAdd, Int.reduceSub, Int.reduceMul, Int.reduceEq, hfl, hfl1, hfl2, hfl3, hfl4, hfl5, hfl6, NE, UN, b_andNot, e1, m63, p63, NE9, Nat.add_assoc, hs, hc, w1, w2, hz, hv1]
  refine Ended.back hA ?_ rfl (two_rb hrb)
  simp (maxDischargeDepth := 20) only [xt_push, xt_put, xt_refl, Nat.le_refl, Nat.le_add_right, Nat.add_assoc, Nat.reduceAdd]

end
end Go.Proofs.YtipcpehbgomdeaaDoor.Ab
