/- BorderNext. -/
import Derived.Test.YtipcpehbgomdeaaDoorXf
namespace Go.Proofs.YtipcpehbgomdeaaDoor.Ab
open Go.RowKit
set_option linter.unusedVariables false
set_option linter.unusedSimpArgs false
set_option maxRecDepth 100000

theorem p2_ne (n : Nat) : p2 n ≠ 0 := by have := p2_pos n; grind
theorem exq_one : exq 4607182418800017408 = 1 := by
  unfold exq
  rw [if_neg (by decide), if_pos (by decide), show (4607182418800017408 % 4503599627370496 + 4503599627370496 : Nat) = 2 ^ 52 by decide, show 1075 - 4607182418800017408 / 4503599627370496 = 52 by decide, rOf_nat, ← p2_def]
  have := p2_ne 52
  generalize p2 52 = P at *
  grind
theorem exq_two : exq 4611686018427387904 = 2 := by
  unfold exq
  rw [if_neg (by decide), if_pos (by decide), show (4611686018427387904 % 4503599627370496 + 4503599627370496 : Nat) = 2 ^ (51 + 1) by decide, show 1075 - 4611686018427387904 / 4503599627370496 = 51 by decide, rOf_nat, ← p2_def, p2_add, p2_one]
  have := p2_ne 51
  generalize p2 51 = P at *
  grind
theorem begun_facts : (blo 4607182418800017408 ≤ ((1 : Int) : Rat) / ((1 : Int) : Rat) ∧ ((1 : Int) : Rat) / ((1 : Int) : Rat) ≤ bhi 4607182418800017408) ∧ ¬ (blo 4607182418800017408 ≤ ((2 : Int) : Rat) / ((1 : Int) : Rat) ∧ ((2 : Int) : Rat) / ((1 : Int) : Rat) ≤ bhi 4607182418800017408) := by
  have e1 : ((1 : Int) : Rat) / ((1 : Int) : Rat) = 1 := by decide +kernel
  have e2 : ((2 : Int) : Rat) / ((1 : Int) : Rat) = 2 := by decide +kernel
  rw [e1, e2]
  have h1 := bhi_gt 4607182418800017408
  have h2 := blo_lt (b := 4607182418800017408) (by decide)
  have h3 := exq_le (show 4607182418800017408 + 1 ≤ 4611686018427387904 by decide)
  rw [exq_one] at h1 h2
  rw [exq_two] at h3
  grind

theorem rmax_zero (x : Rat) : rmax x (rOf 0) = if 0 ≤ x then x else 0 := by
  have e : rOf 0 = 0 := by rw [rOf_eq]; rfl
  rw [rmax_def, e]
theorem un_zero : Un 0 0 := Un.of (by decide) (by rw [exq_zero]; decide) (by have := exq_lt (show 0 < 0 + 1 by decide); rwa [exq_zero] at this)
theorem ov_zero : Ov 0 0 := Ov.of (by decide) (by rw [exq_zero]; decide) (fun h => absurd h (by decide))
theorem un_blo {b : Nat} (h : 0 < b) (hb : b + 1 < 9218868437227405312) : Un (blo b) (b - 1) := by
  have h1 := blo_lt h
  refine Un.of (by omega) (Rat.le_of_lt h1.1) ?_
  rw [Nat.sub_add_cancel h]; exact h1.2
theorem ov_bhi {b : Nat} (hb : b + 1 < 9218868437227405312) : Ov (bhi b) (b + 1) := Ov.of hb (Rat.le_of_lt (bhi_gt b).2) (fun _ => (bhi_gt b).1)
theorem un_bhi {b : Nat} (hb : b + 1 < 9218868437227405312) : Un (bhi b) b := Un.of hb (Rat.le_of_lt (bhi_gt b).1) (bhi_gt b).2
theorem bhi_pos (b : Nat) : 0 < bhi b := by have := bhi_gt b; have := exq_nonneg b; grind
theorem blo_pos' {b : Nat} (h : 0 < b) : 0 < blo b := by have := blo_lt h; have := exq_nonneg (b - 1); grind
theorem bhi_mx {b : Nat} (hb : b + 1 < 9218868437227405312) : bhi b ≤ mx := by
  have h1 := (bhi_gt b).2
  have h2 := exq_le (show b + 1 ≤ 9218868437227405311 by omega)
  rw [mx_def]; grind
theorem next_pp {b : Nat} (h : 0 < b) (hb : b + 1 < 9218868437227405312) : Un (rmax (blo b) (rOf 0)) (b - 1) ∧ Ov (rmax (bhi b) (rOf 0)) (b + 1) ∧ Un (rmax (bhi b) (rOf 0)) b ∧ ¬ blo b < 0 ∧ ¬ bhi b < 0 ∧ ¬ blo b < -mx ∧ ¬ mx < bhi b := by
  have h1 := blo_pos' h
  have h2 := bhi_pos b
  have h3 := bhi_mx hb
  rw [rmax_zero, rmax_zero, if_pos (Rat.le_of_lt h1), if_pos (Rat.le_of_lt h2)]
  exact ⟨un_blo h hb, ov_bhi hb, un_bhi hb, by grind, by grind, by grind, by grind⟩
theorem next_z : Un (rmax (-(bhi 0)) (rOf 0)) 0 ∧ Ov (rmax (bhi 0) (rOf 0)) 1 ∧ Un (rmax (bhi 0) (rOf 0)) 0 ∧ -(bhi 0) < 0 ∧ ¬ bhi 0 < 0 ∧ Un (-(-(bhi 0))) 0 ∧ Ov (-(-(bhi 0))) 1 ∧ ¬ -(bhi 0) < -mx ∧ ¬ mx < bhi 0 ∧ -(bhi 0) ≤ bhi 0 := by
  have h2 := bhi_pos 0
  have h3 := bhi_mx (b := 0) (by decide)
  have e : (- -(bhi 0)) = bhi 0 := by grind
  rw [rmax_zero, rmax_zero, if_pos (Rat.le_of_lt h2), if_neg (by grind), e]
  exact ⟨un_zero, ov_bhi (by decide), un_bhi (by decide), by grind, by grind, un_bhi (by decide), ov_bhi (by decide), by grind, by grind, by grind⟩
theorem next_nn {b : Nat} (h : 0 < b) (hb : b + 1 < 9218868437227405312) : Un (rmax (-(bhi b)) (rOf 0)) 0 ∧ Ov (rmax (-(blo b)) (rOf 0)) 0 ∧ Un (rmax (-(blo b)) (rOf 0)) 0 ∧ -(bhi b) < 0 ∧ -(blo b) < 0 ∧ Un (-(-(bhi b))) b ∧ Ov (-(-(bhi b))) (b + 1) ∧ Un (-(-(blo b))) (b - 1) ∧ ¬ -(bhi b) < -mx ∧ ¬ mx < -(blo b) ∧ -(bhi b) ≤ -(blo b) := by
  have h1 := blo_pos' h
  have h2 := bhi_pos b
  have h3 := bhi_mx hb
  have h4 := blo_le b
  have e : (- -(bhi b)) = bhi b := by grind
  have e' : (- -(blo b)) = blo b := by grind
  rw [rmax_zero, rmax_zero, if_neg (by grind), if_neg (by grind), e, e']
  exact ⟨un_zero, ov_zero, un_zero, by grind, by grind, un_bhi hb, ov_bhi hb, un_blo h hb, by grind, by grind, by grind⟩
theorem max_facts : blo 9218868437227405311 ≤ bhi 9218868437227405311 ∧ ¬ blo 9218868437227405311 < -mx ∧ mx < bhi 9218868437227405311 ∧ -(bhi 9218868437227405311) < -mx ∧ -(bhi 9218868437227405311) ≤ -(blo 9218868437227405311) := by
  have h1 := blo_pos' (b := 9218868437227405311) (by decide)
  have h2 := bhi_gt 9218868437227405311
  have h3 := blo_le 9218868437227405311
  have h4 := exq_nonneg 9218868437227405311
  rw [← mx_def] at h2 h4
  grind
theorem mask11 {n : Nat} (h : n < 18446744073709551616) : (BitVec.ofInt IntKind.u64.bits ((n / 4503599627370496 : Nat) : Int) &&& BitVec.ofInt IntKind.u64.bits 2047).toNat % 18446744073709551616 = n / 4503599627370496 % 2048 := by
  rw [bits_u64, BitVec.toNat_and, BitVec.ofInt_natCast, BitVec.toNat_ofNat, Nat.mod_eq_of_lt (show n / 4503599627370496 < 2 ^ 64 by omega)]
  have : (BitVec.ofInt 64 2047).toNat = 2 ^ 11 - 1 := by decide
  rw [this, Nat.and_two_pow_sub_one_eq_mod]
  omega
theorem big_or : (BitVec.ofInt IntKind.u64.bits 9223372036854775809 ||| BitVec.ofInt IntKind.u64.bits 9223372036854775808).toNat % 18446744073709551616 = 9223372036854775809 := by decide
theorem bit_facts {n b : Nat} (hm : n % 9223372036854775808 = b) (hb : b < 9218868437227405312) : ((((n / 4503599627370496 % 2048 : Nat) : Int) = 2047) = False) := by
  refine eq_false ?_
  omega

section
variable {G : Gl} {fl : Nat} {A : Hp}

set_option maxHeartbeats 2000000 in
theorem borderBegun_ok  (hG : G 2 = some tabV)  : Sound Tryd.prog G 5 [] fl A (.bool true) A := by
  refine Sound.of mixed Tryd.func5 Tryd.ntmps5 Tryd.results5 (by kernel_rfl) rfl (by kernel_rfl) (by simp) fun hA => ?_
  have hfl : fl ≤ A.next := by have := hA.floor; omega
  have hfl1 : fl ≤ A.next + 1 := by have := hA.floor; omega
  have hfl2 : fl ≤ A.next + 2 := by have := hA.floor; omega
  have hfl3 : fl ≤ A.next + 3 := by have := hA.floor; omega
  have hfl4 : fl ≤ A.next + 4 := by have := hA.floor; omega
  have hfl5 : fl ≤ A.next + 5 := by have := hA.floor; omega
  have hfl6 : fl ≤ A.next + 6 := by have := hA.floor; omega
  have fr := fun fl A => from_00 (G := G) (fl := fl) (A := A) (n := 4607182418800017408) (b := 4607182418800017408) hG (by decide) (by decide) (by decide) (by decide) (by decide)
  have bg := fun fl A => spanBegun_ok (G := G) (fl := fl) (A := A) hG
  have n1 := fun fl A => num_ok (G := G) (fl := fl) (A := A) (m := 1) (n := 1) hG (by omega) (by omega) (by omega) (by omega) (by omega)
  have n2 := fun fl A => num_ok (G := G) (fl := fl) (A := A) (m := 2) (n := 1) hG (by omega) (by omega) (by omega) (by omega) (by omega)
  have z1 := num_rz (m := 1) (n := 1) (by omega) (by omega) (by omega) (by omega) (by omega)
  have z2 := num_rz (m := 2) (n := 1) (by omega) (by omega) (by omega) (by omega) (by omega)
  have sp : Sp (blo 4607182418800017408) (bhi 4607182418800017408) 303 := ⟨blo_rz (by decide), bhi_rz (by decide), blo_le _⟩
  have h1 := fun fl A => shas (G := G) (fl := fl) (A := A) hG sp z1 (by decide)
  have h2 := fun fl A => shas (G := G) (fl := fl) (A := A) hG sp z2 (by decide)
  simp only [decide_eq_true begun_facts.1] at h1
  simp only [decide_eq_false begun_facts.2] at h2
  generalize ((1 : Int) : Rat) / ((1 : Int) : Rat) = u1 at *
  generalize ((2 : Int) : Rat) / ((1 : Int) : Rat) = u2 at *
  generalize blo 4607182418800017408 = lo at *
  generalize bhi 4607182418800017408 = hi at *
  simp only [ratV_def] at n1 n2 h1 h2
  simp only [prV_def] at fr h1 h2
  simp only [↓R1, R2, R3, R4, TY, reduceIte, Nat.reduceEqDiff, Nat.reduceAdd, Nat.reduceMul, Nat.reduceLT, Nat.reduceLeDiff, reduceCtorEq, decide_true, decide_false, Int.reduceLE, Int.reduceLT, Int.reduceToNat, Int.reduceAdd, Int.reduceSub, Int.reduceMul, Int.reduceEq, hfl, hfl1, hfl2, hfl3, hfl4, hfl5, hfl6, NE, UN, NE9, Nat.add_assoc]
  refine call_of (fr _ _) ?_
  simp only [↓R1, R2, R3, R4, TY, reduceIte, Nat.reduceEqDiff, Nat.reduceAdd, Nat.reduceMul, Nat.reduceLT, Nat.reduceLeDiff, reduceCtorEq, decide_true, decide_false, Int.reduceLE, Int.reduceLT, Int.reduceToNat, Int.reduceAdd, Int.reduceSub, Int.reduceMul, Int.reduceEq, hfl, hfl1, hfl2, hfl3, hfl4, hfl5, hfl6, NE, UN, NE9, Nat.add_assoc]
  refine call_of (bg _ _) ?_
  simp only [↓R1, R2, R3, R4, TY, reduceIte, Nat.reduceEqDiff, Nat.reduceAdd, Nat.reduceMul, Nat.reduceLT, Nat.reduceLeDiff, reduceCtorEq, decide_true, decide_false, Int.reduceLE, Int.reduceLT, Int.reduceToNat, Int.reduceAdd, Int.reduceSub, Int.reduceMul, Int.reduceEq, hfl, hfl1, hfl2, hfl3, hfl4, hfl5, hfl6, NE, UN, NE9, Nat.add_assoc]
  refine call_of (n1 _ _) ?_
  simp only [↓R1, R2, R3, R4, TY, reduceIte, Nat.reduceEqDiff, Nat.reduceAdd, Nat.reduceMul, Nat.reduceLT, Nat.reduceLeDiff, reduceCtorEq, decide_true, decide_false, Int.reduceLE, Int.reduceLT, Int.reduceToNat, Int.reduceAdd, Int.reduceSub, Int.reduceMul, Int.reduceEq, hfl, hfl1, hfl2, hfl3, hfl4, hfl5, hfl6, NE, UN, NE9, Nat.add_assoc]
  refine call_of (h1 _ _) ?_
  simp only [↓R1, R2, R3, R4, TY, reduceIte, Nat.reduceEqDiff, Nat.reduceAdd, Nat.reduceMul, Nat.reduceLT, Nat.reduceLeDiff, reduceCtorEq, decide_true, decide_false, Int.reduceLE, Int.reduceLT, Int.reduceToNat, Int.reduceAdd, Int.reduceSub, Int.reduceMul, Int.reduceEq, hfl, hfl1, hfl2, hfl3, hfl4, hfl5, hfl6, NE, UN, NE9, Nat.add_assoc]
  refine call_of (n2 _ _) ?_
  simp only [↓R1, R2, R3, R4, TY, reduceIte, Nat.reduceEqDiff, Nat.reduceAdd, Nat.reduceMul, Nat.reduceLT, Nat.reduceLeDiff, reduceCtorEq, decide_true, decide_false, Int.reduceLE, Int.reduceLT, Int.reduceToNat, Int.reduceAdd, Int.reduceSub, Int.reduceMul, Int.reduceEq, hfl, hfl1, hfl2, hfl3, hfl4, hfl5, hfl6, NE, UN, NE9, Nat.add_assoc]
  refine call_of (h2 _ _) ?_
  simp only [↓R1, R2, R3, R4, TY, reduceIte, Nat.reduceEqDiff, Nat.reduceAdd, Nat.reduceMul, Nat.reduceLT, Nat.reduceLeDiff, reduceCtorEq, decide_true, decide_false, Int.reduceLE, Int.reduceLT, Int.reduceToNat, Int.reduceAdd, Int.reduceSub, Int.reduceMul, Int.reduceEq, hfl, hfl1, hfl2, hfl3, hfl4, hfl5, hfl6, NE, UN, NE9, Nat.add_assoc]
  refine Ended.back hA ?_ rfl (RB.bool _)
  simp (maxDischargeDepth := 20) only [xt_push, xt_put, xt_refl, Nat.le_refl, Nat.le_add_right, Nat.add_assoc, Nat.reduceAdd]

set_option maxHeartbeats 2000000 in
theorem next_bad {n : Nat} (hG : G 2 = some tabV) (hn : n < 18446744073709551616) (h : 9218868437227405312 ≤ n % 9223372036854775808) : Sound Tryd.prog G 3 [.int .u64 (n : Nat)] fl A (.bool true) A := by
  refine Sound.of mixed Tryd.func3 Tryd.ntmps3 Tryd.results3 (by kernel_rfl) rfl (by kernel_rfl) (by simp) fun hA => ?_
  have hfl : fl ≤ A.next := by have := hA.floor; omega
  have hfl1 : fl ≤ A.next + 1 := by have := hA.floor; omega
  have hfl2 : fl ≤ A.next + 2 := by have := hA.floor; omega
  have hfl3 : fl ≤ A.next + 3 := by have := hA.floor; omega
  have hfl4 : fl ≤ A.next + 4 := by have := hA.floor; omega
  have hfl5 : fl ≤ A.next + 5 := by have := hA.floor; omega
  have hfl6 : fl ≤ A.next + 6 := by have := hA.floor; omega
  have bg := fun fl A => borderBegun_ok (G := G) (fl := fl) (A := A) hG
  have fr := fun fl A => from_bad (G := G) (fl := fl) (A := A) hG hn h
  have m52 : min 52 64 = 52 := rfl
  have p52 : 2 ^ 52 = 4503599627370496 := rfl
  have e2 := mask11 hn
  have h47 : ((((n / 4503599627370496 % 2048 : Nat) : Int) = 2047)) = True := eq_true (by omega)
  simp only [↓R1, R2, R3, R4, TY, reduceIte, Nat.reduceEqDiff, Nat.reduceAdd, Nat.reduceMul, Nat.reduceLT, Nat.reduceLeDiff, reduceCtorEq, decide_true, decide_false, Int.reduceLE, Int.reduceLT, Int.reduceToNat, Int.reduceAdd, Int.reduceSub, Int.reduceMul, Int.reduceEq, hfl, hfl1, hfl2, hfl3, hfl4, hfl5, hfl6, NE, UN, NE9, Nat.add_assoc, m52, p52, e2, h47]
  refine call_of (bg _ _) ?_
  simp only [↓R1, R2, R3, R4, TY, reduceIte, Nat.reduceEqDiff, Nat.reduceAdd, Nat.reduceMul, Nat.reduceLT, Nat.reduceLeDiff, reduceCtorEq, decide_true, decide_false, Int.reduceLE, Int.reduceLT, Int.reduceToNat, Int.reduceAdd, Int.reduceSub, Int.reduceMul, Int.reduceEq, hfl, hfl1, hfl2, hfl3, hfl4, hfl5, hfl6, NE, UN, NE9, Nat.add_assoc, m52, p52, e2, h47]
  refine call_of (fr _ _) ?_
  simp only [↓R1, R2, R3, R4, TY, reduceIte, Nat.reduceEqDiff, Nat.reduceAdd, Nat.reduceMul, Nat.reduceLT, Nat.reduceLeDiff, reduceCtorEq, decide_true, decide_false, Int.reduceLE, Int.reduceLT, Int.reduceToNat, Int.reduceAdd, Int.reduceSub, Int.reduceMul, Int.reduceEq, hfl, hfl1, hfl2, hfl3, hfl4, hfl5, hfl6, NE, UN, NE9, Nat.add_assoc, m52, p52, e2, h47]
  refine Ended.back hA ?_ rfl (RB.bool _)
  simp (maxDischargeDepth := 20) only [xt_push, xt_put, xt_refl, Nat.le_refl, Nat.le_add_right, Nat.add_assoc, Nat.reduceAdd]

set_option maxHeartbeats 2000000 in
theorem next_max0 {n b : Nat} (hG : G 2 = some tabV) (hn : n < 18446744073709551616) (hm : n % 9223372036854775808 = b) (hb : b < 9218868437227405312) (h0 : b = 9218868437227405311) (hs : n / 9223372036854775808 = 0) : Sound Tryd.prog G 3 [.int .u64 (n : Nat)] fl A (.bool true) A := by
  refine Sound.of mixed Tryd.func3 Tryd.ntmps3 Tryd.results3 (by kernel_rfl) rfl (by kernel_rfl) (by simp) fun hA => ?_
  have hfl : fl ≤ A.next := by have := hA.floor; omega
  have hfl1 : fl ≤ A.next + 1 := by have := hA.floor; omega
  have hfl2 : fl ≤ A.next + 2 := by have := hA.floor; omega
  have hfl3 : fl ≤ A.next + 3 := by have := hA.floor; omega
  have hfl4 : fl ≤ A.next + 4 := by have := hA.floor; omega
  have hfl5 : fl ≤ A.next + 5 := by have := hA.floor; omega
  have hfl6 : fl ≤ A.next + 6 := by have := hA.floor; omega
  have m52 : min 52 64 = 52 := rfl
  have p52 : 2 ^ 52 = 4503599627370496 := rfl
  have m63 : min 63 64 = 63 := rfl
  have p63 : 2 ^ 63 = 9223372036854775808 := rfl
  have e1 := clear_fact hn
  have e2 := mask11 hn
  have h47 := bit_facts hm hb
  rw [hm] at e1
  have hv0 : (((0 : Nat) : Int) = 1) = False := eq_false (by decide)
  have hv1 : (((1 : Nat) : Int) = 1) = True := eq_true rfl
  obtain ⟨b1, b2, b3, hc, w1, w2, hz⟩ := from_facts (n := n) hb
  have hz00 : (((0 : Nat) : Int) = 0) = True := eq_true rfl
  have hp : 0 < b := by omega
  have bg := fun fl A => borderBegun_ok (G := G) (fl := fl) (A := A) hG
  have fr := fun fl A => from_00 (G := G) (fl := fl) (A := A) hG hn hm hb hs hp
  have mf := max_facts
  rw [← h0] at mf
  obtain ⟨g1, g2, g3, g4, g5⟩ := mf
  have to := fun fl A => to_l2 (G := G) (fl := fl) (A := A) hG (blo_rz hb) (bhi_rz hb) (by decide) g1 g2 g3
  have hx : (((b : Nat) : Int) = 9218868437227405311) = True := eq_true (by omega)
  generalize bhi b = hi at *
  generalize blo b = lo at *
  simp only [prV_def] at fr to
  simp only [↓R1, R2, R3, R4, TY, reduceIte, Nat.reduceEqDiff, Nat.reduceAdd, Nat.reduceMul, Nat.reduceLT, Nat.reduceLeDiff, reduceCtorEq, decide_true, decide_false, Int.reduceLE, Int.reduceLT, Int.reduceToNat, Int.reduceAdd, Int.reduceSub, Int.reduceMul, Int.reduceEq, hfl, hfl1, hfl2, hfl3, hfl4, hfl5, hfl6, NE, UN, NE9, Nat.add_assoc, m52, p52, m63, p63, e1, e2, h47, b_andNot, hs, hv0, hv1, w1, hx]
  refine call_of (bg _ _) ?_
  simp only [↓R1, R2, R3, R4, TY, reduceIte, Nat.reduceEqDiff, Nat.reduceAdd, Nat.reduceMul, Nat.reduceLT, Nat.reduceLeDiff, reduceCtorEq, decide_true, decide_false, Int.reduceLE, Int.reduceLT, Int.reduceToNat, Int.reduceAdd, Int.reduceSub, Int.reduceMul, Int.reduceEq, hfl, hfl1, hfl2, hfl3, hfl4, hfl5, hfl6, NE, UN, NE9, Nat.add_assoc, m52, p52, m63, p63, e1, e2, h47, b_andNot, hs, hv0, hv1, w1, hx]
  refine call_of (fr _ _) ?_
  simp only [↓R1, R2, R3, R4, TY, reduceIte, Nat.reduceEqDiff, Nat.reduceAdd, Nat.reduceMul, Nat.reduceLT, Nat.reduceLeDiff, reduceCtorEq, decide_true, decide_false, Int.reduceLE, Int.reduceLT, Int.reduceToNat, Int.reduceAdd, Int.reduceSub, Int.reduceMul, Int.reduceEq, hfl, hfl1, hfl2, hfl3, hfl4, hfl5, hfl6, NE, UN, NE9, Nat.add_assoc, m52, p52, m63, p63, e1, e2, h47, b_andNot, hs, hv0, hv1, w1, hx]
  refine call_of (to _ _) ?_
  simp only [↓R1, R2, R3, R4, TY, reduceIte, Nat.reduceEqDiff, Nat.reduceAdd, Nat.reduceMul, Nat.reduceLT, Nat.reduceLeDiff, reduceCtorEq, decide_true, decide_false, Int.reduceLE, Int.reduceLT, Int.reduceToNat, Int.reduceAdd, Int.reduceSub, Int.reduceMul, Int.reduceEq, hfl, hfl1, hfl2, hfl3, hfl4, hfl5, hfl6, NE, UN, NE9, Nat.add_assoc, m52, p52, m63, p63, e1, e2, h47, b_andNot, hs, hv0, hv1, w1, hx]
  refine Ended.back hA ?_ rfl (RB.bool _)
  simp (maxDischargeDepth := 20) only [xt_push, xt_put, xt_refl, Nat.le_refl, Nat.le_add_right, Nat.add_assoc, Nat.reduceAdd]

set_option maxHeartbeats 2000000 in
theorem next_max1 {n b : Nat} (hG : G 2 = some tabV) (hn : n < 18446744073709551616) (hm : n % 9223372036854775808 = b) (hb : b < 9218868437227405312) (h0 : b = 9218868437227405311) (hs : n / 9223372036854775808 = 1) : Sound Tryd.prog G 3 [.int .u64 (n : Nat)] fl A (.bool true) A := by
  refine Sound.of mixed Tryd.func3 Tryd.ntmps3 Tryd.results3 (by kernel_rfl) rfl (by kernel_rfl) (by simp) fun hA => ?_
  have hfl : fl ≤ A.next := by have := hA.floor; omega
  have hfl1 : fl ≤ A.next + 1 := by have := hA.floor; omega
  have hfl2 : fl ≤ A.next + 2 := by have := hA.floor; omega
  have hfl3 : fl ≤ A.next + 3 := by have := hA.floor; omega
  have hfl4 : fl ≤ A.next + 4 := by have := hA.floor; omega
  have hfl5 : fl ≤ A.next + 5 := by have := hA.floor; omega
  have hfl6 : fl ≤ A.next + 6 := by have := hA.floor; omega
  have m52 : min 52 64 = 52 := rfl
  have p52 : 2 ^ 52 = 4503599627370496 := rfl
  have m63 : min 63 64 = 63 := rfl
  have p63 : 2 ^ 63 = 9223372036854775808 := rfl
  have e1 := clear_fact hn
  have e2 := mask11 hn
  have h47 := bit_facts hm hb
  rw [hm] at e1
  have hv0 : (((0 : Nat) : Int) = 1) = False := eq_false (by decide)
  have hv1 : (((1 : Nat) : Int) = 1) = True := eq_true rfl
  obtain ⟨b1, b2, b3, hc, w1, w2, hz⟩ := from_facts (n := n) hb
  have hz00 : (((0 : Nat) : Int) = 0) = True := eq_true rfl
  have hp : 0 < b := by omega
  have bg := fun fl A => borderBegun_ok (G := G) (fl := fl) (A := A) hG
  have fr := fun fl A => from_10 (G := G) (fl := fl) (A := A) hG hn hm hb hs hp
  have mf := max_facts
  rw [← h0] at mf
  obtain ⟨g1, g2, g3, g4, g5⟩ := mf
  have to := fun fl A => to_l1 (G := G) (fl := fl) (A := A) hG (bhi_rz hb).neg (blo_rz hb).neg (by decide) g5 g4
  have hx : (((b : Nat) : Int) = 9218868437227405311) = True := eq_true (by omega)
  generalize bhi b = hi at *
  generalize blo b = lo at *
  simp only [prV_def] at fr to
  simp only [↓R1, R2, R3, R4, TY, reduceIte, Nat.reduceEqDiff, Nat.reduceAdd, Nat.reduceMul, Nat.reduceLT, Nat.reduceLeDiff, reduceCtorEq, decide_true, decide_false, Int.reduceLE, Int.reduceLT, Int.reduceToNat, Int.reduceAdd, Int.reduceSub, Int.reduceMul, Int.reduceEq, hfl, hfl1, hfl2, hfl3, hfl4, hfl5, hfl6, NE, UN, NE9, Nat.add_assoc, m52, p52, m63, p63, e1, e2, h47, b_andNot, hs, hv0, hv1, w1, hx]
  refine call_of (bg _ _) ?_
  simp only [↓R1, R2, R3, R4, TY, reduceIte, Nat.reduceEqDiff, Nat.reduceAdd, Nat.reduceMul, Nat.reduceLT, Nat.reduceLeDiff, reduceCtorEq, decide_true, decide_false, Int.reduceLE, Int.reduceLT, Int.reduceToNat, Int.reduceAdd, Int.reduceSub, Int.reduceMul, Int.reduceEq, hfl, hfl1, hfl2, hfl3, hfl4, hfl5, hfl6, NE, UN, NE9, Nat.add_assoc, m52, p52, m63, p63, e1, e2, h47, b_andNot, hs, hv0, hv1, w1, hx]
  refine call_of (fr _ _) ?_
  simp only [↓R1, R2, R3, R4, TY, reduceIte, Nat.reduceEqDiff, Nat.reduceAdd, Nat.reduceMul, Nat.reduceLT, Nat.reduceLeDiff, reduceCtorEq, decide_true, decide_false, Int.reduceLE, Int.reduceLT, Int.reduceToNat, Int.reduceAdd, Int.reduceSub, Int.reduceMul, Int.reduceEq, hfl, hfl1, hfl2, hfl3, hfl4, hfl5, hfl6, NE, UN, NE9, Nat.add_assoc, m52, p52, m63, p63, e1, e2, h47, b_andNot, hs, hv0, hv1, w1, hx]
  refine call_of (to _ _) ?_
  simp only [↓R1, R2, R3, R4, TY, reduceIte, Nat.reduceEqDiff, Nat.reduceAdd, Nat.reduceMul, Nat.reduceLT, Nat.reduceLeDiff, reduceCtorEq, decide_true, decide_false, Int.reduceLE, Int.reduceLT, Int.reduceToNat, Int.reduceAdd, Int.reduceSub, Int.reduceMul, Int.reduceEq, hfl, hfl1, hfl2, hfl3, hfl4, hfl5, hfl6, NE, UN, NE9, Nat.add_assoc, m52, p52, m63, p63, e1, e2, h47, b_andNot, hs, hv0, hv1, w1, hx]
  refine Ended.back hA ?_ rfl (RB.bool _)
  simp (maxDischargeDepth := 20) only [xt_push, xt_put, xt_refl, Nat.le_refl, Nat.le_add_right, Nat.add_assoc, Nat.reduceAdd]

set_option maxHeartbeats 2000000 in
theorem next_pos {n b : Nat} (hG : G 2 = some tabV) (hn : n < 18446744073709551616) (hm : n % 9223372036854775808 = b) (hb : b < 9218868437227405312) (hl : b + 1 < 9218868437227405312) (h0 : 0 < b) (hs : n / 9223372036854775808 = 0) : Sound Tryd.prog G 3 [.int .u64 (n : Nat)] fl A (.bool true) A := by
  refine Sound.of mixed Tryd.func3 Tryd.ntmps3 Tryd.results3 (by kernel_rfl) rfl (by kernel_rfl) (by simp) fun hA => ?_
  have hfl : fl ≤ A.next := by have := hA.floor; omega
  have hfl1 : fl ≤ A.next + 1 := by have := hA.floor; omega
  have hfl2 : fl ≤ A.next + 2 := by have := hA.floor; omega
  have hfl3 : fl ≤ A.next + 3 := by have := hA.floor; omega
  have hfl4 : fl ≤ A.next + 4 := by have := hA.floor; omega
  have hfl5 : fl ≤ A.next + 5 := by have := hA.floor; omega
  have hfl6 : fl ≤ A.next + 6 := by have := hA.floor; omega
  have m52 : min 52 64 = 52 := rfl
  have p52 : 2 ^ 52 = 4503599627370496 := rfl
  have m63 : min 63 64 = 63 := rfl
  have p63 : 2 ^ 63 = 9223372036854775808 := rfl
  have e1 := clear_fact hn
  have e2 := mask11 hn
  have h47 := bit_facts hm hb
  rw [hm] at e1
  have hv0 : (((0 : Nat) : Int) = 1) = False := eq_false (by decide)
  have hv1 : (((1 : Nat) : Int) = 1) = True := eq_true rfl
  obtain ⟨b1, b2, b3, hc, w1, w2, hz⟩ := from_facts (n := n) hb
  have hz00 : (((0 : Nat) : Int) = 0) = True := eq_true rfl
  have hx : (((b : Nat) : Int) = 9218868437227405311) = False := eq_false (by omega)
  have bg := fun fl A => borderBegun_ok (G := G) (fl := fl) (A := A) hG
  have z0 : (((b : Nat) : Int) = 0) = False := eq_false (by omega)
  have w2 := w2 h0
  have fr := fun fl A => from_00 (G := G) (fl := fl) (A := A) hG hn hm hb hs h0
  obtain ⟨a1, a2, a3, a4, a5, a6, a7⟩ := next_pp h0 hl
  have to := fun fl A => to_pp (G := G) (fl := fl) (A := A) hG (blo_rz hb) (bhi_rz hb) (by decide) (blo_le b) a6 a7 a1 a2 a3 a4 a5
  generalize bhi b = hi at *
  generalize blo b = lo at *
  simp only [prV_def] at fr to
  simp only [↓R1, R2, R3, R4, TY, reduceIte, Nat.reduceEqDiff, Nat.reduceAdd, Nat.reduceMul, Nat.reduceLT, Nat.reduceLeDiff, reduceCtorEq, decide_true, decide_false, Int.reduceLE, Int.reduceLT, Int.reduceToNat, Int.reduceAdd, Int.reduceSub, Int.reduceMul, Int.reduceEq, hfl, hfl1, hfl2, hfl3, hfl4, hfl5, hfl6, NE, UN, NE9, Nat.add_assoc, m52, p52, m63, p63, e1, e2, h47, b_andNot, hs, hv0, hv1, w1, hx, z0, w2]
  refine call_of (bg _ _) ?_
  simp only [↓R1, R2, R3, R4, TY, reduceIte, Nat.reduceEqDiff, Nat.reduceAdd, Nat.reduceMul, Nat.reduceLT, Nat.reduceLeDiff, reduceCtorEq, decide_true, decide_false, Int.reduceLE, Int.reduceLT, Int.reduceToNat, Int.reduceAdd, Int.reduceSub, Int.reduceMul, Int.reduceEq, hfl, hfl1, hfl2, hfl3, hfl4, hfl5, hfl6, NE, UN, NE9, Nat.add_assoc, m52, p52, m63, p63, e1, e2, h47, b_andNot, hs, hv0, hv1, w1, hx, z0, w2]
  refine call_of (fr _ _) ?_
  simp only [↓R1, R2, R3, R4, TY, reduceIte, Nat.reduceEqDiff, Nat.reduceAdd, Nat.reduceMul, Nat.reduceLT, Nat.reduceLeDiff, reduceCtorEq, decide_true, decide_false, Int.reduceLE, Int.reduceLT, Int.reduceToNat, Int.reduceAdd, Int.reduceSub, Int.reduceMul, Int.reduceEq, hfl, hfl1, hfl2, hfl3, hfl4, hfl5, hfl6, NE, UN, NE9, Nat.add_assoc, m52, p52, m63, p63, e1, e2, h47, b_andNot, hs, hv0, hv1, w1, hx, z0, w2]
  refine call_of (to _ _) ?_
  simp only [↓R1, R2, R3, R4, TY, reduceIte, Nat.reduceEqDiff, Nat.reduceAdd, Nat.reduceMul, Nat.reduceLT, Nat.reduceLeDiff, reduceCtorEq, decide_true, decide_false, Int.reduceLE, Int.reduceLT, Int.reduceToNat, Int.reduceAdd, Int.reduceSub, Int.reduceMul, Int.reduceEq, hfl, hfl1, hfl2, hfl3, hfl4, hfl5, hfl6, NE, UN, NE9, Nat.add_assoc, m52, p52, m63, p63, e1, e2, h47, b_andNot, hs, hv0, hv1, w1, hx, z0, w2]
  refine Ended.back hA ?_ rfl (RB.bool _)
  simp (maxDischargeDepth := 20) only [xt_push, xt_put, xt_refl, Nat.le_refl, Nat.le_add_right, Nat.add_assoc, Nat.reduceAdd]

set_option maxHeartbeats 2000000 in
theorem next_zp {n b : Nat} (hG : G 2 = some tabV) (hn : n < 18446744073709551616) (hm : n % 9223372036854775808 = b) (hb : b < 9218868437227405312) (hl : b + 1 < 9218868437227405312) (h0 : b = 0) (hs : n / 9223372036854775808 = 0) : Sound Tryd.prog G 3 [.int .u64 (n : Nat)] fl A (.bool true) A := by
  refine Sound.of mixed Tryd.func3 Tryd.ntmps3 Tryd.results3 (by kernel_rfl) rfl (by kernel_rfl) (by simp) fun hA => ?_
  have hfl : fl ≤ A.next := by have := hA.floor; omega
  have hfl1 : fl ≤ A.next + 1 := by have := hA.floor; omega
  have hfl2 : fl ≤ A.next + 2 := by have := hA.floor; omega
  have hfl3 : fl ≤ A.next + 3 := by have := hA.floor; omega
  have hfl4 : fl ≤ A.next + 4 := by have := hA.floor; omega
  have hfl5 : fl ≤ A.next + 5 := by have := hA.floor; omega
  have hfl6 : fl ≤ A.next + 6 := by have := hA.floor; omega
  have m52 : min 52 64 = 52 := rfl
  have p52 : 2 ^ 52 = 4503599627370496 := rfl
  have m63 : min 63 64 = 63 := rfl
  have p63 : 2 ^ 63 = 9223372036854775808 := rfl
  have e1 := clear_fact hn
  have e2 := mask11 hn
  have h47 := bit_facts hm hb
  rw [hm] at e1
  have hv0 : (((0 : Nat) : Int) = 1) = False := eq_false (by decide)
  have hv1 : (((1 : Nat) : Int) = 1) = True := eq_true rfl
  obtain ⟨b1, b2, b3, hc, w1, w2, hz⟩ := from_facts (n := n) hb
  have hz00 : (((0 : Nat) : Int) = 0) = True := eq_true rfl
  have hx : (((b : Nat) : Int) = 9218868437227405311) = False := eq_false (by omega)
  have bg := fun fl A => borderBegun_ok (G := G) (fl := fl) (A := A) hG
  have z0 : (((b : Nat) : Int) = 0) = True := eq_true (by omega)
  obtain ⟨a1, a2, a3, a4, a5, a6, a7, a8, a9, a10⟩ := next_z
  have hbz : b < 9218868437227405312 := hb
  have r0 := bhi_rz (b := 0) (by decide)
  have to := fun fl A => to_np (G := G) (fl := fl) (A := A) hG r0.neg r0 (by decide) a10 a8 a9 a1 a2 a3 a4 a5 a6 a7
  have hb1 : b + 1 = 1 := by omega
  have wm : IntKind.u64.wrap (((b : Nat) : Int) - 1) = 18446744073709551615 := by rw [h0]; rfl
  have l1 : ((((1 + 9223372036854775808 : Nat) : Nat) : Int) = 9223372036854775809) = True := eq_true rfl
  have fr := fun fl A => from_01 (G := G) (fl := fl) (A := A) hG hn hm hb hs h0
  simp only [h0, blo_0, Rat.neg_neg] at fr
  generalize bhi 0 = hi0 at *
  simp only [prV_def] at fr to
  simp only [↓R1, R2, R3, R4, TY, reduceIte, Nat.reduceEqDiff, Nat.reduceAdd, Nat.reduceMul, Nat.reduceLT, Nat.reduceLeDiff, reduceCtorEq, decide_true, decide_false, Int.reduceLE, Int.reduceLT, Int.reduceToNat, Int.reduceAdd, Int.reduceSub, Int.reduceMul, Int.reduceEq, hfl, hfl1, hfl2, hfl3, hfl4, hfl5, hfl6, NE, UN, NE9, Nat.add_assoc, m52, p52, m63, p63, e1, e2, h47, b_andNot, hs, hv0, hv1, w1, hx, z0, wm, l1, hv1, hb1]
  refine call_of (bg _ _) ?_
  simp only [↓R1, R2, R3, R4, TY, reduceIte, Nat.reduceEqDiff, Nat.reduceAdd, Nat.reduceMul, Nat.reduceLT, Nat.reduceLeDiff, reduceCtorEq, decide_true, decide_false, Int.reduceLE, Int.reduceLT, Int.reduceToNat, Int.reduceAdd, Int.reduceSub, Int.reduceMul, Int.reduceEq, hfl, hfl1, hfl2, hfl3, hfl4, hfl5, hfl6, NE, UN, NE9, Nat.add_assoc, m52, p52, m63, p63, e1, e2, h47, b_andNot, hs, hv0, hv1, w1, hx, z0, wm, l1, hv1, hb1]
  refine call_of (fr _ _) ?_
  simp only [↓R1, R2, R3, R4, TY, reduceIte, Nat.reduceEqDiff, Nat.reduceAdd, Nat.reduceMul, Nat.reduceLT, Nat.reduceLeDiff, reduceCtorEq, decide_true, decide_false, Int.reduceLE, Int.reduceLT, Int.reduceToNat, Int.reduceAdd, Int.reduceSub, Int.reduceMul, Int.reduceEq, hfl, hfl1, hfl2, hfl3, hfl4, hfl5, hfl6, NE, UN, NE9, Nat.add_assoc, m52, p52, m63, p63, e1, e2, h47, b_andNot, hs, hv0, hv1, w1, hx, z0, wm, l1, hv1, hb1]
  refine call_of (to _ _) ?_
  simp only [↓R1, R2, R3, R4, TY, reduceIte, Nat.reduceEqDiff, Nat.reduceAdd, Nat.reduceMul, Nat.reduceLT, Nat.reduceLeDiff, reduceCtorEq, decide_true, decide_false, Int.reduceLE, Int.reduceLT, Int.reduceToNat, Int.reduceAdd, Int.reduceSub, Int.reduceMul, Int.reduceEq, hfl, hfl1, hfl2, hfl3, hfl4, hfl5, hfl6, NE, UN, NE9, Nat.add_assoc, m52, p52, m63, p63, e1, e2, h47, b_andNot, hs, hv0, hv1, w1, hx, z0, wm, l1, hv1, hb1]
  refine Ended.back hA ?_ rfl (RB.bool _)
  simp (maxDischargeDepth := 20) only [xt_push, xt_put, xt_refl, Nat.le_refl, Nat.le_add_right, Nat.add_assoc, Nat.reduceAdd]

set_option maxHeartbeats 2000000 in
theorem next_zn {n b : Nat} (hG : G 2 = some tabV) (hn : n < 18446744073709551616) (hm : n % 9223372036854775808 = b) (hb : b < 9218868437227405312) (hl : b + 1 < 9218868437227405312) (h0 : b = 0) (hs : n / 9223372036854775808 = 1) : Sound Tryd.prog G 3 [.int .u64 (n : Nat)] fl A (.bool true) A := by
  refine Sound.of mixed Tryd.func3 Tryd.ntmps3 Tryd.results3 (by kernel_rfl) rfl (by kernel_rfl) (by simp) fun hA => ?_
  have hfl : fl ≤ A.next := by have := hA.floor; omega
  have hfl1 : fl ≤ A.next + 1 := by have := hA.floor; omega
  have hfl2 : fl ≤ A.next + 2 := by have := hA.floor; omega
  have hfl3 : fl ≤ A.next + 3 := by have := hA.floor; omega
  have hfl4 : fl ≤ A.next + 4 := by have := hA.floor; omega
  have hfl5 : fl ≤ A.next + 5 := by have := hA.floor; omega
  have hfl6 : fl ≤ A.next + 6 := by have := hA.floor; omega
  have m52 : min 52 64 = 52 := rfl
  have p52 : 2 ^ 52 = 4503599627370496 := rfl
  have m63 : min 63 64 = 63 := rfl
  have p63 : 2 ^ 63 = 9223372036854775808 := rfl
  have e1 := clear_fact hn
  have e2 := mask11 hn
  have h47 := bit_facts hm hb
  rw [hm] at e1
  have hv0 : (((0 : Nat) : Int) = 1) = False := eq_false (by decide)
  have hv1 : (((1 : Nat) : Int) = 1) = True := eq_true rfl
  obtain ⟨b1, b2, b3, hc, w1, w2, hz⟩ := from_facts (n := n) hb
  have hz00 : (((0 : Nat) : Int) = 0) = True := eq_true rfl
  have hx : (((b : Nat) : Int) = 9218868437227405311) = False := eq_false (by omega)
  have bg := fun fl A => borderBegun_ok (G := G) (fl := fl) (A := A) hG
  have z0 : (((b : Nat) : Int) = 0) = True := eq_true (by omega)
  have z1 : (((b : Nat) : Int) = 1) = False := eq_false (by omega)
  obtain ⟨a1, a2, a3, a4, a5, a6, a7, a8, a9, a10⟩ := next_z
  have hbz : b < 9218868437227405312 := hb
  have r0 := bhi_rz (b := 0) (by decide)
  have to := fun fl A => to_np (G := G) (fl := fl) (A := A) hG r0.neg r0 (by decide) a10 a8 a9 a1 a2 a3 a4 a5 a6 a7
  have hb1 : b + 1 = 1 := by omega
  have wm : IntKind.u64.wrap (((b : Nat) : Int) - 1) = 18446744073709551615 := by rw [h0]; rfl
  have l1 : ((((1 + 9223372036854775808 : Nat) : Nat) : Int) = 9223372036854775809) = True := eq_true rfl
  have fr := fun fl A => from_11 (G := G) (fl := fl) (A := A) hG hn hm hb hs h0
  simp only [h0, blo_0, Rat.neg_neg] at fr
  generalize bhi 0 = hi0 at *
  simp only [prV_def] at fr to
  simp only [↓R1, R2, R3, R4, TY, reduceIte, Nat.reduceEqDiff, Nat.reduceAdd, Nat.reduceMul, Nat.reduceLT, Nat.reduceLeDiff, reduceCtorEq, decide_true, decide_false, Int.reduceLE, Int.reduceLT, Int.reduceToNat, Int.reduceAdd, Int.reduceSub, Int.reduceMul, Int.reduceEq, hfl, hfl1, hfl2, hfl3, hfl4, hfl5, hfl6, NE, UN, NE9, Nat.add_assoc, m52, p52, m63, p63, e1, e2, h47, b_andNot, hs, hv0, hv1, w1, hx, z0, z1, wm, l1, hv1, big_or]
  refine call_of (bg _ _) ?_
  simp only [↓R1, R2, R3, R4, TY, reduceIte, Nat.reduceEqDiff, Nat.reduceAdd, Nat.reduceMul, Nat.reduceLT, Nat.reduceLeDiff, reduceCtorEq, decide_true, decide_false, Int.reduceLE, Int.reduceLT, Int.reduceToNat, Int.reduceAdd, Int.reduceSub, Int.reduceMul, Int.reduceEq, hfl, hfl1, hfl2, hfl3, hfl4, hfl5, hfl6, NE, UN, NE9, Nat.add_assoc, m52, p52, m63, p63, e1, e2, h47, b_andNot, hs, hv0, hv1, w1, hx, z0, z1, wm, l1, hv1, big_or]
  refine call_of (fr _ _) ?_
  simp only [↓R1, R2, R3, R4, TY, reduceIte, Nat.reduceEqDiff, Nat.reduceAdd, Nat.reduceMul, Nat.reduceLT, Nat.reduceLeDiff, reduceCtorEq, decide_true, decide_false, Int.reduceLE, Int.reduceLT, Int.reduceToNat, Int.reduceAdd, Int.reduceSub, Int.reduceMul, Int.reduceEq, hfl, hfl1, hfl2, hfl3, hfl4, hfl5, hfl6, NE, UN, NE9, Nat.add_assoc, m52, p52, m63, p63, e1, e2, h47, b_andNot, hs, hv0, hv1, w1, hx, z0, z1, wm, l1, hv1, big_or]
  refine call_of (to _ _) ?_
  simp only [↓R1, R2, R3, R4, TY, reduceIte, Nat.reduceEqDiff, Nat.reduceAdd, Nat.reduceMul, Nat.reduceLT, Nat.reduceLeDiff, reduceCtorEq, decide_true, decide_false, Int.reduceLE, Int.reduceLT, Int.reduceToNat, Int.reduceAdd, Int.reduceSub, Int.reduceMul, Int.reduceEq, hfl, hfl1, hfl2, hfl3, hfl4, hfl5, hfl6, NE, UN, NE9, Nat.add_assoc, m52, p52, m63, p63, e1, e2, h47, b_andNot, hs, hv0, hv1, w1, hx, z0, z1, wm, l1, hv1, big_or]
  refine Ended.back hA ?_ rfl (RB.bool _)
  simp (maxDischargeDepth := 20) only [xt_push, xt_put, xt_refl, Nat.le_refl, Nat.le_add_right, Nat.add_assoc, Nat.reduceAdd]

set_option maxHeartbeats 2000000 in
theorem next_neg {n b : Nat} (hG : G 2 = some tabV) (hn : n < 18446744073709551616) (hm : n % 9223372036854775808 = b) (hb : b < 9218868437227405312) (hl : b + 1 < 9218868437227405312) (h0 : 0 < b) (h1 : 1 < b) (hs : n / 9223372036854775808 = 1) : Sound Tryd.prog G 3 [.int .u64 (n : Nat)] fl A (.bool true) A := by
  refine Sound.of mixed Tryd.func3 Tryd.ntmps3 Tryd.results3 (by kernel_rfl) rfl (by kernel_rfl) (by simp) fun hA => ?_
  have hfl : fl ≤ A.next := by have := hA.floor; omega
  have hfl1 : fl ≤ A.next + 1 := by have := hA.floor; omega
  have hfl2 : fl ≤ A.next + 2 := by have := hA.floor; omega
  have hfl3 : fl ≤ A.next + 3 := by have := hA.floor; omega
  have hfl4 : fl ≤ A.next + 4 := by have := hA.floor; omega
  have hfl5 : fl ≤ A.next + 5 := by have := hA.floor; omega
  have hfl6 : fl ≤ A.next + 6 := by have := hA.floor; omega
  have m52 : min 52 64 = 52 := rfl
  have p52 : 2 ^ 52 = 4503599627370496 := rfl
  have m63 : min 63 64 = 63 := rfl
  have p63 : 2 ^ 63 = 9223372036854775808 := rfl
  have e1 := clear_fact hn
  have e2 := mask11 hn
  have h47 := bit_facts hm hb
  rw [hm] at e1
  have hv0 : (((0 : Nat) : Int) = 1) = False := eq_false (by decide)
  have hv1 : (((1 : Nat) : Int) = 1) = True := eq_true rfl
  obtain ⟨b1, b2, b3, hc, w1, w2, hz⟩ := from_facts (n := n) hb
  have hz00 : (((0 : Nat) : Int) = 0) = True := eq_true rfl
  have hx : (((b : Nat) : Int) = 9218868437227405311) = False := eq_false (by omega)
  have bg := fun fl A => borderBegun_ok (G := G) (fl := fl) (A := A) hG
  have z0 : (((b : Nat) : Int) = 0) = False := eq_false (by omega)
  have z1 : (((b : Nat) : Int) = 1) = False := eq_false (by omega)
  obtain ⟨a1, a2, a3, a4, a5, a6, a7, a8, a9, a10, a11⟩ := next_nn h0 hl
  have w2 := w2 h0
  have so1 := sign_or' (m := b + 1) (lt63 hl)
  have so2 := sign_or' (m := b - 1) (Nat.lt_of_le_of_lt (Nat.sub_le _ _) (lt63 hb))
  have fr := fun fl A => from_10 (G := G) (fl := fl) (A := A) hG hn hm hb hs h0
  have to := fun fl A => to_nn0 (G := G) (fl := fl) (A := A) hG (bhi_rz hb).neg (blo_rz hb).neg (by decide) a11 a9 a10 a1 a2 a3 a4 a5 a6 a7 a8 (by omega)
  generalize bhi b = hi at *
  generalize blo b = lo at *
  simp only [prV_def] at fr to
  simp only [↓R1, R2, R3, R4, TY, reduceIte, Nat.reduceEqDiff, Nat.reduceAdd, Nat.reduceMul, Nat.reduceLT, Nat.reduceLeDiff, reduceCtorEq, decide_true, decide_false, Int.reduceLE, Int.reduceLT, Int.reduceToNat, Int.reduceAdd, Int.reduceSub, Int.reduceMul, Int.reduceEq, hfl, hfl1, hfl2, hfl3, hfl4, hfl5, hfl6, NE, UN, NE9, Nat.add_assoc, m52, p52, m63, p63, e1, e2, h47, b_andNot, hs, hv0, hv1, w1, hx, z0, z1, w2, so1, so2]
  refine call_of (bg _ _) ?_
  simp only [↓R1, R2, R3, R4, TY, reduceIte, Nat.reduceEqDiff, Nat.reduceAdd, Nat.reduceMul, Nat.reduceLT, Nat.reduceLeDiff, reduceCtorEq, decide_true, decide_false, Int.reduceLE, Int.reduceLT, Int.reduceToNat, Int.reduceAdd, Int.reduceSub, Int.reduceMul, Int.reduceEq, hfl, hfl1, hfl2, hfl3, hfl4, hfl5, hfl6, NE, UN, NE9, Nat.add_assoc, m52, p52, m63, p63, e1, e2, h47, b_andNot, hs, hv0, hv1, w1, hx, z0, z1, w2, so1, so2]
  refine call_of (fr _ _) ?_
  simp only [↓R1, R2, R3, R4, TY, reduceIte, Nat.reduceEqDiff, Nat.reduceAdd, Nat.reduceMul, Nat.reduceLT, Nat.reduceLeDiff, reduceCtorEq, decide_true, decide_false, Int.reduceLE, Int.reduceLT, Int.reduceToNat, Int.reduceAdd, Int.reduceSub, Int.reduceMul, Int.reduceEq, hfl, hfl1, hfl2, hfl3, hfl4, hfl5, hfl6, NE, UN, NE9, Nat.add_assoc, m52, p52, m63, p63, e1, e2, h47, b_andNot, hs, hv0, hv1, w1, hx, z0, z1, w2, so1, so2]
  refine call_of (to _ _) ?_
  simp only [↓R1, R2, R3, R4, TY, reduceIte, Nat.reduceEqDiff, Nat.reduceAdd, Nat.reduceMul, Nat.reduceLT, Nat.reduceLeDiff, reduceCtorEq, decide_true, decide_false, Int.reduceLE, Int.reduceLT, Int.reduceToNat, Int.reduceAdd, Int.reduceSub, Int.reduceMul, Int.reduceEq, hfl, hfl1, hfl2, hfl3, hfl4, hfl5, hfl6, NE, UN, NE9, Nat.add_assoc, m52, p52, m63, p63, e1, e2, h47, b_andNot, hs, hv0, hv1, w1, hx, z0, z1, w2, so1, so2]
  refine Ended.back hA ?_ rfl (RB.bool _)
  simp (maxDischargeDepth := 20) only [xt_push, xt_put, xt_refl, Nat.le_refl, Nat.le_add_right, Nat.add_assoc, Nat.reduceAdd]

set_option maxHeartbeats 2000000 in
theorem next_neg1 {n b : Nat} (hG : G 2 = some tabV) (hn : n < 18446744073709551616) (hm : n % 9223372036854775808 = b) (hb : b < 9218868437227405312) (hl : b + 1 < 9218868437227405312) (h0 : 0 < b) (h1 : b = 1) (hs : n / 9223372036854775808 = 1) : Sound Tryd.prog G 3 [.int .u64 (n : Nat)] fl A (.bool true) A := by
  refine Sound.of mixed Tryd.func3 Tryd.ntmps3 Tryd.results3 (by kernel_rfl) rfl (by kernel_rfl) (by simp) fun hA => ?_
  have hfl : fl ≤ A.next := by have := hA.floor; omega
  have hfl1 : fl ≤ A.next + 1 := by have := hA.floor; omega
  have hfl2 : fl ≤ A.next + 2 := by have := hA.floor; omega
  have hfl3 : fl ≤ A.next + 3 := by have := hA.floor; omega
  have hfl4 : fl ≤ A.next + 4 := by have := hA.floor; omega
  have hfl5 : fl ≤ A.next + 5 := by have := hA.floor; omega
  have hfl6 : fl ≤ A.next + 6 := by have := hA.floor; omega
  have m52 : min 52 64 = 52 := rfl
  have p52 : 2 ^ 52 = 4503599627370496 := rfl
  have m63 : min 63 64 = 63 := rfl
  have p63 : 2 ^ 63 = 9223372036854775808 := rfl
  have e1 := clear_fact hn
  have e2 := mask11 hn
  have h47 := bit_facts hm hb
  rw [hm] at e1
  have hv0 : (((0 : Nat) : Int) = 1) = False := eq_false (by decide)
  have hv1 : (((1 : Nat) : Int) = 1) = True := eq_true rfl
  obtain ⟨b1, b2, b3, hc, w1, w2, hz⟩ := from_facts (n := n) hb
  have hz00 : (((0 : Nat) : Int) = 0) = True := eq_true rfl
  have hx : (((b : Nat) : Int) = 9218868437227405311) = False := eq_false (by omega)
  have bg := fun fl A => borderBegun_ok (G := G) (fl := fl) (A := A) hG
  have z0 : (((b : Nat) : Int) = 0) = False := eq_false (by omega)
  have z1 : (((b : Nat) : Int) = 1) = True := eq_true (by omega)
  obtain ⟨a1, a2, a3, a4, a5, a6, a7, a8, a9, a10, a11⟩ := next_nn h0 hl
  have w2 := w2 h0
  have so1 := sign_or' (m := b + 1) (lt63 hl)
  have so2 := sign_or' (m := b - 1) (Nat.lt_of_le_of_lt (Nat.sub_le _ _) (lt63 hb))
  have fr := fun fl A => from_10 (G := G) (fl := fl) (A := A) hG hn hm hb hs h0
  have to := fun fl A => to_nn1 (G := G) (fl := fl) (A := A) hG (bhi_rz hb).neg (blo_rz hb).neg (by decide) a11 a9 a10 a1 a2 a3 a4 a5 a6 a7 a8 (by omega)
  generalize bhi b = hi at *
  generalize blo b = lo at *
  simp only [prV_def] at fr to
  simp only [↓R1, R2, R3, R4, TY, reduceIte, Nat.reduceEqDiff, Nat.reduceAdd, Nat.reduceMul, Nat.reduceLT, Nat.reduceLeDiff, reduceCtorEq, decide_true, decide_false, Int.reduceLE, Int.reduceLT, Int.reduceToNat, Int.reduceAdd, Int.reduceSub, Int.reduceMul, Int.reduceEq, hfl, hfl1, hfl2, hfl3, hfl4, hfl5, hfl6, NE, UN, NE9, Nat.add_assoc, m52, p52, m63, p63, e1, e2, h47, b_andNot, hs, hv0, hv1, w1, hx, z0, z1, w2, so1, so2, hz00]
  refine call_of (bg _ _) ?_
  simp only [↓R1, R2, R3, R4, TY, reduceIte, Nat.reduceEqDiff, Nat.reduceAdd, Nat.reduceMul, Nat.reduceLT, Nat.reduceLeDiff, reduceCtorEq, decide_true, decide_false, Int.reduceLE, Int.reduceLT, Int.reduceToNat, Int.reduceAdd, Int.reduceSub, Int.reduceMul, Int.reduceEq, hfl, hfl1, hfl2, hfl3, hfl4, hfl5, hfl6, NE, UN, NE9, Nat.add_assoc, m52, p52, m63, p63, e1, e2, h47, b_andNot, hs, hv0, hv1, w1, hx, z0, z1, w2, so1, so2, hz00]
  refine call_of (fr _ _) ?_
  simp only [↓R1, R2, R3, R4, TY, reduceIte, Nat.reduceEqDiff, Nat.reduceAdd, Nat.reduceMul, Nat.reduceLT, Nat.reduceLeDiff, reduceCtorEq, decide_true, decide_false, Int.reduceLE, Int.reduceLT, Int.reduceToNat, Int.reduceAdd, Int.reduceSub, Int.reduceMul, Int.reduceEq, hfl, hfl1, hfl2, hfl3, hfl4, hfl5, hfl6, NE, UN, NE9, Nat.add_assoc, m52, p52, m63, p63, e1, e2, h47, b_andNot, hs, hv0, hv1, w1, hx, z0, z1, w2, so1, so2, hz00]
  refine call_of (to _ _) ?_
  simp only [↓R1, R2, R3, R4, TY, reduceIte, Nat.reduceEqDiff, Nat.reduceAdd, Nat.reduceMul, Nat.reduceLT, Nat.reduceLeDiff, reduceCtorEq, decide_true, decide_false, Int.reduceLE, Int.reduceLT, Int.reduceToNat, Int.reduceAdd, Int.reduceSub, Int.reduceMul, Int.reduceEq, hfl, hfl1, hfl2, hfl3, hfl4, hfl5, hfl6, NE, UN, NE9, Nat.add_assoc, m52, p52, m63, p63, e1, e2, h47, b_andNot, hs, hv0, hv1, w1, hx, z0, z1, w2, so1, so2, hz00]
  refine Ended.back hA ?_ rfl (RB.bool _)
  simp (maxDischargeDepth := 20) only [xt_push, xt_put, xt_refl, Nat.le_refl, Nat.le_add_right, Nat.add_assoc, Nat.reduceAdd]

end
end Go.Proofs.YtipcpehbgomdeaaDoor.Ab
