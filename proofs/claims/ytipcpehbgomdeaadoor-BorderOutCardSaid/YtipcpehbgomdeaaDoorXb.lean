/- Floating-point numbers as rational ones: powers of 2, exact. -/
import Derived.Test.YtipcpehbgomdeaaDoorVh
import Derived.Test.YtipcpehbgomdeaaDoorVo
namespace Go.Proofs.YtipcpehbgomdeaaDoor.Ab
open Go.RowKit
set_option linter.unusedVariables false
set_option linter.unusedSimpArgs false
set_option maxRecDepth 100000

theorem nb_two (n : Nat) : nb (2 ^ n) = UInt8.ofNat (2 ^ (n % 8)) :: List.replicate (n / 8) 0 := by
  have f0 : 2 ^ (n % 8) < 256 := Nat.lt_of_le_of_lt (Nat.pow_le_pow_right (by omega) (show n % 8 ≤ 7 by omega)) (by decide)
  have f1 := nv_zeros (n / 8) []
  rw [List.append_nil, nv_nil] at f1
  have hv : nv (UInt8.ofNat (2 ^ (n % 8)) :: List.replicate (n / 8) 0) = 2 ^ n := by
    rw [nv_cons, ofNat_toNat8 f0, f1, List.length_replicate, Nat.add_zero, show (256 : Nat) ^ (n / 8) = 2 ^ (8 * (n / 8)) by rw [Nat.pow_mul], ← Nat.pow_add]
    congr 1; omega
  rw [← hv]
  refine nb_nv _ fun b m h => ?_
  cases h
  intro h0
  have := congrArg UInt8.toNat h0
  rw [ofNat_toNat8 f0] at this
  have hp : 0 < 2 ^ (n % 8) := Nat.pow_pos (by omega)
  have : (0 : UInt8).toNat = 0 := rfl
  omega
/-- A power of 2. -/
def p2 (n : Nat) : Rat := rOf ((2 ^ n : Nat) : Int)
theorem p2_pos (n : Nat) : 0 < p2 n := by
  unfold p2; rw [rOf_eq]
  exact_mod_cast (show (0 : Int) < ((2 ^ n : Nat) : Int) by exact_mod_cast Nat.pow_pos (by omega))
theorem p2_rz {n : Nat} : Rz (p2 n) (n / 8 + 1) := by
  refine Rz.of ?_ (by omega)
  rw [Int.natAbs_natCast, nb_two]; simp
theorem p2_val (n : Nat) : ratV (p2 n) = .agg #[.bool false, .string (S (UInt8.ofNat (2 ^ (n % 8)) :: List.replicate (n / 8) 0)), .string (S [1])] := by
  unfold p2
  rw [ratV_def, rOf_num, rOf_den, nb_one, Int.natAbs_natCast, nb_two, decide_eq_false (Int.not_lt.2 (Int.natCast_nonneg _))]

section
variable {G : Gl} {fl : Nat} {A : Hp}

set_option maxHeartbeats 2000000 in
theorem power_ok {n : Nat} (hG : G 2 = some tabV) (hn : n ≤ 100000) : Sound Tryd.prog G 37 [.int .i64 (n : Nat)] fl A (ratV (p2 n)) A := by
  refine Sound.of mixed Tryd.func37 Tryd.ntmps37 Tryd.results37 (by kernel_rfl) rfl (by kernel_rfl) (by simp) fun hA => ?_
  have hfl : fl ≤ A.next := by have := hA.floor; omega
  have hfl1 : fl ≤ A.next + 1 := by have := hA.floor; omega
  have hfl2 : fl ≤ A.next + 2 := by have := hA.floor; omega
  have hfl3 : fl ≤ A.next + 3 := by have := hA.floor; omega
  have hfl4 : fl ≤ A.next + 4 := by have := hA.floor; omega
  have hfl5 : fl ≤ A.next + 5 := by have := hA.floor; omega
  have hfl6 : fl ≤ A.next + 6 := by have := hA.floor; omega
  have d1 : ((n : Nat) : Int).tdiv 8 = ((n / 8 : Nat) : Int) := by rw [show (8 : Int) = ((8 : Nat) : Int) from rfl, div_n]
  have d2 : ((n : Nat) : Int).tmod 8 = ((n % 8 : Nat) : Int) := by rw [show (8 : Int) = ((8 : Nat) : Int) from rfl, mod_n]
  have x1 : IntKind.i64.wrap ((n / 8 : Nat) : Int) = ((n / 8 : Nat) : Int) := wrapI (by omega)
  have x2 : IntKind.i64.wrap (((n / 8 : Nat) : Int) + 1) = ((n / 8 + 1 : Nat) : Int) := by rw [wrapI (by omega)]; omega
  have x3 : IntKind.i64.wrap ((n % 8 : Nat) : Int) = ((n % 8 : Nat) : Int) := wrapI (by omega)
  have x4 : ((1 : Nat) : Int) * ((n / 8 + 1 : Nat) : Int) ≤ 281474976710656 := by omega
  have x4' : ((n / 8 + 1 : Nat) : Int) ≤ 281474976710656 := by omega
  have x5 : ((n / 8 + 1 : Nat) : Int) ≤ 9223372036854775807 := by omega
  have x6 : min (n % 8) 8 = n % 8 := by omega
  have x7 : (0 : Int) < ((n / 8 + 1 : Nat) : Int) := by omega
  have x8 : 0 < n / 8 + 1 := by omega
  have x9 : ((1 * (n / 8 + 1) : Nat) : Int) ≤ 281474976710656 := by omega
  have hz8 : zl [Value.int .u8 0] (n / 8 + 1) = bl (List.replicate (n / 8 + 1) 0) := by rw [zl_one, bl_zeros]
  have x10 : 1 ≤ (bl (List.replicate (n / 8 + 1) 0)).length := by rw [bl_length, List.length_replicate]; omega
  have of1 := fun fl A => of_ok (G := G) (fl := fl) (A := A) (n := (1 : Int)) (by omega)
  rw [show (1 : Int).toNat = 1 from rfl, nb_one] at of1
  have hrb := ratV_rb A.next (p2 n)
  rw [p2_val] at hrb ⊢
  simp only [↓R1, R2, R3, R4, TY, reduceIte, Nat.reduceEqDiff, Nat.reduceAdd, Nat.reduceMul, Nat.reduceLT, Nat.reduceLeDiff, reduceCtorEq, decide_true, decide_false, Int.reduceLE, Int.reduceLT, Int.reduceToNat, Int.reduceAdd, Int.reduceSub, Int.reduceMul, Int.reduceEq, hfl, hfl1, hfl2, hfl3, hfl4, hfl5, hfl6, NE, hz8, x10, d1, d2, x1, x2, x3, x4, x4', x5, x6, x7, x8, x9, bits_u8]
  have f0 : 2 ^ (n % 8) < 256 := Nat.lt_of_le_of_lt (Nat.pow_le_pow_right (by omega) (show n % 8 ≤ 7 by omega)) (by decide)
  have hpl : (bl (List.replicate (n / 8 + 1) 0)).set 0 (Value.int .u8 (IntKind.u8.wrap (1 * 2 ^ (n % 8)))) = bl (UInt8.ofNat (2 ^ (n % 8)) :: List.replicate (n / 8) 0) := by
    have f1 : IntKind.u8.wrap (1 * 2 ^ (n % 8)) = (((UInt8.ofNat (2 ^ (n % 8))).toNat : Nat) : Int) := by
      rw [ofNat_toNat8 f0, Int.one_mul, show (2 : Int) ^ (n % 8) = ((2 ^ (n % 8) : Nat) : Int) by simp, u8_n, Nat.mod_eq_of_lt f0]
    rw [f1, bl_set]; rfl
  rw [hpl]
  have hpln : (UInt8.ofNat (2 ^ (n % 8)) :: List.replicate (n / 8) 0).length = n / 8 + 1 := by simp
  generalize UInt8.ofNat (2 ^ (n % 8)) :: List.replicate (n / 8) 0 = pw at *
  generalize hB : Hp.put _ (A.next + 1) _ = B
  have hBx : Xt A.next A B := by
    rw [← hB]
    simp (maxDischargeDepth := 20) only [xt_push, xt_put, xt_refl, Nat.le_refl, Nat.le_add_right, Nat.add_assoc, Nat.reduceAdd]
  have hBn : B.next = A.next + 2 := by rw [← hB]; rfl
  have hB1 : B.blk (A.next + 1) = some (.row (bl pw) 0 1) := by rw [← hB, Hp.put_blk, if_pos rfl]
  have hB0 : B.blk A.next = some (.row [.bool false, .string (S []), .string (S [])] 0 3) := by
    rw [← hB, Hp.put_blk, if_neg (by omega), Hp.push_blk, if_neg (by simp only [Hp.push_next]; omega)]; exact push_at rfl
  clear hB
  refine cnv_of pw ty5 rfl rfl (by simp) hpln (fun j u hj => ?_) ?_
  · simp only [Hp.get, aadd, hB1, Nat.zero_add, if_true]
    simp [bl, hj]
  simp only [↓R1, R2, R3, R4, TY, reduceIte, Nat.reduceEqDiff, Nat.reduceAdd, Nat.reduceMul, Nat.reduceLT, Nat.reduceLeDiff, reduceCtorEq, decide_true, decide_false, Int.reduceLE, Int.reduceLT, Int.reduceToNat, Int.reduceAdd, Int.reduceSub, Int.reduceMul, Int.reduceEq, hfl, hfl1, hfl2, hfl3, hfl4, hfl5, hfl6, NE, hB0]
  refine call_of (of1 _ _) ?_
  simp only [↓R1, R2, R3, R4, TY, reduceIte, Nat.reduceEqDiff, Nat.reduceAdd, Nat.reduceMul, Nat.reduceLT, Nat.reduceLeDiff, reduceCtorEq, decide_true, decide_false, Int.reduceLE, Int.reduceLT, Int.reduceToNat, Int.reduceAdd, Int.reduceSub, Int.reduceMul, Int.reduceEq, hfl, hfl1, hfl2, hfl3, hfl4, hfl5, hfl6, NE, hB0]
  rw [floOf_wr (by kernel_rfl)]
  simp only [↓R1, R2, R3, R4, TY, reduceIte, Nat.reduceEqDiff, Nat.reduceAdd, Nat.reduceMul, Nat.reduceLT, Nat.reduceLeDiff, reduceCtorEq, decide_true, decide_false, Int.reduceLE, Int.reduceLT, Int.reduceToNat, Int.reduceAdd, Int.reduceSub, Int.reduceMul, Int.reduceEq, hfl, hfl1, hfl2, hfl3, hfl4, hfl5, hfl6, NE, hB0]
  refine Ended.back hA ?_ rfl hrb
  simp (maxDischargeDepth := 20) only [xt_push, xt_put, hBx, Nat.le_refl, Nat.le_add_right, Nat.add_assoc, Nat.reduceAdd]

end
end Go.Proofs.YtipcpehbgomdeaaDoor.Ab

/- Floating-point numbers as rational ones: exact. -/
namespace Go.Proofs.YtipcpehbgomdeaaDoor.Ab
open Go.RowKit
set_option linter.unusedVariables false
set_option linter.unusedSimpArgs false
set_option maxRecDepth 100000

/-- The number with the bits of a floating-point number. -/
def exq (b : Nat) : Rat :=
  if b / 4503599627370496 = 0 then rOf ((b % 4503599627370496 : Nat) : Int) / p2 1074
  else if b / 4503599627370496 < 1075 then rOf ((b % 4503599627370496 + 4503599627370496 : Nat) : Int) / p2 (1075 - b / 4503599627370496)
  else rOf ((b % 4503599627370496 + 4503599627370496 : Nat) : Int) * p2 (b / 4503599627370496 - 1075)
theorem and_mask {b : Nat} (h : b < 18446744073709551616) : (BitVec.ofInt 64 (b : Int) &&& BitVec.ofInt 64 4503599627370495).toNat = b % 4503599627370496 := by
  rw [BitVec.toNat_and, BitVec.ofInt_natCast, BitVec.toNat_ofNat, Nat.mod_eq_of_lt (show b < 2 ^ 64 by omega)]
  have : (BitVec.ofInt 64 4503599627370495).toNat = 2 ^ 52 - 1 := by decide
  rw [this, Nat.and_two_pow_sub_one_eq_mod]
theorem or_top {m : Nat} (h : m < 4503599627370496) : (BitVec.ofInt 64 (m : Int) ||| BitVec.ofInt 64 4503599627370496).toNat = m + 4503599627370496 := by
  rw [BitVec.toNat_or, BitVec.ofInt_natCast, BitVec.toNat_ofNat, Nat.mod_eq_of_lt (show m < 2 ^ 64 by omega)]
  have : (BitVec.ofInt 64 4503599627370496).toNat = 1 * 2 ^ 52 := by decide
  rw [this, or_add' (by omega)]
theorem p2_num (n : Nat) : (p2 n).num ≠ 0 := num_ne (by have := p2_pos n; grind)

theorem wrap_1074 : IntKind.i64.wrap 1074 = ((1074 : Nat) : Int) := rfl
theorem wrap_1074' : IntKind.i64.wrap (1075 - 1) = ((1074 : Nat) : Int) := rfl
theorem rz_small {m : Nat} (h : m < 9007199254740992) : Rz (rOf ((m : Nat) : Int)) 7 := by
  refine Rz.of (nb_len_le.2 ?_) (by decide)
  rw [Int.natAbs_natCast]
  exact Nat.lt_of_lt_of_le h (by decide)
theorem wrap_small {m : Nat} (h : m < 9007199254740992) : IntKind.i64.wrap ((m : Nat) : Int) = ((m : Nat) : Int) ∧ (-9223372036854775808 : Int) ≤ ((m : Nat) : Int) ∧ ((m : Nat) : Int) ≤ 9223372036854775807 := by
  have h1 : (-9223372036854775808 : Int) ≤ ((m : Nat) : Int) := by omega
  have h2 : ((m : Nat) : Int) ≤ 9223372036854775807 := by omega
  exact ⟨wrapI (by omega), h1, h2⟩
theorem parts_bd {b : Nat} (hb : b ≤ 9218868437227405312) : b / 4503599627370496 ≤ 2047 ∧ b % 4503599627370496 < 4503599627370496 ∧ b < 18446744073709551616 := by omega
theorem mask_fact {b : Nat} (h : b < 18446744073709551616) : (BitVec.ofInt IntKind.u64.bits (b : Int) &&& BitVec.ofInt IntKind.u64.bits 4503599627370495).toNat % 18446744073709551616 = b % 4503599627370496 := by
  rw [bits_u64, and_mask h]; omega
theorem top_fact {m : Nat} (h : m < 4503599627370496) : (BitVec.ofInt IntKind.u64.bits (m : Int) ||| BitVec.ofInt IntKind.u64.bits 4503599627370496).toNat % 18446744073709551616 = m + 4503599627370496 := by
  rw [bits_u64, or_top h]; omega

theorem exp_facts1 {e : Nat} (h0 : ¬ e = 0) (h1 : e < 1075) : 1075 - e ≤ 1075 ∧ 7 + ((1075 - e) / 8 + 1) ≤ 300000 ∧ (((e : Nat) : Int) = 0) = False ∧ ((1075 : Int) ≤ ((e : Nat) : Int)) = False ∧ (1075 : Int) - ((e : Nat) : Int) = ((1075 - e : Nat) : Int) := by
  refine ⟨by omega, by omega, eq_false (by omega), eq_false (by omega), by omega⟩
theorem exp_facts2 {e : Nat} (h : e ≤ 2047) (h1 : ¬ e < 1075) : e - 1075 ≤ 1075 ∧ 7 + ((e - 1075) / 8 + 1) ≤ 300000 ∧ (((e : Nat) : Int) = 0) = False ∧ ((1075 : Int) ≤ ((e : Nat) : Int)) = True ∧ ((e : Nat) : Int) - 1075 = ((e - 1075 : Nat) : Int) ∧ ¬ e = 0 := by
  refine ⟨by omega, by omega, eq_false (by omega), eq_true (by omega), by omega, by omega⟩

section
variable {G : Gl} {fl : Nat} {A : Hp}

set_option maxHeartbeats 2000000 in
theorem exact_0 {b : Nat} (hG : G 2 = some tabV) (hb : b ≤ 9218868437227405312) (h0 : b / 4503599627370496 = 0) : Sound Tryd.prog G 15 [.int .u64 (b : Nat)] fl A (ratV (exq b)) A := by
  refine Sound.of mixed Tryd.func15 Tryd.ntmps15 Tryd.results15 (by kernel_rfl) rfl (by kernel_rfl) (by simp) fun hA => ?_
  have hfl : fl ≤ A.next := by have := hA.floor; omega
  have hfl1 : fl ≤ A.next + 1 := by have := hA.floor; omega
  have hfl2 : fl ≤ A.next + 2 := by have := hA.floor; omega
  have hfl3 : fl ≤ A.next + 3 := by have := hA.floor; omega
  have hfl4 : fl ≤ A.next + 4 := by have := hA.floor; omega
  have hfl5 : fl ≤ A.next + 5 := by have := hA.floor; omega
  have hfl6 : fl ≤ A.next + 6 := by have := hA.floor; omega
  obtain ⟨he, hm, hb64⟩ := parts_bd hb
  have e1 := mask_fact hb64
  have e2 := top_fact hm
  have m52 : min 52 64 = 52 := rfl
  have p52 : 2 ^ 52 = 4503599627370496 := rfl
  have hm1 : b % 4503599627370496 < 9007199254740992 := Nat.lt_trans hm (by decide)
  have hm2 : b % 4503599627370496 + 4503599627370496 < 9007199254740992 := Nat.add_lt_add_right hm 4503599627370496
  have he1 : b / 4503599627370496 < 9007199254740992 := Nat.lt_of_le_of_lt he (by decide)
  obtain ⟨w2, l2, u2⟩ := wrap_small hm1
  obtain ⟨w3, l3, u3⟩ := wrap_small hm2
  obtain ⟨w1, l1, u1⟩ := wrap_small he1
  have zm := rz_small hm1
  have zM := rz_small hm2
  have of1 := fun fl A => rof_ok (G := G) (fl := fl) (A := A) l2 u2
  have pw := fun fl A => power_ok (G := G) (fl := fl) (A := A) (n := 1074) hG (by decide)
  have dv := fun fl A => qdiv (G := G) (fl := fl) (A := A) hG zm (p2_rz (n := 1074)) (by decide) (p2_num 1074)
  have hz : (((0 : Nat) : Int) = 0) = True := eq_true rfl
  have hrb := ratV_rb A.next (exq b)
  have ev : exq b = rOf ((b % 4503599627370496 : Nat) : Int) / p2 1074 := by unfold exq; rw [if_pos h0]
  rw [ev] at hrb ⊢
  generalize p2 1074 = P at *
  simp only [ratV_def] at of1 pw dv hrb ⊢
  rw [h0] at w1
  simp only [↓R1, R2, R3, R4, TY, reduceIte, Nat.reduceEqDiff, Nat.reduceAdd, Nat.reduceMul, Nat.reduceLT, Nat.reduceLeDiff, reduceCtorEq, decide_true, decide_false, Int.reduceLE, Int.reduceLT, Int.reduceToNat, Int.reduceAdd, Int.reduceSub, Int.reduceMul, Int.reduceEq, hfl, hfl1, hfl2, hfl3, hfl4, hfl5, hfl6, NE, UN, e1, e2, m52, p52, w1, w2, w3, NE9, Nat.add_assoc, h0, hz, wrap_1074, wrap_1074']
  refine call_of (of1 _ _) ?_
  simp only [↓R1, R2, R3, R4, TY, reduceIte, Nat.reduceEqDiff, Nat.reduceAdd, Nat.reduceMul, Nat.reduceLT, Nat.reduceLeDiff, reduceCtorEq, decide_true, decide_false, Int.reduceLE, Int.reduceLT, Int.reduceToNat, Int.reduceAdd, Int.reduceSub, Int.reduceMul, Int.reduceEq, hfl, hfl1, hfl2, hfl3, hfl4, hfl5, hfl6, NE, UN, e1, e2, m52, p52, w1, w2, w3, NE9, Nat.add_assoc, h0, hz, wrap_1074, wrap_1074']
  refine call_of (pw _ _) ?_
  simp only [↓R1, R2, R3, R4, TY, reduceIte, Nat.reduceEqDiff, Nat.reduceAdd, Nat.reduceMul, Nat.reduceLT, Nat.reduceLeDiff, reduceCtorEq, decide_true, decide_false, Int.reduceLE, Int.reduceLT, Int.reduceToNat, Int.reduceAdd, Int.reduceSub, Int.reduceMul, Int.reduceEq, hfl, hfl1, hfl2, hfl3, hfl4, hfl5, hfl6, NE, UN, e1, e2, m52, p52, w1, w2, w3, NE9, Nat.add_assoc, h0, hz, wrap_1074, wrap_1074']
  refine call_of (dv _ _) ?_
  simp only [↓R1, R2, R3, R4, TY, reduceIte, Nat.reduceEqDiff, Nat.reduceAdd, Nat.reduceMul, Nat.reduceLT, Nat.reduceLeDiff, reduceCtorEq, decide_true, decide_false, Int.reduceLE, Int.reduceLT, Int.reduceToNat, Int.reduceAdd, Int.reduceSub, Int.reduceMul, Int.reduceEq, hfl, hfl1, hfl2, hfl3, hfl4, hfl5, hfl6, NE, UN, e1, e2, m52, p52, w1, w2, w3, NE9, Nat.add_assoc, h0, hz, wrap_1074, wrap_1074']
  rw [floOf_wr (by kernel_rfl)]
  simp only [↓R1, R2, R3, R4, TY, reduceIte, Nat.reduceEqDiff, Nat.reduceAdd, Nat.reduceMul, Nat.reduceLT, Nat.reduceLeDiff, reduceCtorEq, decide_true, decide_false, Int.reduceLE, Int.reduceLT, Int.reduceToNat, Int.reduceAdd, Int.reduceSub, Int.reduceMul, Int.reduceEq, hfl, hfl1, hfl2, hfl3, hfl4, hfl5, hfl6, NE, UN, e1, e2, m52, p52, w1, w2, w3, NE9, Nat.add_assoc, h0, hz, wrap_1074, wrap_1074']
  refine Ended.back hA ?_ rfl hrb
  simp (maxDischargeDepth := 20) only [xt_push, xt_put, xt_refl, Nat.le_refl, Nat.le_add_right, Nat.add_assoc, Nat.reduceAdd]

set_option maxHeartbeats 2000000 in
theorem exact_1 {b : Nat} (hG : G 2 = some tabV) (hb : b ≤ 9218868437227405312) (h0 : ¬ b / 4503599627370496 = 0) (h1 : b / 4503599627370496 < 1075) : Sound Tryd.prog G 15 [.int .u64 (b : Nat)] fl A (ratV (exq b)) A := by
  refine Sound.of mixed Tryd.func15 Tryd.ntmps15 Tryd.results15 (by kernel_rfl) rfl (by kernel_rfl) (by simp) fun hA => ?_
  have hfl : fl ≤ A.next := by have := hA.floor; omega
  have hfl1 : fl ≤ A.next + 1 := by have := hA.floor; omega
  have hfl2 : fl ≤ A.next + 2 := by have := hA.floor; omega
  have hfl3 : fl ≤ A.next + 3 := by have := hA.floor; omega
  have hfl4 : fl ≤ A.next + 4 := by have := hA.floor; omega
  have hfl5 : fl ≤ A.next + 5 := by have := hA.floor; omega
  have hfl6 : fl ≤ A.next + 6 := by have := hA.floor; omega
  obtain ⟨he, hm, hb64⟩ := parts_bd hb
  have e1 := mask_fact hb64
  have e2 := top_fact hm
  have m52 : min 52 64 = 52 := rfl
  have p52 : 2 ^ 52 = 4503599627370496 := rfl
  have hm1 : b % 4503599627370496 < 9007199254740992 := Nat.lt_trans hm (by decide)
  have hm2 : b % 4503599627370496 + 4503599627370496 < 9007199254740992 := Nat.add_lt_add_right hm 4503599627370496
  have he1 : b / 4503599627370496 < 9007199254740992 := Nat.lt_of_le_of_lt he (by decide)
  obtain ⟨w2, l2, u2⟩ := wrap_small hm1
  obtain ⟨w3, l3, u3⟩ := wrap_small hm2
  obtain ⟨w1, l1, u1⟩ := wrap_small he1
  have zm := rz_small hm1
  have zM := rz_small hm2
  have of1 := fun fl A => rof_ok (G := G) (fl := fl) (A := A) l3 u3
  obtain ⟨f1, f2, hz, hy, f5⟩ := exp_facts1 h0 h1
  have pw := fun fl A => power_ok (G := G) (fl := fl) (A := A) (n := 1075 - b / 4503599627370496) hG (Nat.le_trans f1 (by decide))
  have dv := fun fl A => qdiv (G := G) (fl := fl) (A := A) hG zM (p2_rz (n := 1075 - b / 4503599627370496)) f2 (p2_num _)
  have w4 : IntKind.i64.wrap (1075 - ((b / 4503599627370496 : Nat) : Int)) = ((1075 - b / 4503599627370496 : Nat) : Int) := by rw [f5]; exact (wrap_small (Nat.lt_of_le_of_lt (Nat.sub_le _ _) (by decide))).1
  have hrb := ratV_rb A.next (exq b)
  have ev : exq b = rOf ((b % 4503599627370496 + 4503599627370496 : Nat) : Int) / p2 (1075 - b / 4503599627370496) := by unfold exq; rw [if_neg h0, if_pos h1]
  rw [ev] at hrb ⊢
  generalize p2 (1075 - b / 4503599627370496) = P at *
  simp only [ratV_def] at of1 pw dv hrb ⊢
  simp only [↓R1, R2, R3, R4, TY, reduceIte, Nat.reduceEqDiff, Nat.reduceAdd, Nat.reduceMul, Nat.reduceLT, Nat.reduceLeDiff, reduceCtorEq, decide_true, decide_false, Int.reduceLE, Int.reduceLT, Int.reduceToNat, Int.reduceAdd, Int.reduceSub, Int.reduceMul, Int.reduceEq, hfl, hfl1, hfl2, hfl3, hfl4, hfl5, hfl6, NE, UN, e1, e2, m52, p52, w1, w2, w3, NE9, Nat.add_assoc, hz, hy, w4]
  refine call_of (of1 _ _) ?_
  simp only [↓R1, R2, R3, R4, TY, reduceIte, Nat.reduceEqDiff, Nat.reduceAdd, Nat.reduceMul, Nat.reduceLT, Nat.reduceLeDiff, reduceCtorEq, decide_true, decide_false, Int.reduceLE, Int.reduceLT, Int.reduceToNat, Int.reduceAdd, Int.reduceSub, Int.reduceMul, Int.reduceEq, hfl, hfl1, hfl2, hfl3, hfl4, hfl5, hfl6, NE, UN, e1, e2, m52, p52, w1, w2, w3, NE9, Nat.add_assoc, hz, hy, w4]
  refine call_of (pw _ _) ?_
  simp only [↓R1, R2, R3, R4, TY, reduceIte, Nat.reduceEqDiff, Nat.reduceAdd, Nat.reduceMul, Nat.reduceLT, Nat.reduceLeDiff, reduceCtorEq, decide_true, decide_false, Int.reduceLE, Int.reduceLT, Int.reduceToNat, Int.reduceAdd, Int.reduceSub, Int.reduceMul, Int.reduceEq, hfl, hfl1, hfl2, hfl3, hfl4, hfl5, hfl6, NE, UN, e1, e2, m52, p52, w1, w2, w3, NE9, Nat.add_assoc, hz, hy, w4]
  refine call_of (dv _ _) ?_
  simp only [↓R1, R2, R3, R4, TY, reduceIte, Nat.reduceEqDiff, Nat.reduceAdd, Nat.reduceMul, Nat.reduceLT, Nat.reduceLeDiff, reduceCtorEq, decide_true, decide_false, Int.reduceLE, Int.reduceLT, Int.reduceToNat, Int.reduceAdd, Int.reduceSub, Int.reduceMul, Int.reduceEq, hfl, hfl1, hfl2, hfl3, hfl4, hfl5, hfl6, NE, UN, e1, e2, m52, p52, w1, w2, w3, NE9, Nat.add_assoc, hz, hy, w4]
  rw [floOf_wr (by kernel_rfl)]
  simp only [↓R1, R2, R3, R4, TY, reduceIte, Nat.reduceEqDiff, Nat.reduceAdd, Nat.reduceMul, Nat.reduceLT, Nat.reduceLeDiff, reduceCtorEq, decide_true, decide_false, Int.reduceLE, Int.reduceLT, Int.reduceToNat, Int.reduceAdd, Int.reduceSub, Int.reduceMul, Int.reduceEq, hfl, hfl1, hfl2, hfl3, hfl4, hfl5, hfl6, NE, UN, e1, e2, m52, p52, w1, w2, w3, NE9, Nat.add_assoc, hz, hy, w4]
  refine Ended.back hA ?_ rfl hrb
  simp (maxDischargeDepth := 20) only [xt_push, xt_put, xt_refl, Nat.le_refl, Nat.le_add_right, Nat.add_assoc, Nat.reduceAdd]

set_option maxHeartbeats 2000000 in
theorem exact_2 {b : Nat} (hG : G 2 = some tabV) (hb : b ≤ 9218868437227405312) (h1 : ¬ b / 4503599627370496 < 1075) : Sound Tryd.prog G 15 [.int .u64 (b : Nat)] fl A (ratV (exq b)) A := by
  refine Sound.of mixed Tryd.func15 Tryd.ntmps15 Tryd.results15 (by kernel_rfl) rfl (by kernel_rfl) (by simp) fun hA => ?_
  have hfl : fl ≤ A.next := by have := hA.floor; omega
  have hfl1 : fl ≤ A.next + 1 := by have := hA.floor; omega
  have hfl2 : fl ≤ A.next + 2 := by have := hA.floor; omega
  have hfl3 : fl ≤ A.next + 3 := by have := hA.floor; omega
  have hfl4 : fl ≤ A.next + 4 := by have := hA.floor; omega
  have hfl5 : fl ≤ A.next + 5 := by have := hA.floor; omega
  have hfl6 : fl ≤ A.next + 6 := by have := hA.floor; omega
  obtain ⟨he, hm, hb64⟩ := parts_bd hb
  have e1 := mask_fact hb64
  have e2 := top_fact hm
  have m52 : min 52 64 = 52 := rfl
  have p52 : 2 ^ 52 = 4503599627370496 := rfl
  have hm1 : b % 4503599627370496 < 9007199254740992 := Nat.lt_trans hm (by decide)
  have hm2 : b % 4503599627370496 + 4503599627370496 < 9007199254740992 := Nat.add_lt_add_right hm 4503599627370496
  have he1 : b / 4503599627370496 < 9007199254740992 := Nat.lt_of_le_of_lt he (by decide)
  obtain ⟨w2, l2, u2⟩ := wrap_small hm1
  obtain ⟨w3, l3, u3⟩ := wrap_small hm2
  obtain ⟨w1, l1, u1⟩ := wrap_small he1
  have zm := rz_small hm1
  have zM := rz_small hm2
  have of1 := fun fl A => rof_ok (G := G) (fl := fl) (A := A) l3 u3
  obtain ⟨f1, f2, hz, hy, f5, f6⟩ := exp_facts2 he h1
  have pw := fun fl A => power_ok (G := G) (fl := fl) (A := A) (n := b / 4503599627370496 - 1075) hG (Nat.le_trans f1 (by decide))
  have dv := fun fl A => qmul (G := G) (fl := fl) (A := A) hG zM (p2_rz (n := b / 4503599627370496 - 1075)) f2
  have w4 : IntKind.i64.wrap (((b / 4503599627370496 : Nat) : Int) - 1075) = ((b / 4503599627370496 - 1075 : Nat) : Int) := by rw [f5]; exact (wrap_small (Nat.lt_of_le_of_lt (Nat.sub_le _ _) he1)).1
  have hrb := ratV_rb A.next (exq b)
  have ev : exq b = rOf ((b % 4503599627370496 + 4503599627370496 : Nat) : Int) * p2 (b / 4503599627370496 - 1075) := by unfold exq; rw [if_neg f6, if_neg h1]
  rw [ev] at hrb ⊢
  generalize p2 (b / 4503599627370496 - 1075) = P at *
  simp only [ratV_def] at of1 pw dv hrb ⊢
  simp only [↓R1, R2, R3, R4, TY, reduceIte, Nat.reduceEqDiff, Nat.reduceAdd, Nat.reduceMul, Nat.reduceLT, Nat.reduceLeDiff, reduceCtorEq, decide_true, decide_false, Int.reduceLE, Int.reduceLT, Int.reduceToNat, Int.reduceAdd, Int.reduceSub, Int.reduceMul, Int.reduceEq, hfl, hfl1, hfl2, hfl3, hfl4, hfl5, hfl6, NE, UN, e1, e2, m52, p52, w1, w2, w3, NE9, Nat.add_assoc, hz, hy, w4]
  refine call_of (of1 _ _) ?_
  simp only [↓R1, R2, R3, R4, TY, reduceIte, Nat.reduceEqDiff, Nat.reduceAdd, Nat.reduceMul, Nat.reduceLT, Nat.reduceLeDiff, reduceCtorEq, decide_true, decide_false, Int.reduceLE, Int.reduceLT, Int.reduceToNat, Int.reduceAdd, Int.reduceSub, Int.reduceMul, Int.reduceEq, hfl, hfl1, hfl2, hfl3, hfl4, hfl5, hfl6, NE, UN, e1, e2, m52, p52, w1, w2, w3, NE9, Nat.add_assoc, hz, hy, w4]
  refine call_of (pw _ _) ?_
  simp only [↓R1, R2, R3, R4, TY, reduceIte, Nat.reduceEqDiff, Nat.reduceAdd, Nat.reduceMul, Nat.reduceLT, Nat.reduceLeDiff, reduceCtorEq, decide_true, decide_false, Int.reduceLE, Int.reduceLT, Int.reduceToNat, Int.reduceAdd, Int.reduceSub, Int.reduceMul, Int.reduceEq, hfl, hfl1, hfl2, hfl3, hfl4, hfl5, hfl6, NE, UN, e1, e2, m52, p52, w1, w2, w3, NE9, Nat.add_assoc, hz, hy, w4]
  refine call_of (dv _ _) ?_
  simp only [↓R1, R2, R3, R4, TY, reduceIte, Nat.reduceEqDiff, Nat.reduceAdd, Nat.reduceMul, Nat.reduceLT, Nat.reduceLeDiff, reduceCtorEq, decide_true, decide_false, Int.reduceLE, Int.reduceLT, Int.reduceToNat, Int.reduceAdd, Int.reduceSub, Int.reduceMul, Int.reduceEq, hfl, hfl1, hfl2, hfl3, hfl4, hfl5, hfl6, NE, UN, e1, e2, m52, p52, w1, w2, w3, NE9, Nat.add_assoc, hz, hy, w4]
  rw [floOf_wr (by kernel_rfl)]
  simp only [↓R1, R2, R3, R4, TY, reduceIte, Nat.reduceEqDiff, Nat.reduceAdd, Nat.reduceMul, Nat.reduceLT, Nat.reduceLeDiff, reduceCtorEq, decide_true, decide_false, Int.reduceLE, Int.reduceLT, Int.reduceToNat, Int.reduceAdd, Int.reduceSub, Int.reduceMul, Int.reduceEq, hfl, hfl1, hfl2, hfl3, hfl4, hfl5, hfl6, NE, UN, e1, e2, m52, p52, w1, w2, w3, NE9, Nat.add_assoc, hz, hy, w4]
  refine Ended.back hA ?_ rfl hrb
  simp (maxDischargeDepth := 20) only [xt_push, xt_put, xt_refl, Nat.le_refl, Nat.le_add_right, Nat.add_assoc, Nat.reduceAdd]

theorem exact_ok {b : Nat} (hG : G 2 = some tabV) (hb : b ≤ 9218868437227405312) : Sound Tryd.prog G 15 [.int .u64 (b : Nat)] fl A (ratV (exq b)) A := by
  by_cases h0 : b / 4503599627370496 = 0
  · exact exact_0 hG hb h0
  · by_cases h1 : b / 4503599627370496 < 1075
    · exact exact_1 hG hb h0 h1
    · exact exact_2 hG hb h1
end
end Go.Proofs.YtipcpehbgomdeaaDoor.Ab
