/- Rational numbers: negatives, signs, differences, order. -/
import Derived.Test.YtpaffoiiipgkeaaDoorRd
namespace Go.Proofs.YtpaffoiiipgkeaaDoor.Ab
open Go.RowKit
set_option linter.unusedVariables false
set_option linter.unusedSimpArgs false
set_option maxRecDepth 100000

theorem tf_ne : (true == false) = false := rfl
theorem ft_ne : (false == true) = false := rfl
theorem ratV_neg (q : Rat) : ratV (-q) = .agg #[.bool (decide (-q.num < 0)), .string (S (nb q.num.natAbs)), .string (S (nb q.den))] := by simp [ratV]
def rabs (q : Rat) : Rat := if q.num < 0 then -q else q
theorem ratV_abs (q : Rat) : ratV (rabs q) = .agg #[.bool false, .string (S (nb q.num.natAbs)), .string (S (nb q.den))] := by
  unfold rabs
  split
  · rw [ratV_neg, decide_eq_false (by omega)]
  · rw [ratV, decide_eq_false (by omega)]
def rsign (q : Rat) : Int := if q.num = 0 then 0 else if q.num < 0 then -1 else 1
theorem rcmp_neg {p q : Rat} (h : p.num < 0) (h2 : ¬ q.num < 0) : rcmp p q = -1 := by
  rw [rcmp_cross, if_pos]
  have a := Int.mul_neg_of_neg_of_pos h (Int.natCast_pos.2 (Nat.pos_of_ne_zero (rat_den_pos q)))
  have b := Int.mul_nonneg (show 0 ≤ q.num by omega) (Int.natCast_nonneg p.den)
  omega
theorem rcmp_pos {p q : Rat} (h : ¬ p.num < 0) (h2 : q.num < 0) : rcmp p q = 1 := by
  have a := Int.mul_neg_of_neg_of_pos h2 (Int.natCast_pos.2 (Nat.pos_of_ne_zero (rat_den_pos p)))
  have b := Int.mul_nonneg (show 0 ≤ p.num by omega) (Int.natCast_nonneg q.den)
  rw [rcmp_cross, if_neg (by omega), if_pos (by omega)]
theorem cmpN_int (m n : Nat) : cmpN m n = if (m : Int) < n then -1 else if (n : Int) < m then 1 else 0 := by
  unfold cmpN
  congr 1
  · exact propext (by omega)
  · congr 1; exact propext (by omega)
theorem rcmp_same {p q : Rat} (h : ¬ p.num < 0) (h2 : ¬ q.num < 0) : rcmp p q = cmpN (p.num.natAbs * q.den) (q.num.natAbs * p.den) := by
  rw [rcmp_cross, cmpN_int, Int.natCast_mul, Int.natCast_mul, Int.natAbs_of_nonneg (by omega), Int.natAbs_of_nonneg (by omega)]
theorem rcmp_same' {p q : Rat} (h : p.num < 0) (h2 : q.num < 0) : rcmp p q = -cmpN (p.num.natAbs * q.den) (q.num.natAbs * p.den) := by
  rw [rcmp_cross, cmpN_int, Int.natCast_mul, Int.natCast_mul, Int.ofNat_natAbs_of_nonpos (by omega), Int.ofNat_natAbs_of_nonpos (by omega), Int.neg_mul, Int.neg_mul]
  split <;> rename_i a
  · rw [if_neg (by omega), if_pos (by omega)]
  · split <;> rename_i b
    · rw [if_pos (by omega)]; rfl
    · rw [if_neg (by omega), if_neg (by omega)]; rfl
theorem cmpN_bound (m n : Nat) : -1 ≤ cmpN m n ∧ cmpN m n ≤ 1 := by
  unfold cmpN
  split
  · omega
  · split <;> omega

section
variable {G : Gl} {fl : Nat} {A : Hp}

theorem rneg_ok {q : Rat} {k : Nat} (hq : Sz q k) (hb : k < 18446744073709551616) : Sound Tryd.prog G 27 [ratV q] fl A (ratV (-q)) A := by
  refine Sound.of mixed Tryd.func27 Tryd.ntmps27 Tryd.results27 (by kernel_rfl) rfl (by kernel_rfl) (by simp) fun hA => ?_
  obtain ⟨q1, q2⟩ := id hq
  have fq := fun fl A => fit_ok (G := G) (fl := fl) (A := A) (q := q) (by omega) (by omega)
  have hfl : fl ≤ A.next := hA.floor
  have hfl1 : fl ≤ A.next + 1 := by omega
  have hfl2 : fl ≤ A.next + 2 := by omega
  have hqd := rat_den_pos q
  rw [ratV_neg]
  rw [ratV] at *
  simp only [↓R1, R2, R3, R4, TY, reduceIte, Nat.reduceEqDiff, Nat.reduceAdd, Nat.reduceMul, Nat.reduceLT, Nat.reduceLeDiff, reduceCtorEq, decide_true, decide_false, Int.reduceLE, Int.reduceLT, Int.reduceToNat, Int.reduceAdd, Int.reduceSub, Int.reduceMul, Int.reduceEq, hfl, hfl1]
  refine call_of (fq _ _) ?_
  by_cases hn : q.num < 0
  · have hn' : (q.num < 0) = True := eq_true hn
    have e : decide (-q.num < 0) = false := decide_eq_false (by omega)
    rw [e]
    simp only [↓R1, R2, R3, R4, TY, reduceIte, Nat.reduceEqDiff, Nat.reduceAdd, Nat.reduceMul, Nat.reduceLT, Nat.reduceLeDiff, reduceCtorEq, decide_true, decide_false, Int.reduceLE, Int.reduceLT, Int.reduceToNat, Int.reduceAdd, Int.reduceSub, Int.reduceMul, Int.reduceEq, hfl, hfl1, NE, S_inj, nb_nil_eq, hn']
    exact Ended.back hA (by simp (maxDischargeDepth := 20) only [xt_push, xt_put, xt_refl, Nat.le_refl, Nat.le_add_right]) rfl (by rw [← ratV_abs]; exact ratV_rb _ _)
  · have hn' : (q.num < 0) = False := eq_false hn
    have e : decide (-q.num < 0) = !decide (q.num.natAbs = 0) := by
      by_cases h : q.num.natAbs = 0
      · rw [decide_eq_true h, decide_eq_false (by omega)]; rfl
      · rw [decide_eq_false h, decide_eq_true (by omega)]; rfl
    have hrb := ratV_rb A.next (-q)
    rw [ratV_neg] at hrb
    rw [e] at hrb ⊢
    simp only [↓R1, R2, R3, R4, TY, reduceIte, Nat.reduceEqDiff, Nat.reduceAdd, Nat.reduceMul, Nat.reduceLT, Nat.reduceLeDiff, reduceCtorEq, decide_true, decide_false, Int.reduceLE, Int.reduceLT, Int.reduceToNat, Int.reduceAdd, Int.reduceSub, Int.reduceMul, Int.reduceEq, hfl, hfl1, NE, S_inj, nb_nil_eq, hn']
    exact Ended.back hA (by simp (maxDischargeDepth := 20) only [xt_push, xt_put, xt_refl, Nat.le_refl, Nat.le_add_right]) rfl hrb

theorem rabs_ok {q : Rat} {k : Nat} (hq : Sz q k) (hb : k < 18446744073709551616) : Sound Tryd.prog G 28 [ratV q] fl A (ratV (rabs q)) A := by
  refine Sound.of mixed Tryd.func28 Tryd.ntmps28 Tryd.results28 (by kernel_rfl) rfl (by kernel_rfl) (by simp) fun hA => ?_
  obtain ⟨q1, q2⟩ := id hq
  have fq := fun fl A => fit_ok (G := G) (fl := fl) (A := A) (q := q) (by omega) (by omega)
  have hfl : fl ≤ A.next := hA.floor
  have hfl1 : fl ≤ A.next + 1 := by omega
  have hfl2 : fl ≤ A.next + 2 := by omega
  have hqd := rat_den_pos q
  rw [ratV_abs]
  rw [ratV] at *
  simp only [↓R1, R2, R3, R4, TY, reduceIte, Nat.reduceEqDiff, Nat.reduceAdd, Nat.reduceMul, Nat.reduceLT, Nat.reduceLeDiff, reduceCtorEq, decide_true, decide_false, Int.reduceLE, Int.reduceLT, Int.reduceToNat, Int.reduceAdd, Int.reduceSub, Int.reduceMul, Int.reduceEq, hfl, hfl1]
  refine call_of (fq _ _) ?_
  simp only [↓R1, R2, R3, R4, TY, reduceIte, Nat.reduceEqDiff, Nat.reduceAdd, Nat.reduceMul, Nat.reduceLT, Nat.reduceLeDiff, reduceCtorEq, decide_true, decide_false, Int.reduceLE, Int.reduceLT, Int.reduceToNat, Int.reduceAdd, Int.reduceSub, Int.reduceMul, Int.reduceEq, hfl, hfl1, NE, S_inj, nb_nil_eq]
  exact Ended.back hA (by simp (maxDischargeDepth := 20) only [xt_push, xt_put, xt_refl, Nat.le_refl, Nat.le_add_right]) rfl (by rw [← ratV_abs]; exact ratV_rb _ _)

theorem rsign_ok {q : Rat} {k : Nat} (hq : Sz q k) (hb : k < 18446744073709551616) : Sound Tryd.prog G 31 [ratV q] fl A (.int .i64 (rsign q)) A := by
  refine Sound.of mixed Tryd.func31 Tryd.ntmps31 Tryd.results31 (by kernel_rfl) rfl (by kernel_rfl) (by simp) fun hA => ?_
  obtain ⟨q1, q2⟩ := id hq
  have fq := fun fl A => fit_ok (G := G) (fl := fl) (A := A) (q := q) (by omega) (by omega)
  have hfl : fl ≤ A.next := hA.floor
  have hfl1 : fl ≤ A.next + 1 := by omega
  have hfl2 : fl ≤ A.next + 2 := by omega
  have hqd := rat_den_pos q
  rw [ratV] at *
  simp only [↓R1, R2, R3, R4, TY, reduceIte, Nat.reduceEqDiff, Nat.reduceAdd, Nat.reduceMul, Nat.reduceLT, Nat.reduceLeDiff, reduceCtorEq, decide_true, decide_false, Int.reduceLE, Int.reduceLT, Int.reduceToNat, Int.reduceAdd, Int.reduceSub, Int.reduceMul, Int.reduceEq, hfl, hfl1]
  refine call_of (fq _ _) ?_
  simp only [↓R1, R2, R3, R4, TY, reduceIte, Nat.reduceEqDiff, Nat.reduceAdd, Nat.reduceMul, Nat.reduceLT, Nat.reduceLeDiff, reduceCtorEq, decide_true, decide_false, Int.reduceLE, Int.reduceLT, Int.reduceToNat, Int.reduceAdd, Int.reduceSub, Int.reduceMul, Int.reduceEq, hfl, hfl1, NE, S_inj, nb_nil_eq]
  refine ⟨fun h => ?_, fun h => ⟨fun h2 => ?_, fun h2 => ?_⟩⟩
  · exact Ended.back hA (by simp (maxDischargeDepth := 20) only [xt_push, xt_put, xt_refl, Nat.le_refl, Nat.le_add_right]) (by rw [rsign, if_pos (by omega)]) (RB.int _ _)
  · exact Ended.back hA (by simp (maxDischargeDepth := 20) only [xt_push, xt_put, xt_refl, Nat.le_refl, Nat.le_add_right]) (by rw [rsign, if_neg (by omega), if_pos h2]) (RB.int _ _)
  · exact Ended.back hA (by simp (maxDischargeDepth := 20) only [xt_push, xt_put, xt_refl, Nat.le_refl, Nat.le_add_right]) (by rw [rsign, if_neg (by omega), if_neg h2]) (RB.int _ _)

theorem rsub_ok {p q : Rat} {j k : Nat} (hp : Sz p j) (hq : Sz q k) (hb : 2 * (j * k) < 18446744073709551616) : Sound Tryd.prog G 25 [ratV p, ratV q] fl A (ratV (p - q)) A := by
  refine Sound.of mixed Tryd.func25 Tryd.ntmps25 Tryd.results25 (by kernel_rfl) rfl (by kernel_rfl) (by simp) fun hA => ?_
  have hjk2 : k ≤ j * k := Nat.le_mul_of_pos_left _ hp.pos
  have hng := fun fl A => rneg_ok (G := G) (fl := fl) (A := A) hq (by omega)
  have had := fun fl A => radd_ok (G := G) (fl := fl) (A := A) hp hq.neg hb
  have hfl2 : fl ≤ A.next + 2 := by have := hA.floor; omega
  rw [← Rat.sub_eq_add_neg] at had
  have hrb := ratV_rb A.next (p - q)
  rw [ratV, ratV] at hng
  rw [ratV, ratV, ratV] at had
  rw [ratV, ratV, ratV]
  rw [ratV] at hrb
  simp only [↓R1, R2, R3, R4, TY, reduceIte, Nat.reduceEqDiff, Nat.reduceAdd, Nat.reduceMul, Nat.reduceLT, Nat.reduceLeDiff, reduceCtorEq, decide_true, decide_false, Int.reduceLE, Int.reduceLT, Int.reduceToNat, Int.reduceAdd, Int.reduceSub, Int.reduceMul, Int.reduceEq]
  refine call_of (hng _ _) ?_
  simp only [↓R1, R2, R3, R4, TY, reduceIte, Nat.reduceEqDiff, Nat.reduceAdd, Nat.reduceMul, Nat.reduceLT, Nat.reduceLeDiff, reduceCtorEq, decide_true, decide_false, Int.reduceLE, Int.reduceLT, Int.reduceToNat, Int.reduceAdd, Int.reduceSub, Int.reduceMul, Int.reduceEq]
  refine call_of (had _ _) ?_
  simp only [↓R1, R2, R3, R4, TY, reduceIte, Nat.reduceEqDiff, Nat.reduceAdd, Nat.reduceMul, Nat.reduceLT, Nat.reduceLeDiff, reduceCtorEq, decide_true, decide_false, Int.reduceLE, Int.reduceLT, Int.reduceToNat, Int.reduceAdd, Int.reduceSub, Int.reduceMul, Int.reduceEq, hfl2, NE]
  rw [floOf_wr (by kernel_rfl)]
  simp only [↓R1, R2, R3, R4, TY, reduceIte, Nat.reduceEqDiff, Nat.reduceAdd, Nat.reduceMul, Nat.reduceLT, Nat.reduceLeDiff, reduceCtorEq, decide_true, decide_false, Int.reduceLE, Int.reduceLT, Int.reduceToNat, Int.reduceAdd, Int.reduceSub, Int.reduceMul, Int.reduceEq, hfl2, NE]
  exact Ended.back hA ((((((Xt.refl A).push _).push _).push _).put (by omega) _)) rfl hrb

theorem rcmp_ok {p q : Rat} {j k : Nat} (hp : Sz p j) (hq : Sz q k) (hb : j * k < 18446744073709551616) : Sound Tryd.prog G 33 [ratV p, ratV q] fl A (.int .i64 (rcmp p q)) A := by
  refine Sound.of mixed Tryd.func33 Tryd.ntmps33 Tryd.results33 (by kernel_rfl) rfl (by kernel_rfl) (by simp) fun hA => ?_
  obtain ⟨p1, p2⟩ := id hp
  obtain ⟨q1, q2⟩ := id hq
  have hj := hp.pos
  have hk := hq.pos
  have hjk1 : j ≤ j * k := Nat.le_mul_of_pos_right _ hk
  have hjk2 : k ≤ j * k := Nat.le_mul_of_pos_left _ hj
  have n1 : p.num.natAbs * q.den ≤ j * k := Nat.mul_le_mul p1 q2
  have n2 : q.num.natAbs * p.den ≤ j * k := by rw [Nat.mul_comm j k]; exact Nat.mul_le_mul q1 p2
  have n3 : p.den * q.den ≤ j * k := Nat.mul_le_mul p2 q2
  have n4 : p.num.natAbs * q.num.natAbs ≤ j * k := Nat.mul_le_mul p1 q1
  have n5 : p.den * q.num.natAbs ≤ j * k := Nat.mul_le_mul p2 q1
  have fp := fun fl A => fit_ok (G := G) (fl := fl) (A := A) (q := p) (by omega) (by omega)
  have fq := fun fl A => fit_ok (G := G) (fl := fl) (A := A) (q := q) (by omega) (by omega)
  have hfl : fl ≤ A.next := hA.floor
  have hfl1 : fl ≤ A.next + 1 := by omega
  have hfl2 : fl ≤ A.next + 2 := by omega
  have hpd := rat_den_pos p
  have hqd := rat_den_pos q
  have l1 : (nb p.num.natAbs).length ≤ 8 := nb8.2 (by omega)
  have l2 : (nb q.num.natAbs).length ≤ 8 := nb8.2 (by omega)
  have l3 : (nb p.den).length ≤ 8 := nb8.2 (by omega)
  have l4 : (nb q.den).length ≤ 8 := nb8.2 (by omega)
  have hneg : ∀ (x : Int) (B : Hp), Xt A.next A B → x = rcmp p q → Ended A (.int .i64 x) B (.int .i64 (rcmp p q)) A := by
    rintro x B hx rfl
    exact Ended.back hA hx rfl (RB.int _ _)
  have fin : ∀ b1 b2 b3 b4, Xt A.next A ((((A.push b1).push b2).put A.next b3).put (A.next + 1) b4) := fun b1 b2 b3 b4 => ((((Xt.refl A).push _).push _).put (Nat.le_refl _) _).put (by omega) _
  by_cases hpn : p.num < 0 <;> by_cases hqn : q.num < 0
  · have hp' : (p.num < 0) = True := eq_true hpn
    have hq' : (q.num < 0) = True := eq_true hqn
    rw [ratV, ratV] at *
    simp only [↓R1, R2, R3, R4, TY, reduceIte, Nat.reduceEqDiff, Nat.reduceAdd, Nat.reduceMul, Nat.reduceLT, Nat.reduceLeDiff, reduceCtorEq, decide_true, decide_false, Int.reduceLE, Int.reduceLT, Int.reduceToNat, Int.reduceAdd, Int.reduceSub, Int.reduceMul, Int.reduceEq, hfl, hfl1, hfl2]
    refine call_of (fp _ _) ?_
    simp only [↓R1, R2, R3, R4, TY, reduceIte, Nat.reduceEqDiff, Nat.reduceAdd, Nat.reduceMul, Nat.reduceLT, Nat.reduceLeDiff, reduceCtorEq, decide_true, decide_false, Int.reduceLE, Int.reduceLT, Int.reduceToNat, Int.reduceAdd, Int.reduceSub, Int.reduceMul, Int.reduceEq, hfl, hfl1, hfl2]
    refine call_of (fq _ _) ?_
    simp only [↓R1, R2, R3, R4, TY, reduceIte, Nat.reduceEqDiff, Nat.reduceAdd, Nat.reduceMul, Nat.reduceLT, Nat.reduceLeDiff, reduceCtorEq, decide_true, decide_false, Int.reduceLE, Int.reduceLT, Int.reduceToNat, Int.reduceAdd, Int.reduceSub, Int.reduceMul, Int.reduceEq, hfl, hfl1, hfl2]
    rw [floOf_wr (by kernel_rfl)]
    simp only [↓R1, R2, R3, R4, TY, reduceIte, Nat.reduceEqDiff, Nat.reduceAdd, Nat.reduceMul, Nat.reduceLT, Nat.reduceLeDiff, reduceCtorEq, decide_true, decide_false, Int.reduceLE, Int.reduceLT, Int.reduceToNat, Int.reduceAdd, Int.reduceSub, Int.reduceMul, Int.reduceEq, hfl, hfl1, hfl2, NE]
    rw [floOf_wr (by kernel_rfl)]
    simp only [↓R1, R2, R3, R4, TY, reduceIte, Nat.reduceEqDiff, Nat.reduceAdd, Nat.reduceMul, Nat.reduceLT, Nat.reduceLeDiff, reduceCtorEq, decide_true, decide_false, Int.reduceLE, Int.reduceLT, Int.reduceToNat, Int.reduceAdd, Int.reduceSub, Int.reduceMul, Int.reduceEq, hfl, hfl1, hfl2, NE, S_nb, hp', hq', beq_self_eq_true, tf_ne, ft_ne]
    refine call_of (mulN (by omega) (by omega)) ?_
    simp only [↓R1, R2, R3, R4, TY, reduceIte, Nat.reduceEqDiff, Nat.reduceAdd, Nat.reduceMul, Nat.reduceLT, Nat.reduceLeDiff, reduceCtorEq, decide_true, decide_false, Int.reduceLE, Int.reduceLT, Int.reduceToNat, Int.reduceAdd, Int.reduceSub, Int.reduceMul, Int.reduceEq, hp', hq']
    refine call_of (mulN (by omega) (by omega)) ?_
    simp only [↓R1, R2, R3, R4, TY, reduceIte, Nat.reduceEqDiff, Nat.reduceAdd, Nat.reduceMul, Nat.reduceLT, Nat.reduceLeDiff, reduceCtorEq, decide_true, decide_false, Int.reduceLE, Int.reduceLT, Int.reduceToNat, Int.reduceAdd, Int.reduceSub, Int.reduceMul, Int.reduceEq, hp', hq']
    refine call_of (cmpN_ok _ _) ?_
    have hcb := cmpN_bound (p.num.natAbs * q.den) (q.num.natAbs * p.den)
    have hw : IntKind.i64.wrap (0 - cmpN (p.num.natAbs * q.den) (q.num.natAbs * p.den)) = -cmpN (p.num.natAbs * q.den) (q.num.natAbs * p.den) := by rw [wrapI (by omega)]; omega
    simp only [↓R1, R2, R3, R4, TY, reduceIte, Nat.reduceEqDiff, Nat.reduceAdd, Nat.reduceMul, Nat.reduceLT, Nat.reduceLeDiff, reduceCtorEq, decide_true, decide_false, Int.reduceLE, Int.reduceLT, Int.reduceToNat, Int.reduceAdd, Int.reduceSub, Int.reduceMul, Int.reduceEq, hp', hq', hw]
    exact hneg _ _ (fin _ _ _ _) (rcmp_same' hpn hqn).symm
  · have hp' : (p.num < 0) = True := eq_true hpn
    have hq' : (q.num < 0) = False := eq_false hqn
    rw [ratV, ratV] at *
    simp only [↓R1, R2, R3, R4, TY, reduceIte, Nat.reduceEqDiff, Nat.reduceAdd, Nat.reduceMul, Nat.reduceLT, Nat.reduceLeDiff, reduceCtorEq, decide_true, decide_false, Int.reduceLE, Int.reduceLT, Int.reduceToNat, Int.reduceAdd, Int.reduceSub, Int.reduceMul, Int.reduceEq, hfl, hfl1, hfl2]
    refine call_of (fp _ _) ?_
    simp only [↓R1, R2, R3, R4, TY, reduceIte, Nat.reduceEqDiff, Nat.reduceAdd, Nat.reduceMul, Nat.reduceLT, Nat.reduceLeDiff, reduceCtorEq, decide_true, decide_false, Int.reduceLE, Int.reduceLT, Int.reduceToNat, Int.reduceAdd, Int.reduceSub, Int.reduceMul, Int.reduceEq, hfl, hfl1, hfl2]
    refine call_of (fq _ _) ?_
    simp only [↓R1, R2, R3, R4, TY, reduceIte, Nat.reduceEqDiff, Nat.reduceAdd, Nat.reduceMul, Nat.reduceLT, Nat.reduceLeDiff, reduceCtorEq, decide_true, decide_false, Int.reduceLE, Int.reduceLT, Int.reduceToNat, Int.reduceAdd, Int.reduceSub, Int.reduceMul, Int.reduceEq, hfl, hfl1, hfl2]
    rw [floOf_wr (by kernel_rfl)]
    simp only [↓R1, R2, R3, R4, TY, reduceIte, Nat.reduceEqDiff, Nat.reduceAdd, Nat.reduceMul, Nat.reduceLT, Nat.reduceLeDiff, reduceCtorEq, decide_true, decide_false, Int.reduceLE, Int.reduceLT, Int.reduceToNat, Int.reduceAdd, Int.reduceSub, Int.reduceMul, Int.reduceEq, hfl, hfl1, hfl2, NE]
    rw [floOf_wr (by kernel_rfl)]
    simp only [↓R1, R2, R3, R4, TY, reduceIte, Nat.reduceEqDiff, Nat.reduceAdd, Nat.reduceMul, Nat.reduceLT, Nat.reduceLeDiff, reduceCtorEq, decide_true, decide_false, Int.reduceLE, Int.reduceLT, Int.reduceToNat, Int.reduceAdd, Int.reduceSub, Int.reduceMul, Int.reduceEq, hfl, hfl1, hfl2, NE, S_nb, hp', hq', beq_self_eq_true, tf_ne, ft_ne]
    exact hneg _ _ (fin _ _ _ _) (rcmp_neg hpn hqn).symm
  · have hp' : (p.num < 0) = False := eq_false hpn
    have hq' : (q.num < 0) = True := eq_true hqn
    rw [ratV, ratV] at *
    simp only [↓R1, R2, R3, R4, TY, reduceIte, Nat.reduceEqDiff, Nat.reduceAdd, Nat.reduceMul, Nat.reduceLT, Nat.reduceLeDiff, reduceCtorEq, decide_true, decide_false, Int.reduceLE, Int.reduceLT, Int.reduceToNat, Int.reduceAdd, Int.reduceSub, Int.reduceMul, Int.reduceEq, hfl, hfl1, hfl2]
    refine call_of (fp _ _) ?_
    simp only [↓R1, R2, R3, R4, TY, reduceIte, Nat.reduceEqDiff, Nat.reduceAdd, Nat.reduceMul, Nat.reduceLT, Nat.reduceLeDiff, reduceCtorEq, decide_true, decide_false, Int.reduceLE, Int.reduceLT, Int.reduceToNat, Int.reduceAdd, Int.reduceSub, Int.reduceMul, Int.reduceEq, hfl, hfl1, hfl2]
    refine call_of (fq _ _) ?_
    simp only [↓R1, R2, R3, R4, TY, reduceIte, Nat.reduceEqDiff, Nat.reduceAdd, Nat.reduceMul, Nat.reduceLT, Nat.reduceLeDiff, reduceCtorEq, decide_true, decide_false, Int.reduceLE, Int.reduceLT, Int.reduceToNat, Int.reduceAdd, Int.reduceSub, Int.reduceMul, Int.reduceEq, hfl, hfl1, hfl2]
    rw [floOf_wr (by kernel_rfl)]
    simp only [↓R1, R2, R3, R4, TY, reduceIte, Nat.reduceEqDiff, Nat.reduceAdd, Nat.reduceMul, Nat.reduceLT, Nat.reduceLeDiff, reduceCtorEq, decide_true, decide_false, Int.reduceLE, Int.reduceLT, Int.reduceToNat, Int.reduceAdd, Int.reduceSub, Int.reduceMul, Int.reduceEq, hfl, hfl1, hfl2, NE]
    rw [floOf_wr (by kernel_rfl)]
    simp only [↓R1, R2, R3, R4, TY, reduceIte, Nat.reduceEqDiff, Nat.reduceAdd, Nat.reduceMul, Nat.reduceLT, Nat.reduceLeDiff, reduceCtorEq, decide_true, decide_false, Int.reduceLE, Int.reduceLT, Int.reduceToNat, Int.reduceAdd, Int.reduceSub, Int.reduceMul, Int.reduceEq, hfl, hfl1, hfl2, NE, S_nb, hp', hq', beq_self_eq_true, tf_ne, ft_ne]
    exact hneg _ _ (fin _ _ _ _) (rcmp_pos hpn hqn).symm
  · have hp' : (p.num < 0) = False := eq_false hpn
    have hq' : (q.num < 0) = False := eq_false hqn
    rw [ratV, ratV] at *
    simp only [↓R1, R2, R3, R4, TY, reduceIte, Nat.reduceEqDiff, Nat.reduceAdd, Nat.reduceMul, Nat.reduceLT, Nat.reduceLeDiff, reduceCtorEq, decide_true, decide_false, Int.reduceLE, Int.reduceLT, Int.reduceToNat, Int.reduceAdd, Int.reduceSub, Int.reduceMul, Int.reduceEq, hfl, hfl1, hfl2]
    refine call_of (fp _ _) ?_
    simp only [↓R1, R2, R3, R4, TY, reduceIte, Nat.reduceEqDiff, Nat.reduceAdd, Nat.reduceMul, Nat.reduceLT, Nat.reduceLeDiff, reduceCtorEq, decide_true, decide_false, Int.reduceLE, Int.reduceLT, Int.reduceToNat, Int.reduceAdd, Int.reduceSub, Int.reduceMul, Int.reduceEq, hfl, hfl1, hfl2]
    refine call_of (fq _ _) ?_
    simp only [↓R1, R2, R3, R4, TY, reduceIte, Nat.reduceEqDiff, Nat.reduceAdd, Nat.reduceMul, Nat.reduceLT, Nat.reduceLeDiff, reduceCtorEq, decide_true, decide_false, Int.reduceLE, Int.reduceLT, Int.reduceToNat, Int.reduceAdd, Int.reduceSub, Int.reduceMul, Int.reduceEq, hfl, hfl1, hfl2]
    rw [floOf_wr (by kernel_rfl)]
    simp only [↓R1, R2, R3, R4, TY, reduceIte, Nat.reduceEqDiff, Nat.reduceAdd, Nat.reduceMul, Nat.reduceLT, Nat.reduceLeDiff, reduceCtorEq, decide_true, decide_false, Int.reduceLE, Int.reduceLT, Int.reduceToNat, Int.reduceAdd, Int.reduceSub, Int.reduceMul, Int.reduceEq, hfl, hfl1, hfl2, NE]
    rw [floOf_wr (by kernel_rfl)]
    simp only [↓R1, R2, R3, R4, TY, reduceIte, Nat.reduceEqDiff, Nat.reduceAdd, Nat.reduceMul, Nat.reduceLT, Nat.reduceLeDiff, reduceCtorEq, decide_true, decide_false, Int.reduceLE, Int.reduceLT, Int.reduceToNat, Int.reduceAdd, Int.reduceSub, Int.reduceMul, Int.reduceEq, hfl, hfl1, hfl2, NE, S_nb, hp', hq', beq_self_eq_true, tf_ne, ft_ne]
    refine call_of (mulN (by omega) (by omega)) ?_
    simp only [↓R1, R2, R3, R4, TY, reduceIte, Nat.reduceEqDiff, Nat.reduceAdd, Nat.reduceMul, Nat.reduceLT, Nat.reduceLeDiff, reduceCtorEq, decide_true, decide_false, Int.reduceLE, Int.reduceLT, Int.reduceToNat, Int.reduceAdd, Int.reduceSub, Int.reduceMul, Int.reduceEq, hp', hq']
    refine call_of (mulN (by omega) (by omega)) ?_
    simp only [↓R1, R2, R3, R4, TY, reduceIte, Nat.reduceEqDiff, Nat.reduceAdd, Nat.reduceMul, Nat.reduceLT, Nat.reduceLeDiff, reduceCtorEq, decide_true, decide_false, Int.reduceLE, Int.reduceLT, Int.reduceToNat, Int.reduceAdd, Int.reduceSub, Int.reduceMul, Int.reduceEq, hp', hq']
    refine call_of (cmpN_ok _ _) ?_
    have hcb := cmpN_bound (p.num.natAbs * q.den) (q.num.natAbs * p.den)
    have hw : IntKind.i64.wrap (0 - cmpN (p.num.natAbs * q.den) (q.num.natAbs * p.den)) = -cmpN (p.num.natAbs * q.den) (q.num.natAbs * p.den) := by rw [wrapI (by omega)]; omega
    simp only [↓R1, R2, R3, R4, TY, reduceIte, Nat.reduceEqDiff, Nat.reduceAdd, Nat.reduceMul, Nat.reduceLT, Nat.reduceLeDiff, reduceCtorEq, decide_true, decide_false, Int.reduceLE, Int.reduceLT, Int.reduceToNat, Int.reduceAdd, Int.reduceSub, Int.reduceMul, Int.reduceEq, hp', hq', hw]
    exact hneg _ _ (fin _ _ _ _) (rcmp_same hpn hqn).symm
end
end Go.Proofs.YtpaffoiiipgkeaaDoor.Ab
