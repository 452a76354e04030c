/- Rational numbers: sums and products. -/
import Derived.Test.YtpaffoiiipgkeaaDoorRb
namespace Go.Proofs.YtpaffoiiipgkeaaDoor.Ab
open Go.RowKit
set_option linter.unusedVariables false
set_option linter.unusedSimpArgs false
set_option maxRecDepth 100000

theorem ne_1 {n : Nat} : (n + 1 = n) = False := eq_false (by omega)
theorem ne_2 {n : Nat} : (n + 2 = n) = False := eq_false (by omega)
theorem ne_3 {n : Nat} : (n + 3 = n) = False := eq_false (by omega)
theorem ne_1' {n : Nat} : (n = n + 1) = False := eq_false (by omega)
theorem ne_2' {n : Nat} : (n = n + 2) = False := eq_false (by omega)
theorem ne_3' {n : Nat} : (n = n + 3) = False := eq_false (by omega)
set_option linter.defProp false in
def NE := And.intro @ne_1 (And.intro @ne_2 (And.intro @ne_3 (And.intro @ne_1' (And.intro @ne_2' @ne_3'))))
def signedR (neg : Bool) (a : Nat) (minus : Bool) (b : Nat) : Bool × Nat := if neg = minus then (neg, a + b) else if b ≤ a then (neg, a - b) else (minus, b - a)
theorem sgn_signedR (neg : Bool) (a : Nat) (minus : Bool) (b : Nat) : sgn (signedR neg a minus b).1 (signedR neg a minus b).2 = sgn neg a + sgn minus b := by
  unfold signedR sgn
  cases neg <;> cases minus <;> simp
  · split <;> simp <;> omega
  · split <;> simp <;> omega
  · omega
theorem signedR_le (neg : Bool) (a : Nat) (minus : Bool) (b : Nat) : (signedR neg a minus b).2 ≤ a + b := by
  unfold signedR
  split
  · exact Nat.le_refl _
  · split <;> simp only <;> omega
theorem sgn_mul (neg : Bool) (m d : Nat) : sgn neg (m * d) = sgn neg m * d := by
  unfold sgn; split <;> simp [Int.neg_mul]
theorem sgn_mul2 (a b : Bool) (m n : Nat) : sgn (!(a == b)) (m * n) = sgn a m * sgn b n := by
  cases a <;> cases b <;> simp [sgn, Int.neg_mul, Int.mul_neg]

section
variable {G : Gl} {fl : Nat} {A : Hp}

theorem signed_ok {neg minus : Bool} {a b : Nat} (ha : (nb a).length ≤ 900000) (hb : (nb b).length ≤ 900000) :
    Sound Tryd.prog G 57 [.bool neg, .string (S (nb a)), .bool minus, .string (S (nb b))] fl A (.tuple [Value.bool (signedR neg a minus b).1, .string (S (nb (signedR neg a minus b).2))].toArray) A := by
  refine Sound.of mixed Tryd.func57 Tryd.ntmps57 Tryd.results57 (by kernel_rfl) rfl (by kernel_rfl) (by simp) fun hA => ?_
  have hres : ∀ (x : Bool) (n : Nat), signedR neg a minus b = (x, n) → Ended A (.tuple [Value.bool x, .string (S (nb n))].toArray) A (.tuple [Value.bool (signedR neg a minus b).1, .string (S (nb (signedR neg a minus b).2))].toArray) A := by
    intro x n he
    rw [he]
    refine Ended.back hA (Xt.refl _) rfl (RB.tuple fun w hw => ?_)
    simp only [List.mem_cons, List.not_mem_nil, or_false] at hw
    rcases hw with rfl | rfl
    · exact RB.bool _
    · exact RB.string _
  simp only [↓R1, R2, R3, R4, TY, reduceIte, Nat.reduceEqDiff, Nat.reduceAdd, Nat.reduceMul, Nat.reduceLT, Nat.reduceLeDiff, reduceCtorEq, decide_true, decide_false, Int.reduceLE, Int.reduceLT, Int.reduceToNat, Int.reduceAdd, Int.reduceSub, Int.reduceMul, Int.reduceEq]
  by_cases hnm : neg = minus
  · subst hnm
    have hbb : (neg == neg) = true := by simp
    rw [hbb]
    simp only [↓R1, R2, R3, R4, TY, reduceIte, Nat.reduceEqDiff, Nat.reduceAdd, Nat.reduceMul, Nat.reduceLT, Nat.reduceLeDiff, reduceCtorEq, decide_true, decide_false, Int.reduceLE, Int.reduceLT, Int.reduceToNat, Int.reduceAdd, Int.reduceSub, Int.reduceMul, Int.reduceEq]
    refine call_of (addN ha hb) ?_
    simp only [↓R1, R2, R3, R4, TY, reduceIte, Nat.reduceEqDiff, Nat.reduceAdd, Nat.reduceMul, Nat.reduceLT, Nat.reduceLeDiff, reduceCtorEq, decide_true, decide_false, Int.reduceLE, Int.reduceLT, Int.reduceToNat, Int.reduceAdd, Int.reduceSub, Int.reduceMul, Int.reduceEq]
    exact hres _ _ (by rw [signedR, if_pos rfl])
  · have hbb : (neg == minus) = false := by simpa using hnm
    rw [hbb]
    simp only [↓R1, R2, R3, R4, TY, reduceIte, Nat.reduceEqDiff, Nat.reduceAdd, Nat.reduceMul, Nat.reduceLT, Nat.reduceLeDiff, reduceCtorEq, decide_true, decide_false, Int.reduceLE, Int.reduceLT, Int.reduceToNat, Int.reduceAdd, Int.reduceSub, Int.reduceMul, Int.reduceEq]
    refine call_of (subN ha hb) ?_
    by_cases hle : b ≤ a
    · rw [show subR a b = (a - b, 0) from by rw [subR, if_neg (by omega)]]
      simp only [↓R1, R2, R3, R4, TY, reduceIte, Nat.reduceEqDiff, Nat.reduceAdd, Nat.reduceMul, Nat.reduceLT, Nat.reduceLeDiff, reduceCtorEq, decide_true, decide_false, Int.reduceLE, Int.reduceLT, Int.reduceToNat, Int.reduceAdd, Int.reduceSub, Int.reduceMul, Int.reduceEq]
      exact hres _ _ (by rw [signedR, if_neg hnm, if_pos hle])
    · rw [show subR a b = (0, 1) from by rw [subR, if_pos (by omega)]]
      simp only [↓R1, R2, R3, R4, TY, reduceIte, Nat.reduceEqDiff, Nat.reduceAdd, Nat.reduceMul, Nat.reduceLT, Nat.reduceLeDiff, reduceCtorEq, decide_true, decide_false, Int.reduceLE, Int.reduceLT, Int.reduceToNat, Int.reduceAdd, Int.reduceSub, Int.reduceMul, Int.reduceEq]
      refine call_of (subN hb ha) ?_
      rw [show subR b a = (b - a, 0) from by rw [subR, if_neg (by omega)]]
      simp only [↓R1, R2, R3, R4, TY, reduceIte, Nat.reduceEqDiff, Nat.reduceAdd, Nat.reduceMul, Nat.reduceLT, Nat.reduceLeDiff, reduceCtorEq, decide_true, decide_false, Int.reduceLE, Int.reduceLT, Int.reduceToNat, Int.reduceAdd, Int.reduceSub, Int.reduceMul, Int.reduceEq]
      exact hres _ _ (by rw [signedR, if_neg hnm, if_neg hle])

theorem radd_ok {p q : Rat} {j k : Nat} (hp : Sz p j) (hq : Sz q k) (hb : 2 * (j * k) < 18446744073709551616) : Sound Tryd.prog G 24 [ratV p, ratV q] fl A (ratV (p + q)) A := by
  refine Sound.of mixed Tryd.func24 Tryd.ntmps24 Tryd.results24 (by kernel_rfl) rfl (by kernel_rfl) (by simp) fun hA => ?_
  obtain ⟨p1, p2⟩ := id hp
  obtain ⟨q1, q2⟩ := id hq
  have hj := hp.pos
  have hk := hq.pos
  have hjk1 : j ≤ j * k := Nat.le_mul_of_pos_right _ hk
  have hjk2 : k ≤ j * k := Nat.le_mul_of_pos_left _ hj
  have n1 : p.num.natAbs * q.den ≤ j * k := Nat.mul_le_mul p1 q2
  have n2 : q.num.natAbs * p.den ≤ j * k := by rw [Nat.mul_comm j k]; exact Nat.mul_le_mul q1 p2
  have n3 : p.den * q.den ≤ j * k := Nat.mul_le_mul p2 q2
  have fp := fun fl A => fit_ok (G := G) (fl := fl) (A := A) (q := p) (by omega) (by omega)
  have fq := fun fl A => fit_ok (G := G) (fl := fl) (A := A) (q := q) (by omega) (by omega)
  have hfl : fl ≤ A.next := hA.floor
  have hfl1 : fl ≤ A.next + 1 := by omega
  have hfl2 : fl ≤ A.next + 2 := by omega
  have hpd := rat_den_pos p
  have hqd := rat_den_pos q
  rw [ratV, ratV] at *
  simp only [↓R1, R2, R3, R4, TY, reduceIte, Nat.reduceEqDiff, Nat.reduceAdd, Nat.reduceMul, Nat.reduceLT, Nat.reduceLeDiff, reduceCtorEq, decide_true, decide_false, Int.reduceLE, Int.reduceLT, Int.reduceToNat, Int.reduceAdd, Int.reduceSub, Int.reduceMul, Int.reduceEq, hfl, hfl1, hfl2]
  refine call_of (fp _ _) ?_
  simp only [↓R1, R2, R3, R4, TY, reduceIte, Nat.reduceEqDiff, Nat.reduceAdd, Nat.reduceMul, Nat.reduceLT, Nat.reduceLeDiff, reduceCtorEq, decide_true, decide_false, Int.reduceLE, Int.reduceLT, Int.reduceToNat, Int.reduceAdd, Int.reduceSub, Int.reduceMul, Int.reduceEq, hfl, hfl1, hfl2]
  refine call_of (fq _ _) ?_
  simp only [↓R1, R2, R3, R4, TY, reduceIte, Nat.reduceEqDiff, Nat.reduceAdd, Nat.reduceMul, Nat.reduceLT, Nat.reduceLeDiff, reduceCtorEq, decide_true, decide_false, Int.reduceLE, Int.reduceLT, Int.reduceToNat, Int.reduceAdd, Int.reduceSub, Int.reduceMul, Int.reduceEq, hfl, hfl1, hfl2]
  rw [floOf_wr (by kernel_rfl)]
  simp only [↓R1, R2, R3, R4, TY, reduceIte, Nat.reduceEqDiff, Nat.reduceAdd, Nat.reduceMul, Nat.reduceLT, Nat.reduceLeDiff, reduceCtorEq, decide_true, decide_false, Int.reduceLE, Int.reduceLT, Int.reduceToNat, Int.reduceAdd, Int.reduceSub, Int.reduceMul, Int.reduceEq, hfl, hfl1, hfl2, NE]
  rw [floOf_wr (by kernel_rfl)]
  simp only [↓R1, R2, R3, R4, TY, reduceIte, Nat.reduceEqDiff, Nat.reduceAdd, Nat.reduceMul, Nat.reduceLT, Nat.reduceLeDiff, reduceCtorEq, decide_true, decide_false, Int.reduceLE, Int.reduceLT, Int.reduceToNat, Int.reduceAdd, Int.reduceSub, Int.reduceMul, Int.reduceEq, hfl, hfl1, hfl2, NE, S_nb]
  generalize hB : Hp.put _ _ _ = B
  have hBn : B.next = A.next + 3 := by rw [← hB]; rfl
  have hBx : Xt A.next A B := by rw [← hB]; exact (((((Xt.refl A).push _).push _).push _).put (Nat.le_refl _) _).put (by omega) _
  have hBr : B.blk (A.next + 2) = some (.row [.bool false, .string (S []), .string (S [])] 0 3) := by rw [← hB]; simp [Hp.put_blk, Hp.push_blk]
  have g0 : B.get G ⟨A.next, 0, some 0⟩ = some (.bool (decide (p.num < 0))) := by rw [← hB]; simp [Hp.get, Hp.put_blk, Hp.push_blk]
  have g1 : B.get G ⟨A.next, 1, some 0⟩ = some (.string (S (nb p.num.natAbs))) := by rw [← hB]; simp [Hp.get, Hp.put_blk, Hp.push_blk]
  have g2 : B.get G ⟨A.next, 2, some 0⟩ = some (.string (S (nb p.den))) := by rw [← hB]; simp [Hp.get, Hp.put_blk, Hp.push_blk]
  have g3 : B.get G ⟨A.next + 1, 0, some 0⟩ = some (.bool (decide (q.num < 0))) := by rw [← hB]; simp [Hp.get, Hp.put_blk, Hp.push_blk]
  have g4 : B.get G ⟨A.next + 1, 1, some 0⟩ = some (.string (S (nb q.num.natAbs))) := by rw [← hB]; simp [Hp.get, Hp.put_blk, Hp.push_blk]
  have g5 : B.get G ⟨A.next + 1, 2, some 0⟩ = some (.string (S (nb q.den))) := by rw [← hB]; simp [Hp.get, Hp.put_blk, Hp.push_blk]
  have hend : ∀ (r : Rat) (cs : List Value), r = p + q → Ended A (ratV r) (B.put (A.next + 2) (.row cs 0 3)) (ratV (p + q)) A := by
    rintro r cs rfl
    exact Ended.back hA (hBx.put (by omega) _) rfl (ratV_rb _ _)
  refine ⟨fun he => ?_, fun he => ?_⟩
  · have l1 : (nb p.num.natAbs).length ≤ 8 := nb8.2 (by omega)
    have l2 : (nb q.num.natAbs).length ≤ 8 := nb8.2 (by omega)
    refine call_of (signed_ok (by omega) (by omega)) ?_
    have hle := signedR_le (decide (p.num < 0)) p.num.natAbs (decide (q.num < 0)) q.num.natAbs
    have hsum := sgn_signedR (decide (p.num < 0)) p.num.natAbs (decide (q.num < 0)) q.num.natAbs
    rw [sgn_num, sgn_num] at hsum
    simp only [↓R1, R2, R3, R4, TY, reduceIte, Nat.reduceEqDiff, Nat.reduceAdd, Nat.reduceMul, Nat.reduceLT, Nat.reduceLeDiff, reduceCtorEq, decide_true, decide_false, Int.reduceLE, Int.reduceLT, Int.reduceToNat, Int.reduceAdd, Int.reduceSub, Int.reduceMul, Int.reduceEq, g2]
    refine call_of (made_ok hpd (by omega) (by omega)) ?_
    rw [hsum]
    have hr : mkRat (p.num + q.num) p.den = p + q := by
      rw [Rat.add_def', ← he, ← Int.add_mul, Rat.mkRat_mul_right hpd]
    rw [hr]
    have hv := hend (p + q)
    rw [ratV] at hv ⊢
    simp only [↓R1, R2, R3, R4, TY, reduceIte, Nat.reduceEqDiff, Nat.reduceAdd, Nat.reduceMul, Nat.reduceLT, Nat.reduceLeDiff, reduceCtorEq, decide_true, decide_false, Int.reduceLE, Int.reduceLT, Int.reduceToNat, Int.reduceAdd, Int.reduceSub, Int.reduceMul, Int.reduceEq, hBr, hfl2]
    exact hv _ rfl
  · have l1 : (nb p.num.natAbs).length ≤ 8 := nb8.2 (by omega)
    have l2 : (nb q.num.natAbs).length ≤ 8 := nb8.2 (by omega)
    have l3 : (nb p.den).length ≤ 8 := nb8.2 (by omega)
    have l4 : (nb q.den).length ≤ 8 := nb8.2 (by omega)
    refine call_of (mulN (by omega) (by omega)) ?_
    simp only [↓R1, R2, R3, R4, TY, reduceIte, Nat.reduceEqDiff, Nat.reduceAdd, Nat.reduceMul, Nat.reduceLT, Nat.reduceLeDiff, reduceCtorEq, decide_true, decide_false, Int.reduceLE, Int.reduceLT, Int.reduceToNat, Int.reduceAdd, Int.reduceSub, Int.reduceMul, Int.reduceEq, g0, g1, g2, g3, g4, g5]
    refine call_of (mulN (by omega) (by omega)) ?_
    simp only [↓R1, R2, R3, R4, TY, reduceIte, Nat.reduceEqDiff, Nat.reduceAdd, Nat.reduceMul, Nat.reduceLT, Nat.reduceLeDiff, reduceCtorEq, decide_true, decide_false, Int.reduceLE, Int.reduceLT, Int.reduceToNat, Int.reduceAdd, Int.reduceSub, Int.reduceMul, Int.reduceEq, g0, g1, g2, g3, g4, g5]
    have l5 := nb_len_mul l1 l4
    have l6 := nb_len_mul l2 l3
    refine call_of (signed_ok (by omega) (by omega)) ?_
    have hle := signedR_le (decide (p.num < 0)) (p.num.natAbs * q.den) (decide (q.num < 0)) (q.num.natAbs * p.den)
    have hsum := sgn_signedR (decide (p.num < 0)) (p.num.natAbs * q.den) (decide (q.num < 0)) (q.num.natAbs * p.den)
    rw [sgn_mul, sgn_mul, sgn_num, sgn_num] at hsum
    simp only [↓R1, R2, R3, R4, TY, reduceIte, Nat.reduceEqDiff, Nat.reduceAdd, Nat.reduceMul, Nat.reduceLT, Nat.reduceLeDiff, reduceCtorEq, decide_true, decide_false, Int.reduceLE, Int.reduceLT, Int.reduceToNat, Int.reduceAdd, Int.reduceSub, Int.reduceMul, Int.reduceEq, g0, g1, g2, g3, g4, g5]
    refine call_of (mulN (by omega) (by omega)) ?_
    simp only [↓R1, R2, R3, R4, TY, reduceIte, Nat.reduceEqDiff, Nat.reduceAdd, Nat.reduceMul, Nat.reduceLT, Nat.reduceLeDiff, reduceCtorEq, decide_true, decide_false, Int.reduceLE, Int.reduceLT, Int.reduceToNat, Int.reduceAdd, Int.reduceSub, Int.reduceMul, Int.reduceEq, g0, g1, g2, g3, g4, g5]
    refine call_of (made_ok (Nat.mul_ne_zero hpd hqd) (by omega) (by omega)) ?_
    rw [hsum, ← Rat.add_def']
    have hv := hend (p + q)
    rw [ratV] at hv ⊢
    simp only [↓R1, R2, R3, R4, TY, reduceIte, Nat.reduceEqDiff, Nat.reduceAdd, Nat.reduceMul, Nat.reduceLT, Nat.reduceLeDiff, reduceCtorEq, decide_true, decide_false, Int.reduceLE, Int.reduceLT, Int.reduceToNat, Int.reduceAdd, Int.reduceSub, Int.reduceMul, Int.reduceEq, hBr, hfl2]
    exact hv _ rfl
end
end Go.Proofs.YtpaffoiiipgkeaaDoor.Ab
