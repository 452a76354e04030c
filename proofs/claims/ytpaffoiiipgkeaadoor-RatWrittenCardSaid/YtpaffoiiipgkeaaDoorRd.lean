/- Rational numbers: products, quotients, signs, order. -/
import Derived.Test.YtpaffoiiipgkeaaDoorRc
namespace Go.Proofs.YtpaffoiiipgkeaaDoor.Ab
open Go.RowKit
set_option linter.unusedVariables false
set_option linter.unusedSimpArgs false
set_option maxRecDepth 100000

theorem sgn_nonneg {n : Nat} (b : Bool) (h : n = 0) : sgn b n = 0 := by subst h; unfold sgn; split <;> simp
/-- What Cmp says. -/
def rcmp (p q : Rat) : Int := if p < q then -1 else if q < p then 1 else 0
theorem rcmp_cross (p q : Rat) : rcmp p q = if p.num * q.den < q.num * p.den then -1 else if q.num * p.den < p.num * q.den then 1 else 0 := by
  unfold rcmp
  simp only [Rat.lt_iff]

section
variable {G : Gl} {fl : Nat} {A : Hp}

theorem rmul_ok {p q : Rat} {j k : Nat} (hp : Sz p j) (hq : Sz q k) (hb : j * k < 18446744073709551616) : Sound Tryd.prog G 26 [ratV p, ratV q] fl A (ratV (p * q)) A := by
  refine Sound.of mixed Tryd.func26 Tryd.ntmps26 Tryd.results26 (by kernel_rfl) rfl (by kernel_rfl) (by simp) fun hA => ?_
  obtain ⟨p1, p2⟩ := id hp
  obtain ⟨q1, q2⟩ := id hq
  have hj := hp.pos
  have hk := hq.pos
  have hjk1 : j ≤ j * k := Nat.le_mul_of_pos_right _ hk
  have hjk2 : k ≤ j * k := Nat.le_mul_of_pos_left _ hj
  have n1 : p.num.natAbs * q.den ≤ j * k := Nat.mul_le_mul p1 q2
  have n2 : q.num.natAbs * p.den ≤ j * k := by rw [Nat.mul_comm j k]; exact Nat.mul_le_mul q1 p2
  have n3 : p.den * q.den ≤ j * k := Nat.mul_le_mul p2 q2
  have n4 : p.num.natAbs * q.num.natAbs ≤ j * k := Nat.mul_le_mul p1 q1
  have n5 : p.den * q.num.natAbs ≤ j * k := Nat.mul_le_mul p2 q1
  have fp := fun fl A => fit_ok (G := G) (fl := fl) (A := A) (q := p) (by omega) (by omega)
  have fq := fun fl A => fit_ok (G := G) (fl := fl) (A := A) (q := q) (by omega) (by omega)
  have hfl : fl ≤ A.next := hA.floor
  have hfl1 : fl ≤ A.next + 1 := by omega
  have hfl2 : fl ≤ A.next + 2 := by omega
  have hpd := rat_den_pos p
  have hqd := rat_den_pos q
  have l1 : (nb p.num.natAbs).length ≤ 8 := nb8.2 (by omega)
  have l2 : (nb q.num.natAbs).length ≤ 8 := nb8.2 (by omega)
  have l3 : (nb p.den).length ≤ 8 := nb8.2 (by omega)
  have l4 : (nb q.den).length ≤ 8 := nb8.2 (by omega)
  rw [ratV, ratV] at *
  simp only [↓R1, R2, R3, R4, TY, reduceIte, Nat.reduceEqDiff, Nat.reduceAdd, Nat.reduceMul, Nat.reduceLT, Nat.reduceLeDiff, reduceCtorEq, decide_true, decide_false, Int.reduceLE, Int.reduceLT, Int.reduceToNat, Int.reduceAdd, Int.reduceSub, Int.reduceMul, Int.reduceEq, hfl, hfl1, hfl2]
  refine call_of (fp _ _) ?_
  simp only [↓R1, R2, R3, R4, TY, reduceIte, Nat.reduceEqDiff, Nat.reduceAdd, Nat.reduceMul, Nat.reduceLT, Nat.reduceLeDiff, reduceCtorEq, decide_true, decide_false, Int.reduceLE, Int.reduceLT, Int.reduceToNat, Int.reduceAdd, Int.reduceSub, Int.reduceMul, Int.reduceEq, hfl, hfl1, hfl2]
  refine call_of (fq _ _) ?_
  simp only [↓R1, R2, R3, R4, TY, reduceIte, Nat.reduceEqDiff, Nat.reduceAdd, Nat.reduceMul, Nat.reduceLT, Nat.reduceLeDiff, reduceCtorEq, decide_true, decide_false, Int.reduceLE, Int.reduceLT, Int.reduceToNat, Int.reduceAdd, Int.reduceSub, Int.reduceMul, Int.reduceEq, hfl, hfl1, hfl2]
  rw [floOf_wr (by kernel_rfl)]
  simp only [↓R1, R2, R3, R4, TY, reduceIte, Nat.reduceEqDiff, Nat.reduceAdd, Nat.reduceMul, Nat.reduceLT, Nat.reduceLeDiff, reduceCtorEq, decide_true, decide_false, Int.reduceLE, Int.reduceLT, Int.reduceToNat, Int.reduceAdd, Int.reduceSub, Int.reduceMul, Int.reduceEq, hfl, hfl1, hfl2, NE]
  rw [floOf_wr (by kernel_rfl)]
  simp only [↓R1, R2, R3, R4, TY, reduceIte, Nat.reduceEqDiff, Nat.reduceAdd, Nat.reduceMul, Nat.reduceLT, Nat.reduceLeDiff, reduceCtorEq, decide_true, decide_false, Int.reduceLE, Int.reduceLT, Int.reduceToNat, Int.reduceAdd, Int.reduceSub, Int.reduceMul, Int.reduceEq, hfl, hfl1, hfl2, NE, S_nb]
  generalize hB : Hp.put _ _ _ = B
  have hBn : B.next = A.next + 3 := by rw [← hB]; rfl
  have hBx : Xt A.next A B := by rw [← hB]; exact (((((Xt.refl A).push _).push _).push _).put (Nat.le_refl _) _).put (by omega) _
  have hBr : B.blk (A.next + 2) = some (.row [.bool false, .string (S []), .string (S [])] 0 3) := by rw [← hB]; simp [Hp.put_blk, Hp.push_blk]
  have g0 : B.get G ⟨A.next, 0, some 0⟩ = some (.bool (decide (p.num < 0))) := by rw [← hB]; simp [Hp.get, Hp.put_blk, Hp.push_blk]
  have g1 : B.get G ⟨A.next, 1, some 0⟩ = some (.string (S (nb p.num.natAbs))) := by rw [← hB]; simp [Hp.get, Hp.put_blk, Hp.push_blk]
  have g2 : B.get G ⟨A.next, 2, some 0⟩ = some (.string (S (nb p.den))) := by rw [← hB]; simp [Hp.get, Hp.put_blk, Hp.push_blk]
  have g3 : B.get G ⟨A.next + 1, 0, some 0⟩ = some (.bool (decide (q.num < 0))) := by rw [← hB]; simp [Hp.get, Hp.put_blk, Hp.push_blk]
  have g4 : B.get G ⟨A.next + 1, 1, some 0⟩ = some (.string (S (nb q.num.natAbs))) := by rw [← hB]; simp [Hp.get, Hp.put_blk, Hp.push_blk]
  have g5 : B.get G ⟨A.next + 1, 2, some 0⟩ = some (.string (S (nb q.den))) := by rw [← hB]; simp [Hp.get, Hp.put_blk, Hp.push_blk]
  have hend : ∀ (r : Rat) (cs : List Value), r = p * q → Ended A (ratV r) (B.put (A.next + 2) (.row cs 0 3)) (ratV (p * q)) A := by
    rintro r cs rfl
    exact Ended.back hA (hBx.put (by omega) _) rfl (ratV_rb _ _)
  refine call_of (mulN (by omega) (by omega)) ?_
  simp only [↓R1, R2, R3, R4, TY, reduceIte, Nat.reduceEqDiff, Nat.reduceAdd, Nat.reduceMul, Nat.reduceLT, Nat.reduceLeDiff, reduceCtorEq, decide_true, decide_false, Int.reduceLE, Int.reduceLT, Int.reduceToNat, Int.reduceAdd, Int.reduceSub, Int.reduceMul, Int.reduceEq, g0, g1, g2, g3, g4, g5]
  refine call_of (mulN (by omega) (by omega)) ?_
  simp only [↓R1, R2, R3, R4, TY, reduceIte, Nat.reduceEqDiff, Nat.reduceAdd, Nat.reduceMul, Nat.reduceLT, Nat.reduceLeDiff, reduceCtorEq, decide_true, decide_false, Int.reduceLE, Int.reduceLT, Int.reduceToNat, Int.reduceAdd, Int.reduceSub, Int.reduceMul, Int.reduceEq, g0, g1, g2, g3, g4, g5]
  refine call_of (made_ok (Nat.mul_ne_zero hpd hqd) (by omega) (by omega)) ?_
  rw [sgn_mul2, sgn_num, sgn_num, ← Rat.mul_def']
  have hv := hend (p * q)
  rw [ratV] at hv ⊢
  simp only [↓R1, R2, R3, R4, TY, reduceIte, Nat.reduceEqDiff, Nat.reduceAdd, Nat.reduceMul, Nat.reduceLT, Nat.reduceLeDiff, reduceCtorEq, decide_true, decide_false, Int.reduceLE, Int.reduceLT, Int.reduceToNat, Int.reduceAdd, Int.reduceSub, Int.reduceMul, Int.reduceEq, hBr, hfl2]
  rw [floOf_wr (by kernel_rfl)]
  simp only [↓R1, R2, R3, R4, TY, reduceIte, Nat.reduceEqDiff, Nat.reduceAdd, Nat.reduceMul, Nat.reduceLT, Nat.reduceLeDiff, reduceCtorEq, decide_true, decide_false, Int.reduceLE, Int.reduceLT, Int.reduceToNat, Int.reduceAdd, Int.reduceSub, Int.reduceMul, Int.reduceEq, hBr, hfl2]
  exact hv _ rfl

def raw0 : Value := .agg #[.bool false, .string (S []), .string (S [])]
theorem div_val {p q : Rat} (hq : q.num ≠ 0) : mkRat (sgn (!(decide (p.num < 0) == decide (q.num < 0))) (p.num.natAbs * q.den)) (p.den * q.num.natAbs) = p / q := by
  have e : p / q = Rat.divInt (p.num * q.den) (p.den * q.num) := by
    rw [Rat.div_def, Rat.inv_def]
    conv => lhs; rw [← Rat.num_divInt_den p]
    rw [Rat.divInt_mul_divInt]
  have hs := sgn_num p.num
  rw [e, ← Rat.divInt_ofNat]
  rcases Int.lt_or_gt_of_ne hq with h | h
  · have h1 : decide (q.num < 0) = true := by simpa using h
    have h2 : ((p.den * q.num.natAbs : Nat) : Int) = -(p.den * q.num) := by rw [Int.natCast_mul, Int.ofNat_natAbs_of_nonpos (by omega), Int.mul_neg]
    have h3 : sgn (!(decide (p.num < 0) == true)) (p.num.natAbs * q.den) = -(p.num * q.den) := by
      rw [sgn_mul]
      conv => rhs; rw [← hs]
      cases decide (p.num < 0) <;> simp [sgn, Int.neg_mul]
    rw [h1, h2, h3, Rat.neg_divInt_neg]
  · have h1 : decide (q.num < 0) = false := decide_eq_false (by omega)
    have h2 : ((p.den * q.num.natAbs : Nat) : Int) = p.den * q.num := by rw [Int.natCast_mul, Int.natAbs_of_nonneg (by omega)]
    have h3 : sgn (!(decide (p.num < 0) == false)) (p.num.natAbs * q.den) = p.num * q.den := by
      rw [sgn_mul]
      conv => rhs; rw [← hs]
      cases decide (p.num < 0) <;> simp [sgn]
    rw [h1, h2, h3]

theorem rdiv_ok {p q : Rat} {j k : Nat} (hp : Sz p j) (hq : Sz q k) (hb : j * k < 18446744073709551616) (h0 : q.num ≠ 0) :
    Sound Tryd.prog G 30 [ratV p, ratV q] fl A (.tuple [ratV (p / q), Value.int .i64 0].toArray) A := by
  refine Sound.of mixed Tryd.func30 Tryd.ntmps30 Tryd.results30 (by kernel_rfl) rfl (by kernel_rfl) (by simp) fun hA => ?_
  obtain ⟨p1, p2⟩ := id hp
  obtain ⟨q1, q2⟩ := id hq
  have hj := hp.pos
  have hk := hq.pos
  have hjk1 : j ≤ j * k := Nat.le_mul_of_pos_right _ hk
  have hjk2 : k ≤ j * k := Nat.le_mul_of_pos_left _ hj
  have n1 : p.num.natAbs * q.den ≤ j * k := Nat.mul_le_mul p1 q2
  have n2 : q.num.natAbs * p.den ≤ j * k := by rw [Nat.mul_comm j k]; exact Nat.mul_le_mul q1 p2
  have n3 : p.den * q.den ≤ j * k := Nat.mul_le_mul p2 q2
  have n4 : p.num.natAbs * q.num.natAbs ≤ j * k := Nat.mul_le_mul p1 q1
  have n5 : p.den * q.num.natAbs ≤ j * k := Nat.mul_le_mul p2 q1
  have fp := fun fl A => fit_ok (G := G) (fl := fl) (A := A) (q := p) (by omega) (by omega)
  have fq := fun fl A => fit_ok (G := G) (fl := fl) (A := A) (q := q) (by omega) (by omega)
  have hfl : fl ≤ A.next := hA.floor
  have hfl1 : fl ≤ A.next + 1 := by omega
  have hfl2 : fl ≤ A.next + 2 := by omega
  have hpd := rat_den_pos p
  have hqd := rat_den_pos q
  have l1 : (nb p.num.natAbs).length ≤ 8 := nb8.2 (by omega)
  have l2 : (nb q.num.natAbs).length ≤ 8 := nb8.2 (by omega)
  have l3 : (nb p.den).length ≤ 8 := nb8.2 (by omega)
  have l4 : (nb q.den).length ≤ 8 := nb8.2 (by omega)
  have hdv := div_val (p := p) h0
  have hq0 : (q.num.natAbs = 0) = False := eq_false (by omega)
  have hqa : q.num.natAbs ≠ 0 := by omega
  rw [ratV, ratV] at *
  simp only [↓R1, R2, R3, R4, TY, reduceIte, Nat.reduceEqDiff, Nat.reduceAdd, Nat.reduceMul, Nat.reduceLT, Nat.reduceLeDiff, reduceCtorEq, decide_true, decide_false, Int.reduceLE, Int.reduceLT, Int.reduceToNat, Int.reduceAdd, Int.reduceSub, Int.reduceMul, Int.reduceEq, hfl, hfl1, hfl2]
  refine call_of (fp _ _) ?_
  simp only [↓R1, R2, R3, R4, TY, reduceIte, Nat.reduceEqDiff, Nat.reduceAdd, Nat.reduceMul, Nat.reduceLT, Nat.reduceLeDiff, reduceCtorEq, decide_true, decide_false, Int.reduceLE, Int.reduceLT, Int.reduceToNat, Int.reduceAdd, Int.reduceSub, Int.reduceMul, Int.reduceEq, hfl, hfl1, hfl2]
  refine call_of (fq _ _) ?_
  simp only [↓R1, R2, R3, R4, TY, reduceIte, Nat.reduceEqDiff, Nat.reduceAdd, Nat.reduceMul, Nat.reduceLT, Nat.reduceLeDiff, reduceCtorEq, decide_true, decide_false, Int.reduceLE, Int.reduceLT, Int.reduceToNat, Int.reduceAdd, Int.reduceSub, Int.reduceMul, Int.reduceEq, hfl, hfl1, hfl2]
  rw [floOf_wr (by kernel_rfl)]
  simp only [↓R1, R2, R3, R4, TY, reduceIte, Nat.reduceEqDiff, Nat.reduceAdd, Nat.reduceMul, Nat.reduceLT, Nat.reduceLeDiff, reduceCtorEq, decide_true, decide_false, Int.reduceLE, Int.reduceLT, Int.reduceToNat, Int.reduceAdd, Int.reduceSub, Int.reduceMul, Int.reduceEq, hfl, hfl1, hfl2, NE]
  rw [floOf_wr (by kernel_rfl)]
  simp only [↓R1, R2, R3, R4, TY, reduceIte, Nat.reduceEqDiff, Nat.reduceAdd, Nat.reduceMul, Nat.reduceLT, Nat.reduceLeDiff, reduceCtorEq, decide_true, decide_false, Int.reduceLE, Int.reduceLT, Int.reduceToNat, Int.reduceAdd, Int.reduceSub, Int.reduceMul, Int.reduceEq, hfl, hfl1, hfl2, NE, S_nb, S_inj, nb_nil_eq, hq0]
  generalize hB : Hp.put _ _ _ = B
  have hBn : B.next = A.next + 3 := by rw [← hB]; rfl
  have hBx : Xt A.next A B := by rw [← hB]; exact (((((Xt.refl A).push _).push _).push _).put (Nat.le_refl _) _).put (by omega) _
  have hBr : B.blk (A.next + 2) = some (.row [.bool false, .string (S []), .string (S [])] 0 3) := by rw [← hB]; simp [Hp.put_blk, Hp.push_blk]
  have g0 : B.get G ⟨A.next, 0, some 0⟩ = some (.bool (decide (p.num < 0))) := by rw [← hB]; simp [Hp.get, Hp.put_blk, Hp.push_blk]
  have g1 : B.get G ⟨A.next, 1, some 0⟩ = some (.string (S (nb p.num.natAbs))) := by rw [← hB]; simp [Hp.get, Hp.put_blk, Hp.push_blk]
  have g2 : B.get G ⟨A.next, 2, some 0⟩ = some (.string (S (nb p.den))) := by rw [← hB]; simp [Hp.get, Hp.put_blk, Hp.push_blk]
  have g3 : B.get G ⟨A.next + 1, 0, some 0⟩ = some (.bool (decide (q.num < 0))) := by rw [← hB]; simp [Hp.get, Hp.put_blk, Hp.push_blk]
  have g4 : B.get G ⟨A.next + 1, 1, some 0⟩ = some (.string (S (nb q.num.natAbs))) := by rw [← hB]; simp [Hp.get, Hp.put_blk, Hp.push_blk]
  have g5 : B.get G ⟨A.next + 1, 2, some 0⟩ = some (.string (S (nb q.den))) := by rw [← hB]; simp [Hp.get, Hp.put_blk, Hp.push_blk]
  have hend : ∀ (r : Rat) (cs : List Value), r = p / q → Ended A (.tuple [ratV r, Value.int .i64 0].toArray) (B.put (A.next + 2) (.row cs 0 3)) (.tuple [ratV (p / q), Value.int .i64 0].toArray) A := by
    rintro r cs rfl
    refine Ended.back hA (hBx.put (by omega) _) rfl (RB.tuple fun w hw => ?_)
    simp only [List.mem_cons, List.not_mem_nil, or_false] at hw
    rcases hw with rfl | rfl
    · exact ratV_rb _ _
    · exact RB.int _ _
  refine call_of (mulN (by omega) (by omega)) ?_
  simp only [↓R1, R2, R3, R4, TY, reduceIte, Nat.reduceEqDiff, Nat.reduceAdd, Nat.reduceMul, Nat.reduceLT, Nat.reduceLeDiff, reduceCtorEq, decide_true, decide_false, Int.reduceLE, Int.reduceLT, Int.reduceToNat, Int.reduceAdd, Int.reduceSub, Int.reduceMul, Int.reduceEq, g0, g1, g2, g3, g4, g5]
  refine call_of (mulN (by omega) (by omega)) ?_
  simp only [↓R1, R2, R3, R4, TY, reduceIte, Nat.reduceEqDiff, Nat.reduceAdd, Nat.reduceMul, Nat.reduceLT, Nat.reduceLeDiff, reduceCtorEq, decide_true, decide_false, Int.reduceLE, Int.reduceLT, Int.reduceToNat, Int.reduceAdd, Int.reduceSub, Int.reduceMul, Int.reduceEq, g0, g1, g2, g3, g4, g5]
  refine call_of (made_ok (Nat.mul_ne_zero hpd hqa) (by omega) (by omega)) ?_
  rw [hdv]
  have hv := hend (p / q)
  rw [ratV] at hv ⊢
  simp only [↓R1, R2, R3, R4, TY, reduceIte, Nat.reduceEqDiff, Nat.reduceAdd, Nat.reduceMul, Nat.reduceLT, Nat.reduceLeDiff, reduceCtorEq, decide_true, decide_false, Int.reduceLE, Int.reduceLT, Int.reduceToNat, Int.reduceAdd, Int.reduceSub, Int.reduceMul, Int.reduceEq, hBr, hfl2]
  rw [floOf_wr (by kernel_rfl)]
  simp only [↓R1, R2, R3, R4, TY, reduceIte, Nat.reduceEqDiff, Nat.reduceAdd, Nat.reduceMul, Nat.reduceLT, Nat.reduceLeDiff, reduceCtorEq, decide_true, decide_false, Int.reduceLE, Int.reduceLT, Int.reduceToNat, Int.reduceAdd, Int.reduceSub, Int.reduceMul, Int.reduceEq, hBr, hfl2]
  exact hv _ rfl

theorem rdiv_zero {p q : Rat} {j k : Nat} (hp : Sz p j) (hq : Sz q k) (hb : j * k < 18446744073709551616) (h0 : q.num = 0) :
    Sound Tryd.prog G 30 [ratV p, ratV q] fl A (.tuple [raw0, Value.int .i64 12].toArray) A := by
  refine Sound.of mixed Tryd.func30 Tryd.ntmps30 Tryd.results30 (by kernel_rfl) rfl (by kernel_rfl) (by simp) fun hA => ?_
  obtain ⟨p1, p2⟩ := id hp
  obtain ⟨q1, q2⟩ := id hq
  have hj := hp.pos
  have hk := hq.pos
  have hjk1 : j ≤ j * k := Nat.le_mul_of_pos_right _ hk
  have hjk2 : k ≤ j * k := Nat.le_mul_of_pos_left _ hj
  have n1 : p.num.natAbs * q.den ≤ j * k := Nat.mul_le_mul p1 q2
  have n2 : q.num.natAbs * p.den ≤ j * k := by rw [Nat.mul_comm j k]; exact Nat.mul_le_mul q1 p2
  have n3 : p.den * q.den ≤ j * k := Nat.mul_le_mul p2 q2
  have n4 : p.num.natAbs * q.num.natAbs ≤ j * k := Nat.mul_le_mul p1 q1
  have n5 : p.den * q.num.natAbs ≤ j * k := Nat.mul_le_mul p2 q1
  have fp := fun fl A => fit_ok (G := G) (fl := fl) (A := A) (q := p) (by omega) (by omega)
  have fq := fun fl A => fit_ok (G := G) (fl := fl) (A := A) (q := q) (by omega) (by omega)
  have hfl : fl ≤ A.next := hA.floor
  have hfl1 : fl ≤ A.next + 1 := by omega
  have hfl2 : fl ≤ A.next + 2 := by omega
  have hpd := rat_den_pos p
  have hqd := rat_den_pos q
  have l1 : (nb p.num.natAbs).length ≤ 8 := nb8.2 (by omega)
  have l2 : (nb q.num.natAbs).length ≤ 8 := nb8.2 (by omega)
  have l3 : (nb p.den).length ≤ 8 := nb8.2 (by omega)
  have l4 : (nb q.den).length ≤ 8 := nb8.2 (by omega)
  have hq0 : (q.num.natAbs = 0) = True := eq_true (by omega)
  rw [ratV, ratV] at *
  simp only [↓R1, R2, R3, R4, TY, reduceIte, Nat.reduceEqDiff, Nat.reduceAdd, Nat.reduceMul, Nat.reduceLT, Nat.reduceLeDiff, reduceCtorEq, decide_true, decide_false, Int.reduceLE, Int.reduceLT, Int.reduceToNat, Int.reduceAdd, Int.reduceSub, Int.reduceMul, Int.reduceEq, hfl, hfl1, hfl2]
  refine call_of (fp _ _) ?_
  simp only [↓R1, R2, R3, R4, TY, reduceIte, Nat.reduceEqDiff, Nat.reduceAdd, Nat.reduceMul, Nat.reduceLT, Nat.reduceLeDiff, reduceCtorEq, decide_true, decide_false, Int.reduceLE, Int.reduceLT, Int.reduceToNat, Int.reduceAdd, Int.reduceSub, Int.reduceMul, Int.reduceEq, hfl, hfl1, hfl2]
  refine call_of (fq _ _) ?_
  simp only [↓R1, R2, R3, R4, TY, reduceIte, Nat.reduceEqDiff, Nat.reduceAdd, Nat.reduceMul, Nat.reduceLT, Nat.reduceLeDiff, reduceCtorEq, decide_true, decide_false, Int.reduceLE, Int.reduceLT, Int.reduceToNat, Int.reduceAdd, Int.reduceSub, Int.reduceMul, Int.reduceEq, hfl, hfl1, hfl2]
  rw [floOf_wr (by kernel_rfl)]
  simp only [↓R1, R2, R3, R4, TY, reduceIte, Nat.reduceEqDiff, Nat.reduceAdd, Nat.reduceMul, Nat.reduceLT, Nat.reduceLeDiff, reduceCtorEq, decide_true, decide_false, Int.reduceLE, Int.reduceLT, Int.reduceToNat, Int.reduceAdd, Int.reduceSub, Int.reduceMul, Int.reduceEq, hfl, hfl1, hfl2, NE]
  rw [floOf_wr (by kernel_rfl)]
  simp only [↓R1, R2, R3, R4, TY, reduceIte, Nat.reduceEqDiff, Nat.reduceAdd, Nat.reduceMul, Nat.reduceLT, Nat.reduceLeDiff, reduceCtorEq, decide_true, decide_false, Int.reduceLE, Int.reduceLT, Int.reduceToNat, Int.reduceAdd, Int.reduceSub, Int.reduceMul, Int.reduceEq, hfl, hfl1, hfl2, NE, S_nb, S_inj, nb_nil_eq, hq0]
  refine Ended.back hA (((((((Xt.refl A).push _).push _).push _).put (Nat.le_refl _) _).put (by omega) _).put (by omega) _) rfl (RB.tuple fun w hw => ?_)
  simp only [List.mem_cons, List.not_mem_nil, or_false] at hw
  rcases hw with rfl | rfl
  · refine ⟨raw0, .agg rfl fun i h h' => ?_⟩
    have : i < 3 := h
    match i, this with
    | 0, _ => exact .bool _
    | 1, _ => exact .string _
    | 2, _ => exact .string _
  · exact RB.int _ _
end
end Go.Proofs.YtpaffoiiipgkeaaDoor.Ab
