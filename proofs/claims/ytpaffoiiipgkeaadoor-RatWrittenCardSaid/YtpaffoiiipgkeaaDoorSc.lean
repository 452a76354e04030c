/- Numbers are read back from their texts. -/
import Derived.Test.YtpaffoiiipgkeaaDoorSb
import Derived.Test.YtpaffoiiipgkeaaDoorRi
namespace Go.Proofs.YtpaffoiiipgkeaaDoor.Ab
open Go.RowKit
set_option linter.unusedVariables false
set_option linter.unusedSimpArgs false
set_option maxRecDepth 100000

section
variable {G : Gl} {fl : Nat} {A : Hp}

theorem rread_text {q : Rat} (h1 : q.num.natAbs < 18446744073709551616) (h2 : q.den < 18446744073709551616) : Sound Tryd.prog G 43 [.string (S (rtext q))] fl A (.tuple [ratV q, Value.int .i64 0].toArray) A := by
  have hp : pre (decide (q.num < 0)) = if q.num < 0 then [45] else [] := by unfold pre; simp
  by_cases hd : q.den = 1
  · have h := rread1_ok (G := G) (fl := fl) (A := A) (neg := decide (q.num < 0)) h1
    rw [sgn_num, hp] at h
    have e : mkRat q.num 1 = q := by
      conv => rhs; rw [← Rat.mkRat_self q]
      rw [hd]
    rw [e] at h
    rw [rtext, if_pos hd, List.append_nil]; exact h
  · have h := rread_ok (G := G) (fl := fl) (A := A) (neg := decide (q.num < 0)) (rat_den_pos q) h1 h2
    rw [sgn_num, hp, Rat.mkRat_self] at h
    rw [rtext, if_neg hd, List.append_assoc]; exact h

set_option maxHeartbeats 8000000 in
theorem ratWritten_calls {x1 x2 : Int} (k1 : -9223372036854775808 ≤ x1 ∧ x1 ≤ 9223372036854775807) (k2 : -9223372036854775808 ≤ x2 ∧ x2 ≤ 9223372036854775807) :
    ∀ (μ : Mu) (w : World) (args' : Array Value), HR G μ fl A w → fl ≤ A.next → VRa μ A [.int .i64 x1, .int .i64 x2].toArray args' →
    Calls Tryd.prog 11 args' w fun e w' => ∃ u, e = .returned u ∧ ∃ ν, VR ν A (.bool true) u ∧ HR G ν fl A w' ∧ Trans fl μ A w ν A w' := by
  refine calls_of mixed Tryd.func11 Tryd.ntmps11 Tryd.results11 (by kernel_rfl) rfl (by kernel_rfl) (by simp) fun hA => ?_
  have fin : ∀ (b : Bool) (B : Hp), Xt A.next A B → b = true → Ended A (.bool b) B (.bool true) A := fun b B hB hb => Ended.back hA hB (congrArg _ hb) (RB.bool _)
  have hp := mrat_sz x1
  have hfl : fl ≤ A.next := hA.floor
  have hfl1 : fl ≤ A.next + 1 := by omega
  have hfl2 : fl ≤ A.next + 2 := by omega
  have hfl3 : fl ≤ A.next + 3 := by omega
  have hbr := below_range (x := x2) (n := 50) (by omega)
  obtain ⟨k, hk⟩ : ∃ k : Nat, 2 + below x2 50 = (k : Int) := ⟨(2 + below x2 50).toNat, by omega⟩
  have hk2 : 2 ≤ k := by omega
  have hk51 : k ≤ 51 := by omega
  have w1 : IntKind.i64.wrap (2 + below x2 50) = ((k : Nat) : Int) := by rw [wrapI (by omega), hk]
  simp only [↓R1, R2, R3, R4, TY, reduceIte, Nat.reduceEqDiff, Nat.reduceAdd, Nat.reduceMul, Nat.reduceLT, Nat.reduceLeDiff, reduceCtorEq, decide_true, decide_false, Int.reduceLE, Int.reduceLT, Int.reduceToNat, Int.reduceAdd, Int.reduceSub, Int.reduceMul, Int.reduceEq]
  refine call_of ratBegun_ok ?_
  simp only [↓R1, R2, R3, R4, TY, reduceIte, Nat.reduceEqDiff, Nat.reduceAdd, Nat.reduceMul, Nat.reduceLT, Nat.reduceLeDiff, reduceCtorEq, decide_true, decide_false, Int.reduceLE, Int.reduceLT, Int.reduceToNat, Int.reduceAdd, Int.reduceSub, Int.reduceMul, Int.reduceEq]
  refine call_of (mrat_ok k1.1 k1.2) ?_
  simp only [↓R1, R2, R3, R4, TY, reduceIte, Nat.reduceEqDiff, Nat.reduceAdd, Nat.reduceMul, Nat.reduceLT, Nat.reduceLeDiff, reduceCtorEq, decide_true, decide_false, Int.reduceLE, Int.reduceLT, Int.reduceToNat, Int.reduceAdd, Int.reduceSub, Int.reduceMul, Int.reduceEq]
  refine call_of (below_ok (by omega) (by omega) k2.1 k2.2) ?_
  generalize mrat x1 = p at *
  obtain ⟨p1, p2⟩ := id hp
  have htx := fun fl A => rtext_ok (G := G) (fl := fl) (A := A) hp (by omega)
  have hrd := fun fl A => rread_text (G := G) (fl := fl) (A := A) (q := p) (by omega) (by omega)
  have m1 : p.num.natAbs * k ≤ 64 * 51 := Nat.mul_le_mul p1 hk51
  have m2 : p.den * k ≤ 64 * 51 := Nat.mul_le_mul p2 hk51
  have hdk : p.den * k ≠ 0 := Nat.mul_ne_zero (rat_den_pos p) (by omega)
  have hrd2 := fun fl A => rread_ok (G := G) (fl := fl) (A := A) (neg := decide (p.num < 0)) (n := p.num.natAbs * k) (d := p.den * k) hdk (by omega) (by omega)
  have hval : mkRat (sgn (decide (p.num < 0)) (p.num.natAbs * k)) (p.den * k) = p := by
    rw [sgn_mul, sgn_num, Rat.mkRat_mul_right (by omega), Rat.mkRat_self]
  rw [hval] at hrd2
  have hgb := fun fl A => goodBad_ok (G := G) (fl := fl) (A := A) (q := p) hk2 (by omega) (by omega)
  have hsb := fun fl A => signBad_ok (G := G) (fl := fl) (A := A) (q := p) hk2 (by omega) (by omega)
  have ln : (nb p.num.natAbs).length ≤ 8 := nb8.2 (by omega)
  have ld : (nb p.den).length ≤ 8 := nb8.2 (by omega)
  have lk : (nb k).length ≤ 8 := nb8.2 (by omega)
  have lnk : (nb (p.num.natAbs * k)).length ≤ 8 := nb8.2 (by omega)
  have ldk : (nb (p.den * k)).length ≤ 8 := nb8.2 (by omega)
  have t1 := dec_len24 (show p.num.natAbs * k < 18446744073709551616 by omega)
  have t2 := dec_len24 (show p.den * k < 18446744073709551616 by omega)
  have hof := fun fl A => of_ok (G := G) (fl := fl) (A := A) (n := (k : Int)) (by omega)
  rw [Int.toNat_natCast] at hof
  rw [badV] at hgb hsb
  rw [ratV_def p] at htx hrd hrd2
  simp only [↓R1, R2, R3, R4, TY, reduceIte, Nat.reduceEqDiff, Nat.reduceAdd, Nat.reduceMul, Nat.reduceLT, Nat.reduceLeDiff, reduceCtorEq, decide_true, decide_false, Int.reduceLE, Int.reduceLT, Int.reduceToNat, Int.reduceAdd, Int.reduceSub, Int.reduceMul, Int.reduceEq, ratV_def, hfl, hfl1, hfl2, hfl3, NE, w1]
  refine call_of (htx _ _) ?_
  simp only [↓R1, R2, R3, R4, TY, reduceIte, Nat.reduceEqDiff, Nat.reduceAdd, Nat.reduceMul, Nat.reduceLT, Nat.reduceLeDiff, reduceCtorEq, decide_true, decide_false, Int.reduceLE, Int.reduceLT, Int.reduceToNat, Int.reduceAdd, Int.reduceSub, Int.reduceMul, Int.reduceEq, ratV_def, hfl, hfl1, hfl2, hfl3, NE, w1]
  refine call_of (hrd _ _) ?_
  simp only [↓R1, R2, R3, R4, TY, reduceIte, Nat.reduceEqDiff, Nat.reduceAdd, Nat.reduceMul, Nat.reduceLT, Nat.reduceLeDiff, reduceCtorEq, decide_true, decide_false, Int.reduceLE, Int.reduceLT, Int.reduceToNat, Int.reduceAdd, Int.reduceSub, Int.reduceMul, Int.reduceEq, ratV_def, hfl, hfl1, hfl2, hfl3, NE, w1]
  refine call_of (hof _ _) ?_
  simp only [↓R1, R2, R3, R4, TY, reduceIte, Nat.reduceEqDiff, Nat.reduceAdd, Nat.reduceMul, Nat.reduceLT, Nat.reduceLeDiff, reduceCtorEq, decide_true, decide_false, Int.reduceLE, Int.reduceLT, Int.reduceToNat, Int.reduceAdd, Int.reduceSub, Int.reduceMul, Int.reduceEq, ratV_def, hfl, hfl1, hfl2, hfl3, NE, w1]
  refine call_of (mulN (by omega) (by omega)) ?_
  simp only [↓R1, R2, R3, R4, TY, reduceIte, Nat.reduceEqDiff, Nat.reduceAdd, Nat.reduceMul, Nat.reduceLT, Nat.reduceLeDiff, reduceCtorEq, decide_true, decide_false, Int.reduceLE, Int.reduceLT, Int.reduceToNat, Int.reduceAdd, Int.reduceSub, Int.reduceMul, Int.reduceEq, ratV_def, hfl, hfl1, hfl2, hfl3, NE, w1]
  refine call_of (hof _ _) ?_
  simp only [↓R1, R2, R3, R4, TY, reduceIte, Nat.reduceEqDiff, Nat.reduceAdd, Nat.reduceMul, Nat.reduceLT, Nat.reduceLeDiff, reduceCtorEq, decide_true, decide_false, Int.reduceLE, Int.reduceLT, Int.reduceToNat, Int.reduceAdd, Int.reduceSub, Int.reduceMul, Int.reduceEq, ratV_def, hfl, hfl1, hfl2, hfl3, NE, w1]
  refine call_of (mulN (by omega) (by omega)) ?_
  simp only [↓R1, R2, R3, R4, TY, reduceIte, Nat.reduceEqDiff, Nat.reduceAdd, Nat.reduceMul, Nat.reduceLT, Nat.reduceLeDiff, reduceCtorEq, decide_true, decide_false, Int.reduceLE, Int.reduceLT, Int.reduceToNat, Int.reduceAdd, Int.reduceSub, Int.reduceMul, Int.reduceEq, ratV_def, hfl, hfl1, hfl2, hfl3, NE, w1]
  have z1 : (dec (p.num.natAbs * k)).length ≤ 9223372036854775806 := by omega
  have z2 : (dec (p.num.natAbs * k)).length + 1 ≤ 9223372036854775806 := by omega
  have z3 : (dec (p.num.natAbs * k)).length + ((dec (p.den * k)).length + 1) ≤ 9223372036854775806 := by omega
  have z4 : (dec (p.num.natAbs * k)).length + 1 + (dec (p.den * k)).length ≤ 9223372036854775807 := by omega
  refine call_of (textN (by omega)) ?_
  simp only [↓R1, R2, R3, R4, TY, reduceIte, Nat.reduceEqDiff, Nat.reduceAdd, Nat.reduceMul, Nat.reduceLT, Nat.reduceLeDiff, reduceCtorEq, decide_true, decide_false, Int.reduceLE, Int.reduceLT, Int.reduceToNat, Int.reduceAdd, Int.reduceSub, Int.reduceMul, Int.reduceEq, ratV_def, hfl, hfl1, hfl2, hfl3, NE, w1, S_append, S_size, List.length_cons, List.length_nil, List.length_append, Nat.zero_add, z1, z2, z3]
  refine call_of (textN (by omega)) ?_
  simp only [↓R1, R2, R3, R4, TY, reduceIte, Nat.reduceEqDiff, Nat.reduceAdd, Nat.reduceMul, Nat.reduceLT, Nat.reduceLeDiff, reduceCtorEq, decide_true, decide_false, Int.reduceLE, Int.reduceLT, Int.reduceToNat, Int.reduceAdd, Int.reduceSub, Int.reduceMul, Int.reduceEq, ratV_def, hfl, hfl1, hfl2, hfl3, NE, w1, S_append, S_size, List.length_cons, List.length_nil, List.length_append, Nat.zero_add, List.cons_append, List.nil_append, List.append_assoc, z1, z2, z3, z4]
  generalize hB : Hp.put _ (A.next + 1) _ = B
  have hBn : B.next = A.next + 2 := by rw [← hB]; rfl
  have hBx : Xt A.next A B := by rw [← hB]; exact ((((Xt.refl A).push _).put (Nat.le_refl _) _).push _).put (by omega) _
  have g0 : B.get G ⟨A.next, 0, some 0⟩ = some (.bool (decide (p.num < 0))) := by rw [← hB]; simp [Hp.get, Hp.put_blk, Hp.push_blk, Nat.add_assoc]
  have g1 : B.get G ⟨A.next, 1, some 0⟩ = some (.string (S (nb p.num.natAbs))) := by rw [← hB]; simp [Hp.get, Hp.put_blk, Hp.push_blk, Nat.add_assoc]
  have g2 : B.get G ⟨A.next, 2, some 0⟩ = some (.string (S (nb p.den))) := by rw [← hB]; simp [Hp.get, Hp.put_blk, Hp.push_blk, Nat.add_assoc]
  have g3 : B.get G ⟨A.next + 1, 0, some 0⟩ = some (.bool (decide (p.num < 0))) := by rw [← hB]; simp [Hp.get, Hp.put_blk, Hp.push_blk, Nat.add_assoc]
  have g4 : B.get G ⟨A.next + 1, 1, some 0⟩ = some (.string (S (nb p.num.natAbs))) := by rw [← hB]; simp [Hp.get, Hp.put_blk, Hp.push_blk, Nat.add_assoc]
  have g5 : B.get G ⟨A.next + 1, 2, some 0⟩ = some (.string (S (nb p.den))) := by rw [← hB]; simp [Hp.get, Hp.put_blk, Hp.push_blk, Nat.add_assoc]
  clear hB
  have hflB : fl ≤ B.next := by omega
  have hflB1 : fl ≤ B.next + 1 := by omega
  have lt0 : A.next < B.next := by omega
  have lt1 : A.next + 1 < B.next := by omega
  have z5 : 1 + ((dec (p.num.natAbs * k)).length + ((dec (p.den * k)).length + 1)) ≤ 9223372036854775807 := by omega
  have hgt : Tryd.prog.eqGuardType Tryd.prog.depth 35 = false := by kernel_rfl
  have heq := fun x y => eqD_rat x y
  simp only [ratV_def] at heq
  refine ⟨fun hn => ?_, fun hn => ?_⟩
  · have hpre : pre (decide (p.num < 0)) = [45] := by rw [pre, decide_eq_true hn]; rfl
    rw [hpre, List.cons_append, List.nil_append] at hrd2
    simp only [↓R1, R2, R3, R4, TY, reduceIte, Nat.reduceEqDiff, Nat.reduceAdd, Nat.reduceMul, Nat.reduceLT, Nat.reduceLeDiff, reduceCtorEq, decide_true, decide_false, Int.reduceLE, Int.reduceLT, Int.reduceToNat, Int.reduceAdd, Int.reduceSub, Int.reduceMul, Int.reduceEq, ratV_def, hfl, hfl1, hfl2, hfl3, NE, w1, S_append, S_size, List.length_cons, List.length_nil, List.length_append, Nat.zero_add, List.cons_append, List.nil_append, List.append_assoc, append_eq, z1, z2, z3, z4, z5, g0, g1, g2, g3, g4, g5, hflB, hflB1, lt0, lt1, heq, hgt]
    refine call_of (hrd2 _ _) ?_
    simp only [↓R1, R2, R3, R4, TY, reduceIte, Nat.reduceEqDiff, Nat.reduceAdd, Nat.reduceMul, Nat.reduceLT, Nat.reduceLeDiff, reduceCtorEq, decide_true, decide_false, Int.reduceLE, Int.reduceLT, Int.reduceToNat, Int.reduceAdd, Int.reduceSub, Int.reduceMul, Int.reduceEq, ratV_def, hfl, hfl1, hfl2, hfl3, NE, w1, S_append, S_size, List.length_cons, List.length_nil, List.length_append, Nat.zero_add, List.cons_append, List.nil_append, List.append_assoc, append_eq, z1, z2, z3, z4, z5, g0, g1, g2, g3, g4, g5, hflB, hflB1, lt0, lt1, heq, hgt]
    refine call_of (hgb _ _) ?_
    simp only [↓R1, R2, R3, R4, TY, reduceIte, Nat.reduceEqDiff, Nat.reduceAdd, Nat.reduceMul, Nat.reduceLT, Nat.reduceLeDiff, reduceCtorEq, decide_true, decide_false, Int.reduceLE, Int.reduceLT, Int.reduceToNat, Int.reduceAdd, Int.reduceSub, Int.reduceMul, Int.reduceEq, ratV_def, hfl, hfl1, hfl2, hfl3, NE, w1, S_append, S_size, List.length_cons, List.length_nil, List.length_append, Nat.zero_add, List.cons_append, List.nil_append, List.append_assoc, append_eq, z1, z2, z3, z4, z5, g0, g1, g2, g3, g4, g5, hflB, hflB1, lt0, lt1, heq, hgt]
    refine call_of (hsb _ _) ?_
    simp only [↓R1, R2, R3, R4, TY, reduceIte, Nat.reduceEqDiff, Nat.reduceAdd, Nat.reduceMul, Nat.reduceLT, Nat.reduceLeDiff, reduceCtorEq, decide_true, decide_false, Int.reduceLE, Int.reduceLT, Int.reduceToNat, Int.reduceAdd, Int.reduceSub, Int.reduceMul, Int.reduceEq, ratV_def, hfl, hfl1, hfl2, hfl3, NE, w1, S_append, S_size, List.length_cons, List.length_nil, List.length_append, Nat.zero_add, List.cons_append, List.nil_append, List.append_assoc, append_eq, z1, z2, z3, z4, z5, g0, g1, g2, g3, g4, g5, hflB, hflB1, lt0, lt1, heq, hgt]
    exact fin _ _ (hBx.trans (((((Xt.refl B).push _).put (Nat.le_refl _) _).push _).put (show B.next ≤ B.next + 1 by omega) _)) rfl
  · have hpre : pre (decide (p.num < 0)) = [] := by rw [pre, decide_eq_false hn]; rfl
    rw [hpre, List.nil_append] at hrd2
    refine call_of (hrd2 _ _) ?_
    simp only [↓R1, R2, R3, R4, TY, reduceIte, Nat.reduceEqDiff, Nat.reduceAdd, Nat.reduceMul, Nat.reduceLT, Nat.reduceLeDiff, reduceCtorEq, decide_true, decide_false, Int.reduceLE, Int.reduceLT, Int.reduceToNat, Int.reduceAdd, Int.reduceSub, Int.reduceMul, Int.reduceEq, ratV_def, hfl, hfl1, hfl2, hfl3, NE, w1, S_append, S_size, List.length_cons, List.length_nil, List.length_append, Nat.zero_add, List.cons_append, List.nil_append, List.append_assoc, append_eq, z1, z2, z3, z4, z5, g0, g1, g2, g3, g4, g5, hflB, hflB1, lt0, lt1, heq, hgt]
    refine call_of (hgb _ _) ?_
    simp only [↓R1, R2, R3, R4, TY, reduceIte, Nat.reduceEqDiff, Nat.reduceAdd, Nat.reduceMul, Nat.reduceLT, Nat.reduceLeDiff, reduceCtorEq, decide_true, decide_false, Int.reduceLE, Int.reduceLT, Int.reduceToNat, Int.reduceAdd, Int.reduceSub, Int.reduceMul, Int.reduceEq, ratV_def, hfl, hfl1, hfl2, hfl3, NE, w1, S_append, S_size, List.length_cons, List.length_nil, List.length_append, Nat.zero_add, List.cons_append, List.nil_append, List.append_assoc, append_eq, z1, z2, z3, z4, z5, g0, g1, g2, g3, g4, g5, hflB, hflB1, lt0, lt1, heq, hgt]
    refine call_of (hsb _ _) ?_
    simp only [↓R1, R2, R3, R4, TY, reduceIte, Nat.reduceEqDiff, Nat.reduceAdd, Nat.reduceMul, Nat.reduceLT, Nat.reduceLeDiff, reduceCtorEq, decide_true, decide_false, Int.reduceLE, Int.reduceLT, Int.reduceToNat, Int.reduceAdd, Int.reduceSub, Int.reduceMul, Int.reduceEq, ratV_def, hfl, hfl1, hfl2, hfl3, NE, w1, S_append, S_size, List.length_cons, List.length_nil, List.length_append, Nat.zero_add, List.cons_append, List.nil_append, List.append_assoc, append_eq, z1, z2, z3, z4, z5, g0, g1, g2, g3, g4, g5, hflB, hflB1, lt0, lt1, heq, hgt]
    exact fin _ _ (hBx.trans (((((Xt.refl B).push _).put (Nat.le_refl _) _).push _).put (show B.next ≤ B.next + 1 by omega) _)) rfl
end
end Go.Proofs.YtpaffoiiipgkeaaDoor.Ab
