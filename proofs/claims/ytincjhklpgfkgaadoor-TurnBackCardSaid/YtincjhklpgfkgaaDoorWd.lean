/- A turn is found again: the law. -/
import Derived.Test.YtincjhklpgfkgaaDoorWc
import Derived.Test.YtincjhklpgfkgaaDoorVr
namespace Go.Proofs.YtincjhklpgfkgaaDoor.Ab
open Go.RowKit
set_option linter.unusedVariables false
set_option linter.unusedSimpArgs false
set_option maxRecDepth 100000

theorem tcmp_swap (a b : Option Rat) : tcmp b a = -tcmp a b := by
  cases a <;> cases b <;> simp only [tcmp] <;> first | rfl | skip
  unfold rcmp; grind
theorem tcmp_zero (a b : Option Rat) : (tcmp a b = 0) = (a = b) := by
  cases a <;> cases b <;> simp only [tcmp] <;> simp
  unfold rcmp; grind
theorem tcmp_bd (a b : Option Rat) : -1 ≤ tcmp a b ∧ tcmp a b ≤ 1 := by
  cases a <;> cases b <;> simp only [tcmp] <;> try omega
  unfold rcmp; grind
theorem sin_pos {t : Rat} (h : 0 < tsin (some t)) : 0 < t := by
  refine Classical.byContradiction fun hn => ?_
  have h1 := one_sq t
  have hp : 0 < (1 + t * t)⁻¹ := Rat.inv_pos.2 (by have := sq_nn t; grind)
  have h2 := Rat.mul_nonneg (a := -t) (b := (1 + t * t)⁻¹) (by grind) (Rat.le_of_lt hp)
  have e : tsin (some t) = -(2 * (-t * (1 + t * t)⁻¹)) := by simp only [tsin, Option.getD]; grind
  grind
theorem csq_strict {x y : Rat} (h0 : 0 ≤ x) (h : x < y) : csq y < csq x := by
  have h1 := csq_anti h0 (Rat.le_of_lt h)
  have n1 : 1 + x ≠ 0 := by grind
  have n2 : 1 + y ≠ 0 := by grind
  have h2 : csq y ≠ csq x := by
    intro e
    unfold csq at e
    have : (1 - y) * (1 + x) = (1 - x) * (1 + y) := by grind
    grind
  grind
theorem cos_falls {s t : Rat} (hs : 0 < s) (ht : 0 < t) : rcmp (tcos (some t)) (tcos (some s)) = rcmp s t := by
  have lt_sq : ∀ {x y : Rat}, 0 < x → x < y → x * x < y * y := fun {x y} h1 h2 => by
    have := Rat.mul_pos (a := y - x) (b := y + x) (by grind) (by grind)
    grind
  have e1 : tcos (some t) = csq (t * t) := rfl
  have e2 : tcos (some s) = csq (s * s) := rfl
  rw [e1, e2]
  by_cases h : s < t
  · have := csq_strict (sq_nn s) (lt_sq hs h)
    unfold rcmp; rw [if_pos this, if_pos h]
  · by_cases h2 : t < s
    · have := csq_strict (sq_nn t) (lt_sq ht h2)
      unfold rcmp; rw [if_neg h, if_pos h2]; grind
    · have : s = t := by grind
      subst this; unfold rcmp; grind

section
variable {G : Gl} {fl : Nat} {A : Hp}

set_option maxHeartbeats 16000000 in
theorem turnBack_calls {x1 x2 x3 : Int} (hG : G 2 = some tabV) (k1 : -9223372036854775808 ≤ x1 ∧ x1 ≤ 9223372036854775807) (k2 : -9223372036854775808 ≤ x2 ∧ x2 ≤ 9223372036854775807) (k3 : -9223372036854775808 ≤ x3 ∧ x3 ≤ 9223372036854775807) :
    ∀ (μ : Mu) (w : World) (args' : Array Value), HR G μ fl A w → fl ≤ A.next → VRa μ A [.int .i64 x1, .int .i64 x2, .int .i64 x3].toArray args' →
    Calls Tryd.prog 10 args' w fun e w' => ∃ u, e = .returned u ∧ ∃ ν, VR ν A (.bool true) u ∧ HR G ν fl A w' ∧ Trans fl μ A w ν A w' := by
  refine calls_of mixed Tryd.func10 Tryd.ntmps10 Tryd.results10 (by kernel_rfl) rfl (by kernel_rfl) (by simp) fun hA => ?_
  have hfl : fl ≤ A.next := by have := hA.floor; omega
  have hfl1 : fl ≤ A.next + 1 := by have := hA.floor; omega
  have hfl2 : fl ≤ A.next + 2 := by have := hA.floor; omega
  have hfl3 : fl ≤ A.next + 3 := by have := hA.floor; omega
  have hfl4 : fl ≤ A.next + 4 := by have := hA.floor; omega
  have hfl5 : fl ≤ A.next + 5 := by have := hA.floor; omega
  have hfl6 : fl ≤ A.next + 6 := by have := hA.floor; omega
  have hfl7 : fl ≤ A.next + 7 := by have := hA.floor; omega
  have hfl8 : fl ≤ A.next + 8 := by have := hA.floor; omega
  have hfl9 : fl ≤ A.next + 9 := by have := hA.floor; omega
  have hfl10 : fl ≤ A.next + 10 := by have := hA.floor; omega
  have hfl11 : fl ≤ A.next + 11 := by have := hA.floor; omega
  have bg := fun fl A => turnBegun_ok (G := G) (fl := fl) (A := A) hG
  have m1 := fun fl A => turned_ok (G := G) (fl := fl) (A := A) hG k1
  have m2 := fun fl A => turned_ok (G := G) (fl := fl) (A := A) hG k2
  have za := trn_rz x1
  have zb := trn_rz x2
  generalize trn x1 = a at *
  generalize trn x2 = b at *
  have b1 := fun fl A => below_ok (G := G) (fl := fl) (A := A) (x := x3) (n := 90) (by omega) (by omega) k3.1 k3.2
  have hbr := below_range (x := x3) (n := 90) (by omega)
  generalize below x3 90 = bl5 at *
  have w1 : IntKind.i64.wrap (1 + bl5) = 1 + bl5 := wrapI (by omega)
  have hpos : (0 : Rat) < ((1 + bl5 : Int) : Rat) / ((7 : Int) : Rat) := by
    have h1 : (0 : Rat) < ((1 + bl5 : Int) : Rat) := by exact_mod_cast (show 0 < 1 + bl5 by omega)
    have e : ((7 : Int) : Rat) = 7 := rfl
    rw [e]
    generalize ((1 + bl5 : Int) : Rat) = x at *
    have ht : x / 7 * 7 = x := by grind
    grind
  have nu := fun fl A => num_ok (G := G) (fl := fl) (A := A) (m := 1 + bl5) (n := 7) hG (by omega) (by omega) (by omega) (by omega) (by omega)
  have zr := num_rz (m := 1 + bl5) (n := 7) (by omega) (by omega) (by omega) (by omega) (by omega)
  generalize ((1 + bl5 : Int) : Rat) / ((7 : Int) : Rat) = r at *
  have ca := fun fl A => tcos_ok (G := G) (fl := fl) (A := A) hG za (by omega)
  have sa := fun fl A => tsin_ok (G := G) (fl := fl) (A := A) hG za (by omega)
  have cb := fun fl A => tcos_ok (G := G) (fl := fl) (A := A) hG zb (by omega)
  have sb := fun fl A => tsin_ok (G := G) (fl := fl) (A := A) hG zb (by omega)
  have q1 := fun fl A => qmul (G := G) (fl := fl) (A := A) hG zr (rz_cos za) (by omega)
  have q2 := fun fl A => qmul (G := G) (fl := fl) (A := A) hG zr (rz_sin za) (by omega)
  have tto := fun fl A => to_ok (G := G) (fl := fl) (A := A) hG zr hpos za (by omega)
  have c1 := fun fl A => tcmp_ok (G := G) (fl := fl) (A := A) hG za zb (by omega)
  have c2 := fun fl A => tcmp_ok (G := G) (fl := fl) (A := A) hG zb za (by omega)
  have g1 := fun fl A => qsign (G := G) (fl := fl) (A := A) hG (rz_sin za) (by omega)
  have g2 := fun fl A => qsign (G := G) (fl := fl) (A := A) hG (rz_sin zb) (by omega)
  have cc := fun fl A => qcmp (G := G) (fl := fl) (A := A) hG (rz_cos zb) (rz_cos za) (by omega)
  have hsw := tcmp_swap a b
  have hze := tcmp_zero a b
  have hbd := tcmp_bd a b
  have e1 := eqD_turn a a
  have e2 := eqD_turn a b
  rw [decide_eq_true rfl] at e1
  rw [hsw] at c2
  have w2 : IntKind.i64.wrap (0 - -tcmp a b) = tcmp a b := by rw [wrapI (by omega)]; omega
  have w3 : IntKind.i64.wrap (- -tcmp a b) = tcmp a b := by rw [wrapI (by omega)]; omega
  have hdz : decide (tcmp a b = 0) = decide (a = b) := by rw [decide_eq_decide, hze]
  have hs0 : ∀ z : Rat, rsign z ≤ 0 ↔ ¬ 0 < z := fun z => by
    rw [rsign_eq]
    by_cases h : z = 0
    · rw [if_pos h]; subst h; exact ⟨fun _ => Rat.lt_irrefl, fun _ => by omega⟩
    · rw [if_neg h]; split
      · exact ⟨fun _ => by grind, fun _ => by omega⟩
      · exact ⟨fun _ => by omega, fun _ => by grind⟩
  have last : 0 < tsin a → 0 < tsin b → rcmp (tcos b) (tcos a) = tcmp a b := by
    intro h1 h2
    cases a with
    | none => simp only [tsin, Option.getD] at h1; grind
    | some s => cases b with
      | none => simp only [tsin, Option.getD] at h2; grind
      | some t => exact cos_falls (sin_pos h1) (sin_pos h2)
  generalize tcos a = Ca at *
  generalize tsin a = Sa at *
  generalize tcos b = Cb at *
  generalize tsin b = Sb at *
  simp only [tnV_def, ratV_def, prV_def, Option.getD_some] at m1 m2 nu ca sa cb sb q1 q2 tto c1 c2 g1 g2 cc e1 e2
  have fin : ∀ (x : Bool) (C : Hp), Xt A.next A C → x = true → Ended A (.bool x) C (.bool true) A := fun x C hC hx => Ended.back hA hC (congrArg _ hx) (RB.bool _)
  simp only [↓R1, R2, R3, R4, TY, reduceIte, Nat.reduceEqDiff, Nat.reduceAdd, Nat.reduceMul, Nat.reduceLT, Nat.reduceLeDiff, reduceCtorEq, decide_true, decide_false, Int.reduceLE, Int.reduceLT, Int.reduceToNat, Int.reduceAdd, Int.reduceSub, Int.reduceMul, Int.reduceEq, hfl, hfl1, hfl2, hfl3, hfl4, hfl5, hfl6, NE, NE9, Nat.add_assoc, hfl7, hfl8, hfl9, hfl10, hfl11, w1, w2, w3, hdz, guard_turn, e1, e2, beq_self_eq_true, bne_self_eq_false, Bool.and_true, append_eq, List.cons_append, List.nil_append, ne_eq, not_true_eq_false, not_false_eq_true]
  refine call_of (bg _ _) ?_
  simp only [↓R1, R2, R3, R4, TY, reduceIte, Nat.reduceEqDiff, Nat.reduceAdd, Nat.reduceMul, Nat.reduceLT, Nat.reduceLeDiff, reduceCtorEq, decide_true, decide_false, Int.reduceLE, Int.reduceLT, Int.reduceToNat, Int.reduceAdd, Int.reduceSub, Int.reduceMul, Int.reduceEq, hfl, hfl1, hfl2, hfl3, hfl4, hfl5, hfl6, NE, NE9, Nat.add_assoc, hfl7, hfl8, hfl9, hfl10, hfl11, w1, w2, w3, hdz, guard_turn, e1, e2, beq_self_eq_true, bne_self_eq_false, Bool.and_true, append_eq, List.cons_append, List.nil_append, ne_eq, not_true_eq_false, not_false_eq_true]
  refine call_of (m1 _ _) ?_
  simp only [↓R1, R2, R3, R4, TY, reduceIte, Nat.reduceEqDiff, Nat.reduceAdd, Nat.reduceMul, Nat.reduceLT, Nat.reduceLeDiff, reduceCtorEq, decide_true, decide_false, Int.reduceLE, Int.reduceLT, Int.reduceToNat, Int.reduceAdd, Int.reduceSub, Int.reduceMul, Int.reduceEq, hfl, hfl1, hfl2, hfl3, hfl4, hfl5, hfl6, NE, NE9, Nat.add_assoc, hfl7, hfl8, hfl9, hfl10, hfl11, w1, w2, w3, hdz, guard_turn, e1, e2, beq_self_eq_true, bne_self_eq_false, Bool.and_true, append_eq, List.cons_append, List.nil_append, ne_eq, not_true_eq_false, not_false_eq_true]
  refine call_of (m2 _ _) ?_
  simp only [↓R1, R2, R3, R4, TY, reduceIte, Nat.reduceEqDiff, Nat.reduceAdd, Nat.reduceMul, Nat.reduceLT, Nat.reduceLeDiff, reduceCtorEq, decide_true, decide_false, Int.reduceLE, Int.reduceLT, Int.reduceToNat, Int.reduceAdd, Int.reduceSub, Int.reduceMul, Int.reduceEq, hfl, hfl1, hfl2, hfl3, hfl4, hfl5, hfl6, NE, NE9, Nat.add_assoc, hfl7, hfl8, hfl9, hfl10, hfl11, w1, w2, w3, hdz, guard_turn, e1, e2, beq_self_eq_true, bne_self_eq_false, Bool.and_true, append_eq, List.cons_append, List.nil_append, ne_eq, not_true_eq_false, not_false_eq_true]
  refine call_of (b1 _ _) ?_
  simp only [↓R1, R2, R3, R4, TY, reduceIte, Nat.reduceEqDiff, Nat.reduceAdd, Nat.reduceMul, Nat.reduceLT, Nat.reduceLeDiff, reduceCtorEq, decide_true, decide_false, Int.reduceLE, Int.reduceLT, Int.reduceToNat, Int.reduceAdd, Int.reduceSub, Int.reduceMul, Int.reduceEq, hfl, hfl1, hfl2, hfl3, hfl4, hfl5, hfl6, NE, NE9, Nat.add_assoc, hfl7, hfl8, hfl9, hfl10, hfl11, w1, w2, w3, hdz, guard_turn, e1, e2, beq_self_eq_true, bne_self_eq_false, Bool.and_true, append_eq, List.cons_append, List.nil_append, ne_eq, not_true_eq_false, not_false_eq_true]
  refine call_of (nu _ _) ?_
  simp only [↓R1, R2, R3, R4, TY, reduceIte, Nat.reduceEqDiff, Nat.reduceAdd, Nat.reduceMul, Nat.reduceLT, Nat.reduceLeDiff, reduceCtorEq, decide_true, decide_false, Int.reduceLE, Int.reduceLT, Int.reduceToNat, Int.reduceAdd, Int.reduceSub, Int.reduceMul, Int.reduceEq, hfl, hfl1, hfl2, hfl3, hfl4, hfl5, hfl6, NE, NE9, Nat.add_assoc, hfl7, hfl8, hfl9, hfl10, hfl11, w1, w2, w3, hdz, guard_turn, e1, e2, beq_self_eq_true, bne_self_eq_false, Bool.and_true, append_eq, List.cons_append, List.nil_append, ne_eq, not_true_eq_false, not_false_eq_true]
  refine call_of (ca _ _) ?_
  simp only [↓R1, R2, R3, R4, TY, reduceIte, Nat.reduceEqDiff, Nat.reduceAdd, Nat.reduceMul, Nat.reduceLT, Nat.reduceLeDiff, reduceCtorEq, decide_true, decide_false, Int.reduceLE, Int.reduceLT, Int.reduceToNat, Int.reduceAdd, Int.reduceSub, Int.reduceMul, Int.reduceEq, hfl, hfl1, hfl2, hfl3, hfl4, hfl5, hfl6, NE, NE9, Nat.add_assoc, hfl7, hfl8, hfl9, hfl10, hfl11, w1, w2, w3, hdz, guard_turn, e1, e2, beq_self_eq_true, bne_self_eq_false, Bool.and_true, append_eq, List.cons_append, List.nil_append, ne_eq, not_true_eq_false, not_false_eq_true]
  refine call_of (q1 _ _) ?_
  simp only [↓R1, R2, R3, R4, TY, reduceIte, Nat.reduceEqDiff, Nat.reduceAdd, Nat.reduceMul, Nat.reduceLT, Nat.reduceLeDiff, reduceCtorEq, decide_true, decide_false, Int.reduceLE, Int.reduceLT, Int.reduceToNat, Int.reduceAdd, Int.reduceSub, Int.reduceMul, Int.reduceEq, hfl, hfl1, hfl2, hfl3, hfl4, hfl5, hfl6, NE, NE9, Nat.add_assoc, hfl7, hfl8, hfl9, hfl10, hfl11, w1, w2, w3, hdz, guard_turn, e1, e2, beq_self_eq_true, bne_self_eq_false, Bool.and_true, append_eq, List.cons_append, List.nil_append, ne_eq, not_true_eq_false, not_false_eq_true]
  refine call_of (sa _ _) ?_
  simp only [↓R1, R2, R3, R4, TY, reduceIte, Nat.reduceEqDiff, Nat.reduceAdd, Nat.reduceMul, Nat.reduceLT, Nat.reduceLeDiff, reduceCtorEq, decide_true, decide_false, Int.reduceLE, Int.reduceLT, Int.reduceToNat, Int.reduceAdd, Int.reduceSub, Int.reduceMul, Int.reduceEq, hfl, hfl1, hfl2, hfl3, hfl4, hfl5, hfl6, NE, NE9, Nat.add_assoc, hfl7, hfl8, hfl9, hfl10, hfl11, w1, w2, w3, hdz, guard_turn, e1, e2, beq_self_eq_true, bne_self_eq_false, Bool.and_true, append_eq, List.cons_append, List.nil_append, ne_eq, not_true_eq_false, not_false_eq_true]
  refine call_of (q2 _ _) ?_
  simp only [↓R1, R2, R3, R4, TY, reduceIte, Nat.reduceEqDiff, Nat.reduceAdd, Nat.reduceMul, Nat.reduceLT, Nat.reduceLeDiff, reduceCtorEq, decide_true, decide_false, Int.reduceLE, Int.reduceLT, Int.reduceToNat, Int.reduceAdd, Int.reduceSub, Int.reduceMul, Int.reduceEq, hfl, hfl1, hfl2, hfl3, hfl4, hfl5, hfl6, NE, NE9, Nat.add_assoc, hfl7, hfl8, hfl9, hfl10, hfl11, w1, w2, w3, hdz, guard_turn, e1, e2, beq_self_eq_true, bne_self_eq_false, Bool.and_true, append_eq, List.cons_append, List.nil_append, ne_eq, not_true_eq_false, not_false_eq_true]
  refine call_of (tto _ _) ?_
  simp only [↓R1, R2, R3, R4, TY, reduceIte, Nat.reduceEqDiff, Nat.reduceAdd, Nat.reduceMul, Nat.reduceLT, Nat.reduceLeDiff, reduceCtorEq, decide_true, decide_false, Int.reduceLE, Int.reduceLT, Int.reduceToNat, Int.reduceAdd, Int.reduceSub, Int.reduceMul, Int.reduceEq, hfl, hfl1, hfl2, hfl3, hfl4, hfl5, hfl6, NE, NE9, Nat.add_assoc, hfl7, hfl8, hfl9, hfl10, hfl11, w1, w2, w3, hdz, guard_turn, e1, e2, beq_self_eq_true, bne_self_eq_false, Bool.and_true, append_eq, List.cons_append, List.nil_append, ne_eq, not_true_eq_false, not_false_eq_true]
  rw [floOf_wr (by kernel_rfl)]
  simp only [↓R1, R2, R3, R4, TY, reduceIte, Nat.reduceEqDiff, Nat.reduceAdd, Nat.reduceMul, Nat.reduceLT, Nat.reduceLeDiff, reduceCtorEq, decide_true, decide_false, Int.reduceLE, Int.reduceLT, Int.reduceToNat, Int.reduceAdd, Int.reduceSub, Int.reduceMul, Int.reduceEq, hfl, hfl1, hfl2, hfl3, hfl4, hfl5, hfl6, NE, NE9, Nat.add_assoc, hfl7, hfl8, hfl9, hfl10, hfl11, w1, w2, w3, hdz, guard_turn, e1, e2, beq_self_eq_true, bne_self_eq_false, Bool.and_true, append_eq, List.cons_append, List.nil_append, ne_eq, not_true_eq_false, not_false_eq_true]
  refine call_of (c1 _ _) ?_
  simp only [↓R1, R2, R3, R4, TY, reduceIte, Nat.reduceEqDiff, Nat.reduceAdd, Nat.reduceMul, Nat.reduceLT, Nat.reduceLeDiff, reduceCtorEq, decide_true, decide_false, Int.reduceLE, Int.reduceLT, Int.reduceToNat, Int.reduceAdd, Int.reduceSub, Int.reduceMul, Int.reduceEq, hfl, hfl1, hfl2, hfl3, hfl4, hfl5, hfl6, NE, NE9, Nat.add_assoc, hfl7, hfl8, hfl9, hfl10, hfl11, w1, w2, w3, hdz, guard_turn, e1, e2, beq_self_eq_true, bne_self_eq_false, Bool.and_true, append_eq, List.cons_append, List.nil_append, ne_eq, not_true_eq_false, not_false_eq_true]
  refine call_of (c2 _ _) ?_
  simp only [↓R1, R2, R3, R4, TY, reduceIte, Nat.reduceEqDiff, Nat.reduceAdd, Nat.reduceMul, Nat.reduceLT, Nat.reduceLeDiff, reduceCtorEq, decide_true, decide_false, Int.reduceLE, Int.reduceLT, Int.reduceToNat, Int.reduceAdd, Int.reduceSub, Int.reduceMul, Int.reduceEq, hfl, hfl1, hfl2, hfl3, hfl4, hfl5, hfl6, NE, NE9, Nat.add_assoc, hfl7, hfl8, hfl9, hfl10, hfl11, w1, w2, w3, hdz, guard_turn, e1, e2, beq_self_eq_true, bne_self_eq_false, Bool.and_true, append_eq, List.cons_append, List.nil_append, ne_eq, not_true_eq_false, not_false_eq_true]
  by_cases h1 : 0 < Sa
  · have y1 : (rsign Sa ≤ 0) = False := eq_false (by rw [hs0]; exact fun h => h h1)
    refine call_of (sa _ _) ?_
    simp only [↓R1, R2, R3, R4, TY, reduceIte, Nat.reduceEqDiff, Nat.reduceAdd, Nat.reduceMul, Nat.reduceLT, Nat.reduceLeDiff, reduceCtorEq, decide_true, decide_false, Int.reduceLE, Int.reduceLT, Int.reduceToNat, Int.reduceAdd, Int.reduceSub, Int.reduceMul, Int.reduceEq, hfl, hfl1, hfl2, hfl3, hfl4, hfl5, hfl6, NE, NE9, Nat.add_assoc, hfl7, hfl8, hfl9, hfl10, hfl11, w1, w2, w3, hdz, guard_turn, e1, e2, beq_self_eq_true, bne_self_eq_false, Bool.and_true, append_eq, List.cons_append, List.nil_append, ne_eq, not_true_eq_false, not_false_eq_true, y1]
    refine call_of (g1 _ _) ?_
    simp only [↓R1, R2, R3, R4, TY, reduceIte, Nat.reduceEqDiff, Nat.reduceAdd, Nat.reduceMul, Nat.reduceLT, Nat.reduceLeDiff, reduceCtorEq, decide_true, decide_false, Int.reduceLE, Int.reduceLT, Int.reduceToNat, Int.reduceAdd, Int.reduceSub, Int.reduceMul, Int.reduceEq, hfl, hfl1, hfl2, hfl3, hfl4, hfl5, hfl6, NE, NE9, Nat.add_assoc, hfl7, hfl8, hfl9, hfl10, hfl11, w1, w2, w3, hdz, guard_turn, e1, e2, beq_self_eq_true, bne_self_eq_false, Bool.and_true, append_eq, List.cons_append, List.nil_append, ne_eq, not_true_eq_false, not_false_eq_true, y1]
    refine call_of (sb _ _) ?_
    simp only [↓R1, R2, R3, R4, TY, reduceIte, Nat.reduceEqDiff, Nat.reduceAdd, Nat.reduceMul, Nat.reduceLT, Nat.reduceLeDiff, reduceCtorEq, decide_true, decide_false, Int.reduceLE, Int.reduceLT, Int.reduceToNat, Int.reduceAdd, Int.reduceSub, Int.reduceMul, Int.reduceEq, hfl, hfl1, hfl2, hfl3, hfl4, hfl5, hfl6, NE, NE9, Nat.add_assoc, hfl7, hfl8, hfl9, hfl10, hfl11, w1, w2, w3, hdz, guard_turn, e1, e2, beq_self_eq_true, bne_self_eq_false, Bool.and_true, append_eq, List.cons_append, List.nil_append, ne_eq, not_true_eq_false, not_false_eq_true, y1]
    by_cases h2 : 0 < Sb
    · have y2 : (rsign Sb ≤ 0) = False := eq_false (by rw [hs0]; exact fun h => h h2)
      rw [last h1 h2] at cc
      refine call_of (g2 _ _) ?_
      simp only [↓R1, R2, R3, R4, TY, reduceIte, Nat.reduceEqDiff, Nat.reduceAdd, Nat.reduceMul, Nat.reduceLT, Nat.reduceLeDiff, reduceCtorEq, decide_true, decide_false, Int.reduceLE, Int.reduceLT, Int.reduceToNat, Int.reduceAdd, Int.reduceSub, Int.reduceMul, Int.reduceEq, hfl, hfl1, hfl2, hfl3, hfl4, hfl5, hfl6, NE, NE9, Nat.add_assoc, hfl7, hfl8, hfl9, hfl10, hfl11, w1, w2, w3, hdz, guard_turn, e1, e2, beq_self_eq_true, bne_self_eq_false, Bool.and_true, append_eq, List.cons_append, List.nil_append, ne_eq, not_true_eq_false, not_false_eq_true, y1, y2]
      refine call_of (cb _ _) ?_
      simp only [↓R1, R2, R3, R4, TY, reduceIte, Nat.reduceEqDiff, Nat.reduceAdd, Nat.reduceMul, Nat.reduceLT, Nat.reduceLeDiff, reduceCtorEq, decide_true, decide_false, Int.reduceLE, Int.reduceLT, Int.reduceToNat, Int.reduceAdd, Int.reduceSub, Int.reduceMul, Int.reduceEq, hfl, hfl1, hfl2, hfl3, hfl4, hfl5, hfl6, NE, NE9, Nat.add_assoc, hfl7, hfl8, hfl9, hfl10, hfl11, w1, w2, w3, hdz, guard_turn, e1, e2, beq_self_eq_true, bne_self_eq_false, Bool.and_true, append_eq, List.cons_append, List.nil_append, ne_eq, not_true_eq_false, not_false_eq_true, y1, y2]
      refine call_of (ca _ _) ?_
      simp only [↓R1, R2, R3, R4, TY, reduceIte, Nat.reduceEqDiff, Nat.reduceAdd, Nat.reduceMul, Nat.reduceLT, Nat.reduceLeDiff, reduceCtorEq, decide_true, decide_false, Int.reduceLE, Int.reduceLT, Int.reduceToNat, Int.reduceAdd, Int.reduceSub, Int.reduceMul, Int.reduceEq, hfl, hfl1, hfl2, hfl3, hfl4, hfl5, hfl6, NE, NE9, Nat.add_assoc, hfl7, hfl8, hfl9, hfl10, hfl11, w1, w2, w3, hdz, guard_turn, e1, e2, beq_self_eq_true, bne_self_eq_false, Bool.and_true, append_eq, List.cons_append, List.nil_append, ne_eq, not_true_eq_false, not_false_eq_true, y1, y2]
      refine call_of (cc _ _) ?_
      simp only [↓R1, R2, R3, R4, TY, reduceIte, Nat.reduceEqDiff, Nat.reduceAdd, Nat.reduceMul, Nat.reduceLT, Nat.reduceLeDiff, reduceCtorEq, decide_true, decide_false, Int.reduceLE, Int.reduceLT, Int.reduceToNat, Int.reduceAdd, Int.reduceSub, Int.reduceMul, Int.reduceEq, hfl, hfl1, hfl2, hfl3, hfl4, hfl5, hfl6, NE, NE9, Nat.add_assoc, hfl7, hfl8, hfl9, hfl10, hfl11, w1, w2, w3, hdz, guard_turn, e1, e2, beq_self_eq_true, bne_self_eq_false, Bool.and_true, append_eq, List.cons_append, List.nil_append, ne_eq, not_true_eq_false, not_false_eq_true, y1, y2]
      refine fin _ _ ?_ (by simp)
      simp (maxDischargeDepth := 20) only [xt_push, xt_put, xt_refl, Nat.le_refl, Nat.le_add_right, Nat.add_assoc, Nat.reduceAdd]
    · have y2 : (rsign Sb ≤ 0) = True := eq_true (by rw [hs0]; exact h2)
      refine call_of (g2 _ _) ?_
      simp only [↓R1, R2, R3, R4, TY, reduceIte, Nat.reduceEqDiff, Nat.reduceAdd, Nat.reduceMul, Nat.reduceLT, Nat.reduceLeDiff, reduceCtorEq, decide_true, decide_false, Int.reduceLE, Int.reduceLT, Int.reduceToNat, Int.reduceAdd, Int.reduceSub, Int.reduceMul, Int.reduceEq, hfl, hfl1, hfl2, hfl3, hfl4, hfl5, hfl6, NE, NE9, Nat.add_assoc, hfl7, hfl8, hfl9, hfl10, hfl11, w1, w2, w3, hdz, guard_turn, e1, e2, beq_self_eq_true, bne_self_eq_false, Bool.and_true, append_eq, List.cons_append, List.nil_append, ne_eq, not_true_eq_false, not_false_eq_true, y1, y2]
      refine fin _ _ ?_ rfl
      simp (maxDischargeDepth := 20) only [xt_push, xt_put, xt_refl, Nat.le_refl, Nat.le_add_right, Nat.add_assoc, Nat.reduceAdd]
  · have y1 : (rsign Sa ≤ 0) = True := eq_true (by rw [hs0]; exact h1)
    refine call_of (sa _ _) ?_
    simp only [↓R1, R2, R3, R4, TY, reduceIte, Nat.reduceEqDiff, Nat.reduceAdd, Nat.reduceMul, Nat.reduceLT, Nat.reduceLeDiff, reduceCtorEq, decide_true, decide_false, Int.reduceLE, Int.reduceLT, Int.reduceToNat, Int.reduceAdd, Int.reduceSub, Int.reduceMul, Int.reduceEq, hfl, hfl1, hfl2, hfl3, hfl4, hfl5, hfl6, NE, NE9, Nat.add_assoc, hfl7, hfl8, hfl9, hfl10, hfl11, w1, w2, w3, hdz, guard_turn, e1, e2, beq_self_eq_true, bne_self_eq_false, Bool.and_true, append_eq, List.cons_append, List.nil_append, ne_eq, not_true_eq_false, not_false_eq_true, y1]
    refine call_of (g1 _ _) ?_
    simp only [↓R1, R2, R3, R4, TY, reduceIte, Nat.reduceEqDiff, Nat.reduceAdd, Nat.reduceMul, Nat.reduceLT, Nat.reduceLeDiff, reduceCtorEq, decide_true, decide_false, Int.reduceLE, Int.reduceLT, Int.reduceToNat, Int.reduceAdd, Int.reduceSub, Int.reduceMul, Int.reduceEq, hfl, hfl1, hfl2, hfl3, hfl4, hfl5, hfl6, NE, NE9, Nat.add_assoc, hfl7, hfl8, hfl9, hfl10, hfl11, w1, w2, w3, hdz, guard_turn, e1, e2, beq_self_eq_true, bne_self_eq_false, Bool.and_true, append_eq, List.cons_append, List.nil_append, ne_eq, not_true_eq_false, not_false_eq_true, y1]
    refine fin _ _ ?_ rfl
    simp (maxDischargeDepth := 20) only [xt_push, xt_put, xt_refl, Nat.le_refl, Nat.le_add_right, Nat.add_assoc, Nat.reduceAdd]
end
end Go.Proofs.YtincjhklpgfkgaaDoor.Ab
