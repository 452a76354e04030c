/- The cosine and the sine of every joint value of a span are in the spans of cosines and sines. -/
import Derived.Test.YtincjhklpgfkgaaDoorVq
namespace Go.Proofs.YtincjhklpgfkgaaDoor.Ab
open Go.RowKit
set_option linter.unusedVariables false
set_option linter.unusedSimpArgs false
set_option maxRecDepth 100000

theorem csq_anti {x y : Rat} (h0 : 0 ≤ x) (h : x ≤ y) : csq y ≤ csq x := by
  have hx : 0 < (1 + x)⁻¹ := Rat.inv_pos.2 (by grind)
  have hy : 0 < (1 + y)⁻¹ := Rat.inv_pos.2 (by grind)
  have h1 : 0 ≤ (y - x) * ((1 + x)⁻¹ * (1 + y)⁻¹) := Rat.mul_nonneg (by grind) (Rat.le_of_lt (Rat.mul_pos hx hy))
  have n1 : 1 + x ≠ 0 := by grind
  have n2 : 1 + y ≠ 0 := by grind
  have e : csq x - csq y = 2 * ((y - x) * ((1 + x)⁻¹ * (1 + y)⁻¹)) := by unfold csq; grind
  grind
theorem csq_in {x : Rat} (h0 : 0 ≤ x) : -1 ≤ csq x ∧ csq x ≤ 1 := by
  have h1 := csq_anti (x := 0) (y := x) Rat.le_refl h0
  have e0 : csq 0 = 1 := by unfold csq; grind
  have hx : 0 < (1 + x)⁻¹ := Rat.inv_pos.2 (by grind)
  have n1 : 1 + x ≠ 0 := by grind
  have e : csq x + 1 = 2 * (1 + x)⁻¹ := by unfold csq; grind
  constructor <;> grind
theorem sin_le {p q : Rat} (h : 0 ≤ (p - q) * (1 - p * q)) : tsin (some q) ≤ tsin (some p) := by
  have hp : 0 < (1 + p * p)⁻¹ := Rat.inv_pos.2 (by have := sq_nn p; grind)
  have hq : 0 < (1 + q * q)⁻¹ := Rat.inv_pos.2 (by have := sq_nn q; grind)
  have n1 := one_sq p
  have n2 := one_sq q
  have h1 : 0 ≤ ((p - q) * (1 - p * q)) * ((1 + p * p)⁻¹ * (1 + q * q)⁻¹) := Rat.mul_nonneg h (Rat.le_of_lt (Rat.mul_pos hp hq))
  have e : tsin (some p) - tsin (some q) = 2 * (((p - q) * (1 - p * q)) * ((1 + p * p)⁻¹ * (1 + q * q)⁻¹)) := by
    simp only [tsin, Option.getD]; grind
  grind
theorem sin_in (x : Rat) : -1 ≤ tsin (some x) ∧ tsin (some x) ≤ 1 := by
  have h1 := sin_le (p := 1) (q := x) (by have := sq_nn (1 - x); grind)
  have h2 := sin_le (p := x) (q := -1) (by have := sq_nn (1 + x); grind)
  have e1 : tsin (some 1) = 1 := by simp only [tsin, Option.getD]; grind
  have e2 : tsin (some (-1)) = -1 := by simp only [tsin, Option.getD]; grind
  rw [e1] at h1
  rw [e2] at h2
  exact ⟨h2, h1⟩
theorem sin_neg (x : Rat) : tsin (some (-x)) = -tsin (some x) := by
  have := one_sq x
  simp only [tsin, Option.getD]; grind
theorem sin_top {a b q : Rat} (h1 : a ≤ q) (h2 : q ≤ b) : tsin (some q) ≤ tsin (some a) ∨ tsin (some q) ≤ tsin (some b) ∨ (a ≤ 1 ∧ 1 ≤ b) := by
  by_cases ha : a ≤ 1
  · by_cases hb : 1 ≤ b
    · exact .inr (.inr ⟨ha, hb⟩)
    · by_cases hbq : b * q ≤ 1
      · exact .inr (.inl (sin_le (Rat.mul_nonneg (by grind) (by grind))))
      · refine .inl (sin_le ?_)
        by_cases hq : 0 ≤ q
        · have := Rat.mul_nonneg (a := 1 - b) (b := q) (by grind) hq
          grind
        · have h3 := Rat.mul_nonneg (a := b - a) (b := -q) (by grind) (by grind)
          have h4 := Rat.mul_nonneg (a := q - a) (b := a * q - 1) (by grind) (by grind)
          grind
  · refine .inl (sin_le ?_)
    have h3 := Rat.mul_nonneg (a := a - 1) (b := q - 1) (by grind) (by grind)
    have h4 := Rat.mul_nonneg (a := q - a) (b := a * q - 1) (by grind) (by grind)
    grind
theorem sin_bot {a b q : Rat} (h1 : a ≤ q) (h2 : q ≤ b) : tsin (some a) ≤ tsin (some q) ∨ tsin (some b) ≤ tsin (some q) ∨ (a ≤ -1 ∧ -1 ≤ b) := by
  have := sin_top (a := -b) (b := -a) (q := -q) (by grind) (by grind)
  rw [sin_neg, sin_neg, sin_neg] at this
  rcases this with h | h | h
  · exact .inr (.inl (by grind))
  · exact .inl (by grind)
  · exact .inr (.inr (by grind))

theorem sin_span {a b q : Rat} (h1 : a ≤ q) (h2 : q ≤ b) : snl a b 2 ≤ tsin (some q) ∧ tsin (some q) ≤ snh a b 2 := by
  have ht := sin_top h1 h2
  have hb := sin_bot h1 h2
  have hi := sin_in q
  have ha := sin_in a
  have hb2 := sin_in b
  simp only [snl, snh, jlo, jhi, rmin_def, rmax_def, show (2 : Nat) ≠ 0 from by omega, show (2 : Nat) ≠ 1 from by omega, if_false]
  generalize tsin (some a) = fa at *
  generalize tsin (some b) = fb at *
  generalize tsin (some q) = fq at *
  constructor <;> grind
theorem sin_ends (a b : Rat) : -1 ≤ snl a b 2 ∧ snh a b 2 ≤ 1 := by
  have ha := sin_in a
  have hb2 := sin_in b
  simp only [snl, snh, jlo, jhi, rmin_def, rmax_def, show (2 : Nat) ≠ 0 from by omega, show (2 : Nat) ≠ 1 from by omega, if_false]
  generalize tsin (some a) = fa at *
  generalize tsin (some b) = fb at *
  constructor <;> grind
theorem sq_ends (a b : Rat) : 0 ≤ sqlo a b ∧ 0 ≤ sqhi a b := by
  have ha := sq_nn a
  have hb := sq_nn b
  simp only [sqlo, sqhi, rmin_def, rmax_def]
  constructor <;> grind

section
variable {G : Gl} {fl : Nat} {A : Hp}

theorem has_true {a b c : Rat} {j k : Nat} (hG : G 2 = some tabV) (h : Sp a b j) (hc : Rz c k) (hk : j + k ≤ 100000) (h1 : a ≤ c ∧ c ≤ b) : Sound Tryd.prog G 16 [prV a b, ratV c] fl A (.bool true) A := by
  have := shas (G := G) (fl := fl) (A := A) hG h hc hk
  rwa [decide_eq_true h1] at this

set_option maxHeartbeats 16000000 in
theorem turnHolds_calls {x1 x2 x3 : Int} (hG : G 2 = some tabV) (k1 : -9223372036854775808 ≤ x1 ∧ x1 ≤ 9223372036854775807) (k2 : -9223372036854775808 ≤ x2 ∧ x2 ≤ 9223372036854775807) (k3 : -9223372036854775808 ≤ x3 ∧ x3 ≤ 9223372036854775807) :
    ∀ (μ : Mu) (w : World) (args' : Array Value), HR G μ fl A w → fl ≤ A.next → VRa μ A [.int .i64 x1, .int .i64 x2, .int .i64 x3].toArray args' →
    Calls Tryd.prog 9 args' w fun e w' => ∃ u, e = .returned u ∧ ∃ ν, VR ν A (.bool true) u ∧ HR G ν fl A w' ∧ Trans fl μ A w ν A w' := by
  refine calls_of mixed Tryd.func9 Tryd.ntmps9 Tryd.results9 (by kernel_rfl) rfl (by kernel_rfl) (by simp) fun hA => ?_
  have hfl : fl ≤ A.next := by have := hA.floor; omega
  have hfl1 : fl ≤ A.next + 1 := by have := hA.floor; omega
  have hfl2 : fl ≤ A.next + 2 := by have := hA.floor; omega
  have hfl3 : fl ≤ A.next + 3 := by have := hA.floor; omega
  have hfl4 : fl ≤ A.next + 4 := by have := hA.floor; omega
  have hfl5 : fl ≤ A.next + 5 := by have := hA.floor; omega
  have hfl6 : fl ≤ A.next + 6 := by have := hA.floor; omega
  have hfl7 : fl ≤ A.next + 7 := by have := hA.floor; omega
  have hfl8 : fl ≤ A.next + 8 := by have := hA.floor; omega
  have hfl9 : fl ≤ A.next + 9 := by have := hA.floor; omega
  have hfl10 : fl ≤ A.next + 10 := by have := hA.floor; omega
  have hfl11 : fl ≤ A.next + 11 := by have := hA.floor; omega
  have bg := fun fl A => turnBegun_ok (G := G) (fl := fl) (A := A) hG
  have bg2 := fun fl A => spanBegun_ok (G := G) (fl := fl) (A := A) hG
  have m1 := fun fl A => made_span (G := G) (fl := fl) (A := A) hG k1 k2
  have hs := made_sp x1 x2
  generalize rmin (mrat x1) (mrat x2) = a at *
  generalize rmax (mrat x1) (mrat x2) = b at *
  have hab := hs.le
  have ip := prt_in hab x3
  have zp := prt_rz hs.low hs.high x3
  have p1 := fun fl A => part_ok (G := G) (fl := fl) (A := A) hG hs.low hs.high k3 (by omega)
  generalize prt a b x3 = q at *
  have h0 := sq_ends a b
  have hq := sq_in ip.1 ip.2
  have hsq := sq_nn q
  have cc1 := csq_anti hsq hq.2
  have cc2 := csq_anti h0.1 hq.1
  have cl := (csq_in h0.2).1
  have cu := (csq_in h0.1).2
  have ss := sin_span ip.1 ip.2
  have se := sin_ends a b
  have t1 := fun fl A => tof (G := G) (fl := fl) (A := A) hG zp (by omega)
  have cs := fun fl A => coss (G := G) (fl := fl) (A := A) hG hs h0.1 h0.2 (by omega)
  have si := fun fl A => sins (G := G) (fl := fl) (A := A) hG hs (by omega)
  have hc : Sp (csq (sqhi a b)) (csq (sqlo a b)) 8 := ⟨rz_csq hs.sq.high (one_nn h0.2), rz_csq hs.sq.low (one_nn h0.1), Rat.le_trans cc1 cc2⟩
  have hsn := snl_sp hs 2
  have tc := fun fl A => tcos_some (G := G) (fl := fl) (A := A) hG zp (by omega)
  have ts := fun fl A => tsin_some (G := G) (fl := fl) (A := A) hG zp (by omega)
  have zc := rz_cos (o := some q) zp
  have zs := rz_sin (o := some q) zp
  have hc1 := fun fl A => has_true (G := G) (fl := fl) (A := A) hG hc zc (by omega) ⟨cc1, cc2⟩
  have hs1 := fun fl A => has_true (G := G) (fl := fl) (A := A) hG hsn zs (by omega) ss
  have j1 := fun fl A => sjoin (G := G) (fl := fl) (A := A) hG hc hsn (by omega)
  have j2 := fun fl A => sjoin (G := G) (fl := fl) (A := A) (c := -1) (d := 1) hG (hc.join hsn) ⟨rz_neg1, rz_one, by decide +kernel⟩ (by omega)
  have g1 := fun fl A => sgood (G := G) (fl := fl) (A := A) hG hc.low hc.high (by omega)
  have g2 := fun fl A => sgood (G := G) (fl := fl) (A := A) hG hsn.low hsn.high (by omega)
  have zn := fun fl A => rof_ok (G := G) (fl := fl) (A := A) (n := -1) (by decide) (by decide)
  have z1 := fun fl A => rof_ok (G := G) (fl := fl) (A := A) (n := 1) (by decide) (by decide)
  have f1 : rmin (rmin (csq (sqhi a b)) (snl a b 2)) (-1) = -1 := by rw [rmin_def, rmin_def]; grind
  have f2 : rmax (rmax (csq (sqlo a b)) (snh a b 2)) 1 = 1 := by rw [rmax_def, rmax_def]; grind
  rw [f1, f2] at j2
  rw [decide_eq_true hc.le] at g1
  rw [decide_eq_true hsn.le] at g2
  have e1 := eqD_span (-1) 1 (-1) 1
  simp only [decide_true, Bool.and_self] at e1
  rw [rOf_neg1] at zn
  rw [rOf_one] at z1
  generalize csq (sqhi a b) = u1 at *
  generalize csq (sqlo a b) = u2 at *
  generalize snl a b 2 = u3 at *
  generalize snh a b 2 = u4 at *
  simp only [tnV_def, ratV_def, prV_def, Option.getD_some] at m1 p1 t1 cs si tc ts hc1 hs1 j1 j2 g1 g2 zn z1 e1
  have fin : ∀ (x : Bool) (C : Hp), Xt A.next A C → x = true → Ended A (.bool x) C (.bool true) A := fun x C hC hx => Ended.back hA hC (congrArg _ hx) (RB.bool _)
  simp only [↓R1, R2, R3, R4, TY, reduceIte, Nat.reduceEqDiff, Nat.reduceAdd, Nat.reduceMul, Nat.reduceLT, Nat.reduceLeDiff, reduceCtorEq, decide_true, decide_false, Int.reduceLE, Int.reduceLT, Int.reduceToNat, Int.reduceAdd, Int.reduceSub, Int.reduceMul, Int.reduceEq, hfl, hfl1, hfl2, hfl3, hfl4, hfl5, hfl6, NE, NE9, Nat.add_assoc, hfl7, hfl8, hfl9, hfl10, hfl11, guard_span, e1, beq_self_eq_true, Bool.and_true, append_eq, List.cons_append, List.nil_append]
  refine call_of (bg _ _) ?_
  simp only [↓R1, R2, R3, R4, TY, reduceIte, Nat.reduceEqDiff, Nat.reduceAdd, Nat.reduceMul, Nat.reduceLT, Nat.reduceLeDiff, reduceCtorEq, decide_true, decide_false, Int.reduceLE, Int.reduceLT, Int.reduceToNat, Int.reduceAdd, Int.reduceSub, Int.reduceMul, Int.reduceEq, hfl, hfl1, hfl2, hfl3, hfl4, hfl5, hfl6, NE, NE9, Nat.add_assoc, hfl7, hfl8, hfl9, hfl10, hfl11, guard_span, e1, beq_self_eq_true, Bool.and_true, append_eq, List.cons_append, List.nil_append]
  refine call_of (bg2 _ _) ?_
  simp only [↓R1, R2, R3, R4, TY, reduceIte, Nat.reduceEqDiff, Nat.reduceAdd, Nat.reduceMul, Nat.reduceLT, Nat.reduceLeDiff, reduceCtorEq, decide_true, decide_false, Int.reduceLE, Int.reduceLT, Int.reduceToNat, Int.reduceAdd, Int.reduceSub, Int.reduceMul, Int.reduceEq, hfl, hfl1, hfl2, hfl3, hfl4, hfl5, hfl6, NE, NE9, Nat.add_assoc, hfl7, hfl8, hfl9, hfl10, hfl11, guard_span, e1, beq_self_eq_true, Bool.and_true, append_eq, List.cons_append, List.nil_append]
  refine call_of (m1 _ _) ?_
  simp only [↓R1, R2, R3, R4, TY, reduceIte, Nat.reduceEqDiff, Nat.reduceAdd, Nat.reduceMul, Nat.reduceLT, Nat.reduceLeDiff, reduceCtorEq, decide_true, decide_false, Int.reduceLE, Int.reduceLT, Int.reduceToNat, Int.reduceAdd, Int.reduceSub, Int.reduceMul, Int.reduceEq, hfl, hfl1, hfl2, hfl3, hfl4, hfl5, hfl6, NE, NE9, Nat.add_assoc, hfl7, hfl8, hfl9, hfl10, hfl11, guard_span, e1, beq_self_eq_true, Bool.and_true, append_eq, List.cons_append, List.nil_append]
  refine call_of (p1 _ _) ?_
  simp only [↓R1, R2, R3, R4, TY, reduceIte, Nat.reduceEqDiff, Nat.reduceAdd, Nat.reduceMul, Nat.reduceLT, Nat.reduceLeDiff, reduceCtorEq, decide_true, decide_false, Int.reduceLE, Int.reduceLT, Int.reduceToNat, Int.reduceAdd, Int.reduceSub, Int.reduceMul, Int.reduceEq, hfl, hfl1, hfl2, hfl3, hfl4, hfl5, hfl6, NE, NE9, Nat.add_assoc, hfl7, hfl8, hfl9, hfl10, hfl11, guard_span, e1, beq_self_eq_true, Bool.and_true, append_eq, List.cons_append, List.nil_append]
  refine call_of (t1 _ _) ?_
  simp only [↓R1, R2, R3, R4, TY, reduceIte, Nat.reduceEqDiff, Nat.reduceAdd, Nat.reduceMul, Nat.reduceLT, Nat.reduceLeDiff, reduceCtorEq, decide_true, decide_false, Int.reduceLE, Int.reduceLT, Int.reduceToNat, Int.reduceAdd, Int.reduceSub, Int.reduceMul, Int.reduceEq, hfl, hfl1, hfl2, hfl3, hfl4, hfl5, hfl6, NE, NE9, Nat.add_assoc, hfl7, hfl8, hfl9, hfl10, hfl11, guard_span, e1, beq_self_eq_true, Bool.and_true, append_eq, List.cons_append, List.nil_append]
  refine call_of (cs _ _) ?_
  simp only [↓R1, R2, R3, R4, TY, reduceIte, Nat.reduceEqDiff, Nat.reduceAdd, Nat.reduceMul, Nat.reduceLT, Nat.reduceLeDiff, reduceCtorEq, decide_true, decide_false, Int.reduceLE, Int.reduceLT, Int.reduceToNat, Int.reduceAdd, Int.reduceSub, Int.reduceMul, Int.reduceEq, hfl, hfl1, hfl2, hfl3, hfl4, hfl5, hfl6, NE, NE9, Nat.add_assoc, hfl7, hfl8, hfl9, hfl10, hfl11, guard_span, e1, beq_self_eq_true, Bool.and_true, append_eq, List.cons_append, List.nil_append]
  refine call_of (si _ _) ?_
  simp only [↓R1, R2, R3, R4, TY, reduceIte, Nat.reduceEqDiff, Nat.reduceAdd, Nat.reduceMul, Nat.reduceLT, Nat.reduceLeDiff, reduceCtorEq, decide_true, decide_false, Int.reduceLE, Int.reduceLT, Int.reduceToNat, Int.reduceAdd, Int.reduceSub, Int.reduceMul, Int.reduceEq, hfl, hfl1, hfl2, hfl3, hfl4, hfl5, hfl6, NE, NE9, Nat.add_assoc, hfl7, hfl8, hfl9, hfl10, hfl11, guard_span, e1, beq_self_eq_true, Bool.and_true, append_eq, List.cons_append, List.nil_append]
  rw [floOf_wr (by kernel_rfl)]
  simp only [↓R1, R2, R3, R4, TY, reduceIte, Nat.reduceEqDiff, Nat.reduceAdd, Nat.reduceMul, Nat.reduceLT, Nat.reduceLeDiff, reduceCtorEq, decide_true, decide_false, Int.reduceLE, Int.reduceLT, Int.reduceToNat, Int.reduceAdd, Int.reduceSub, Int.reduceMul, Int.reduceEq, hfl, hfl1, hfl2, hfl3, hfl4, hfl5, hfl6, NE, NE9, Nat.add_assoc, hfl7, hfl8, hfl9, hfl10, hfl11, guard_span, e1, beq_self_eq_true, Bool.and_true, append_eq, List.cons_append, List.nil_append]
  rw [floOf_wr (by kernel_rfl)]
  simp only [↓R1, R2, R3, R4, TY, reduceIte, Nat.reduceEqDiff, Nat.reduceAdd, Nat.reduceMul, Nat.reduceLT, Nat.reduceLeDiff, reduceCtorEq, decide_true, decide_false, Int.reduceLE, Int.reduceLT, Int.reduceToNat, Int.reduceAdd, Int.reduceSub, Int.reduceMul, Int.reduceEq, hfl, hfl1, hfl2, hfl3, hfl4, hfl5, hfl6, NE, NE9, Nat.add_assoc, hfl7, hfl8, hfl9, hfl10, hfl11, guard_span, e1, beq_self_eq_true, Bool.and_true, append_eq, List.cons_append, List.nil_append]
  refine call_of (zn _ _) ?_
  simp only [↓R1, R2, R3, R4, TY, reduceIte, Nat.reduceEqDiff, Nat.reduceAdd, Nat.reduceMul, Nat.reduceLT, Nat.reduceLeDiff, reduceCtorEq, decide_true, decide_false, Int.reduceLE, Int.reduceLT, Int.reduceToNat, Int.reduceAdd, Int.reduceSub, Int.reduceMul, Int.reduceEq, hfl, hfl1, hfl2, hfl3, hfl4, hfl5, hfl6, NE, NE9, Nat.add_assoc, hfl7, hfl8, hfl9, hfl10, hfl11, guard_span, e1, beq_self_eq_true, Bool.and_true, append_eq, List.cons_append, List.nil_append]
  refine call_of (z1 _ _) ?_
  simp only [↓R1, R2, R3, R4, TY, reduceIte, Nat.reduceEqDiff, Nat.reduceAdd, Nat.reduceMul, Nat.reduceLT, Nat.reduceLeDiff, reduceCtorEq, decide_true, decide_false, Int.reduceLE, Int.reduceLT, Int.reduceToNat, Int.reduceAdd, Int.reduceSub, Int.reduceMul, Int.reduceEq, hfl, hfl1, hfl2, hfl3, hfl4, hfl5, hfl6, NE, NE9, Nat.add_assoc, hfl7, hfl8, hfl9, hfl10, hfl11, guard_span, e1, beq_self_eq_true, Bool.and_true, append_eq, List.cons_append, List.nil_append]
  refine call_of (tc _ _) ?_
  simp only [↓R1, R2, R3, R4, TY, reduceIte, Nat.reduceEqDiff, Nat.reduceAdd, Nat.reduceMul, Nat.reduceLT, Nat.reduceLeDiff, reduceCtorEq, decide_true, decide_false, Int.reduceLE, Int.reduceLT, Int.reduceToNat, Int.reduceAdd, Int.reduceSub, Int.reduceMul, Int.reduceEq, hfl, hfl1, hfl2, hfl3, hfl4, hfl5, hfl6, NE, NE9, Nat.add_assoc, hfl7, hfl8, hfl9, hfl10, hfl11, guard_span, e1, beq_self_eq_true, Bool.and_true, append_eq, List.cons_append, List.nil_append]
  refine call_of (hc1 _ _) ?_
  simp only [↓R1, R2, R3, R4, TY, reduceIte, Nat.reduceEqDiff, Nat.reduceAdd, Nat.reduceMul, Nat.reduceLT, Nat.reduceLeDiff, reduceCtorEq, decide_true, decide_false, Int.reduceLE, Int.reduceLT, Int.reduceToNat, Int.reduceAdd, Int.reduceSub, Int.reduceMul, Int.reduceEq, hfl, hfl1, hfl2, hfl3, hfl4, hfl5, hfl6, NE, NE9, Nat.add_assoc, hfl7, hfl8, hfl9, hfl10, hfl11, guard_span, e1, beq_self_eq_true, Bool.and_true, append_eq, List.cons_append, List.nil_append]
  refine call_of (ts _ _) ?_
  simp only [↓R1, R2, R3, R4, TY, reduceIte, Nat.reduceEqDiff, Nat.reduceAdd, Nat.reduceMul, Nat.reduceLT, Nat.reduceLeDiff, reduceCtorEq, decide_true, decide_false, Int.reduceLE, Int.reduceLT, Int.reduceToNat, Int.reduceAdd, Int.reduceSub, Int.reduceMul, Int.reduceEq, hfl, hfl1, hfl2, hfl3, hfl4, hfl5, hfl6, NE, NE9, Nat.add_assoc, hfl7, hfl8, hfl9, hfl10, hfl11, guard_span, e1, beq_self_eq_true, Bool.and_true, append_eq, List.cons_append, List.nil_append]
  refine call_of (hs1 _ _) ?_
  simp only [↓R1, R2, R3, R4, TY, reduceIte, Nat.reduceEqDiff, Nat.reduceAdd, Nat.reduceMul, Nat.reduceLT, Nat.reduceLeDiff, reduceCtorEq, decide_true, decide_false, Int.reduceLE, Int.reduceLT, Int.reduceToNat, Int.reduceAdd, Int.reduceSub, Int.reduceMul, Int.reduceEq, hfl, hfl1, hfl2, hfl3, hfl4, hfl5, hfl6, NE, NE9, Nat.add_assoc, hfl7, hfl8, hfl9, hfl10, hfl11, guard_span, e1, beq_self_eq_true, Bool.and_true, append_eq, List.cons_append, List.nil_append]
  refine call_of (j1 _ _) ?_
  simp only [↓R1, R2, R3, R4, TY, reduceIte, Nat.reduceEqDiff, Nat.reduceAdd, Nat.reduceMul, Nat.reduceLT, Nat.reduceLeDiff, reduceCtorEq, decide_true, decide_false, Int.reduceLE, Int.reduceLT, Int.reduceToNat, Int.reduceAdd, Int.reduceSub, Int.reduceMul, Int.reduceEq, hfl, hfl1, hfl2, hfl3, hfl4, hfl5, hfl6, NE, NE9, Nat.add_assoc, hfl7, hfl8, hfl9, hfl10, hfl11, guard_span, e1, beq_self_eq_true, Bool.and_true, append_eq, List.cons_append, List.nil_append]
  refine call_of (j2 _ _) ?_
  simp only [↓R1, R2, R3, R4, TY, reduceIte, Nat.reduceEqDiff, Nat.reduceAdd, Nat.reduceMul, Nat.reduceLT, Nat.reduceLeDiff, reduceCtorEq, decide_true, decide_false, Int.reduceLE, Int.reduceLT, Int.reduceToNat, Int.reduceAdd, Int.reduceSub, Int.reduceMul, Int.reduceEq, hfl, hfl1, hfl2, hfl3, hfl4, hfl5, hfl6, NE, NE9, Nat.add_assoc, hfl7, hfl8, hfl9, hfl10, hfl11, guard_span, e1, beq_self_eq_true, Bool.and_true, append_eq, List.cons_append, List.nil_append]
  refine call_of (g1 _ _) ?_
  simp only [↓R1, R2, R3, R4, TY, reduceIte, Nat.reduceEqDiff, Nat.reduceAdd, Nat.reduceMul, Nat.reduceLT, Nat.reduceLeDiff, reduceCtorEq, decide_true, decide_false, Int.reduceLE, Int.reduceLT, Int.reduceToNat, Int.reduceAdd, Int.reduceSub, Int.reduceMul, Int.reduceEq, hfl, hfl1, hfl2, hfl3, hfl4, hfl5, hfl6, NE, NE9, Nat.add_assoc, hfl7, hfl8, hfl9, hfl10, hfl11, guard_span, e1, beq_self_eq_true, Bool.and_true, append_eq, List.cons_append, List.nil_append]
  refine call_of (g2 _ _) ?_
  simp only [↓R1, R2, R3, R4, TY, reduceIte, Nat.reduceEqDiff, Nat.reduceAdd, Nat.reduceMul, Nat.reduceLT, Nat.reduceLeDiff, reduceCtorEq, decide_true, decide_false, Int.reduceLE, Int.reduceLT, Int.reduceToNat, Int.reduceAdd, Int.reduceSub, Int.reduceMul, Int.reduceEq, hfl, hfl1, hfl2, hfl3, hfl4, hfl5, hfl6, NE, NE9, Nat.add_assoc, hfl7, hfl8, hfl9, hfl10, hfl11, guard_span, e1, beq_self_eq_true, Bool.and_true, append_eq, List.cons_append, List.nil_append]
  refine fin _ _ ?_ rfl
  simp (maxDischargeDepth := 20) only [xt_push, xt_put, xt_refl, Nat.le_refl, Nat.le_add_right, Nat.add_assoc, Nat.reduceAdd]
end
end Go.Proofs.YtincjhklpgfkgaaDoor.Ab
