/- Turns form a group. -/
import Derived.Test.YtincjhklpgfkgaaDoorVd
namespace Go.Proofs.YtincjhklpgfkgaaDoor.Ab
open Go.RowKit
set_option linter.unusedVariables false
set_option linter.unusedSimpArgs false
set_option maxRecDepth 100000

theorem tnV_def (o : Option Rat) : tnV o = .agg #[.bool o.isNone, .bool (decide ((o.getD 0).num < 0)), .string (S (nb (o.getD 0).num.natAbs)), .string (S (nb (o.getD 0).den))] := rfl
theorem tthen_comm (a b : Option Rat) : tthen a b = tthen b a := by
  cases a <;> cases b <;> simp only [tthen] 
  rename_i x y
  rw [Rat.mul_comm x y, Rat.add_comm x y]
theorem tthen_zero (a : Option Rat) : tthen a (some 0) = a := by
  cases a with
  | none => simp [tthen, topp]
  | some x => simp only [tthen]; rw [if_neg (by grind)]; congr 1; grind
theorem tthen_back (a : Option Rat) : tthen a (tback a) = some 0 := by
  cases a with
  | none => simp [tthen, tback]
  | some x => simp only [tthen, tback, Option.map]; have := one_sq x; rw [if_neg (by grind)]; congr 1; grind
theorem tsq (a : Option Rat) : tcos a * tcos a + tsin a * tsin a = 1 := by
  cases a with
  | none => simp only [tcos, tsin, Option.getD]; grind
  | some x => simp only [tcos, tsin, Option.getD]; have := one_sq x; grind
theorem tcos_add (a b : Option Rat) : tcos (tthen a b) = tcos a * tcos b - tsin a * tsin b := by
  match a, b with
  | none, none => simp only [tthen, tcos, tsin, Option.getD]; grind
  | none, some y => 
    have := one_sq y
    simp only [tthen, topp]; split <;> simp only [tcos, tsin, Option.getD]
    · rename_i h; subst h; grind
    · have h2 : 1 + (-1 / y) * (-1 / y) ≠ 0 := one_sq _
      grind
  | some y, none => 
    have := one_sq y
    simp only [tthen, topp]; split <;> simp only [tcos, tsin, Option.getD]
    · rename_i h; subst h; grind
    · have h2 : 1 + (-1 / y) * (-1 / y) ≠ 0 := one_sq _
      grind
  | some x, some y => 
    have h1 := one_sq x
    have h2 := one_sq y
    simp only [tthen]; split <;> simp only [tcos, tsin, Option.getD]
    · rename_i h; grind
    · have h3 : 1 + ((x + y) / (1 - x * y)) * ((x + y) / (1 - x * y)) ≠ 0 := one_sq _
      grind
theorem tsin_add (a b : Option Rat) : tsin (tthen a b) = tsin a * tcos b + tcos a * tsin b := by
  match a, b with
  | none, none => simp only [tthen, tcos, tsin, Option.getD]; grind
  | none, some y => 
    have := one_sq y
    simp only [tthen, topp]; split <;> simp only [tcos, tsin, Option.getD]
    · rename_i h; subst h; grind
    · have h2 : 1 + (-1 / y) * (-1 / y) ≠ 0 := one_sq _
      grind
  | some y, none => 
    have := one_sq y
    simp only [tthen, topp]; split <;> simp only [tcos, tsin, Option.getD]
    · rename_i h; subst h; grind
    · have h2 : 1 + (-1 / y) * (-1 / y) ≠ 0 := one_sq _
      grind
  | some x, some y => 
    have h1 := one_sq x
    have h2 := one_sq y
    simp only [tthen]; split <;> simp only [tcos, tsin, Option.getD]
    · rename_i h; grind
    · have h3 : 1 + ((x + y) / (1 - x * y)) * ((x + y) / (1 - x * y)) ≠ 0 := one_sq _
      grind
/-- cosine and sine know the turn -/
theorem tcs_inj {a b : Option Rat} (hc : tcos a = tcos b) (hs : tsin a = tsin b) : a = b := by
  match a, b with
  | none, none => rfl
  | none, some y => have := one_sq y; simp only [tcos, tsin, Option.getD] at hc hs; exfalso; grind
  | some y, none => have := one_sq y; simp only [tcos, tsin, Option.getD] at hc hs; exfalso; grind
  | some x, some y => 
    have h1 := one_sq x
    have h2 := one_sq y
    simp only [tcos, tsin, Option.getD] at hc hs
    have e1 : (x + x) / (1 + x * x) = x * (1 + (1 - x * x) / (1 + x * x)) := by grind
    have e2 : (y + y) / (1 + y * y) = y * (1 + (1 - x * x) / (1 + x * x)) := by rw [hc]; grind
    have e3 : 1 + (1 - x * x) / (1 + x * x) ≠ 0 := by grind
    congr 1
    grind
theorem tthen_assoc (a b c : Option Rat) : tthen (tthen a b) c = tthen a (tthen b c) := by
  apply tcs_inj
  · simp only [tcos_add, tsin_add]; grind
  · simp only [tcos_add, tsin_add]; grind

section
variable {G : Gl} {fl : Nat} {A : Hp}

set_option maxHeartbeats 16000000 in
theorem turnGroup_calls {x1 x2 x3 : Int} (hG : G 2 = some tabV) (k1 : -9223372036854775808 ≤ x1 ∧ x1 ≤ 9223372036854775807) (k2 : -9223372036854775808 ≤ x2 ∧ x2 ≤ 9223372036854775807) (k3 : -9223372036854775808 ≤ x3 ∧ x3 ≤ 9223372036854775807) :
    ∀ (μ : Mu) (w : World) (args' : Array Value), HR G μ fl A w → fl ≤ A.next → VRa μ A [.int .i64 x1, .int .i64 x2, .int .i64 x3].toArray args' →
    Calls Tryd.prog 6 args' w fun e w' => ∃ u, e = .returned u ∧ ∃ ν, VR ν A (.bool true) u ∧ HR G ν fl A w' ∧ Trans fl μ A w ν A w' := by
  refine calls_of mixed Tryd.func6 Tryd.ntmps6 Tryd.results6 (by kernel_rfl) rfl (by kernel_rfl) (by simp) fun hA => ?_
  have hfl : fl ≤ A.next := by have := hA.floor; omega
  have hfl1 : fl ≤ A.next + 1 := by have := hA.floor; omega
  have hfl2 : fl ≤ A.next + 2 := by have := hA.floor; omega
  have hfl3 : fl ≤ A.next + 3 := by have := hA.floor; omega
  have hfl4 : fl ≤ A.next + 4 := by have := hA.floor; omega
  have hfl5 : fl ≤ A.next + 5 := by have := hA.floor; omega
  have hfl6 : fl ≤ A.next + 6 := by have := hA.floor; omega
  have hfl7 : fl ≤ A.next + 7 := by have := hA.floor; omega
  have hfl8 : fl ≤ A.next + 8 := by have := hA.floor; omega
  have hfl9 : fl ≤ A.next + 9 := by have := hA.floor; omega
  have hfl10 : fl ≤ A.next + 10 := by have := hA.floor; omega
  have hfl11 : fl ≤ A.next + 11 := by have := hA.floor; omega
  have bg := fun fl A => turnBegun_ok (G := G) (fl := fl) (A := A) hG
  have m1 := fun fl A => turned_ok (G := G) (fl := fl) (A := A) hG k1
  have m2 := fun fl A => turned_ok (G := G) (fl := fl) (A := A) hG k2
  have m3 := fun fl A => turned_ok (G := G) (fl := fl) (A := A) hG k3
  have za := trn_rz x1
  have zb := trn_rz x2
  have zc := trn_rz x3
  generalize trn x1 = a at *
  generalize trn x2 = b at *
  generalize trn x3 = c at *
  have zab := rz_then za zb
  have zbc := rz_then zb zc
  have z0 := fun fl A => rof_ok (G := G) (fl := fl) (A := A) (n := 0) (by decide) (by decide)
  have t0 := fun fl A => tof (G := G) (fl := fl) (A := A) hG rz_zero (by omega)
  have tab := fun fl A => tthen_ok (G := G) (fl := fl) (A := A) hG za zb (by omega)
  have ca := fun fl A => tcos_ok (G := G) (fl := fl) (A := A) hG za (by omega)
  have cb := fun fl A => tcos_ok (G := G) (fl := fl) (A := A) hG zb (by omega)
  have sa := fun fl A => tsin_ok (G := G) (fl := fl) (A := A) hG za (by omega)
  have sb := fun fl A => tsin_ok (G := G) (fl := fl) (A := A) hG zb (by omega)
  have ya := rz_cos za
  have yb := rz_cos zb
  have wa := rz_sin za
  have wb := rz_sin zb
  have q1 := fun fl A => qmul (G := G) (fl := fl) (A := A) hG ya yb (by omega)
  have q2 := fun fl A => qmul (G := G) (fl := fl) (A := A) hG wa wb (by omega)
  have q3 := fun fl A => qsub (G := G) (fl := fl) (A := A) hG (ya.mul yb) (wa.mul wb) (by omega)
  have q4 := fun fl A => qmul (G := G) (fl := fl) (A := A) hG wa yb (by omega)
  have q5 := fun fl A => qmul (G := G) (fl := fl) (A := A) hG ya wb (by omega)
  have q6 := fun fl A => qadd (G := G) (fl := fl) (A := A) hG (wa.mul yb) (ya.mul wb) (by omega)
  have q7 := fun fl A => qmul (G := G) (fl := fl) (A := A) hG ya ya (by omega)
  have q8 := fun fl A => qmul (G := G) (fl := fl) (A := A) hG wa wa (by omega)
  have q9 := fun fl A => qadd (G := G) (fl := fl) (A := A) hG (ya.mul ya) (wa.mul wa) (by omega)
  have tabc := fun fl A => tthen_ok (G := G) (fl := fl) (A := A) hG zab zc (by omega)
  have tbc := fun fl A => tthen_ok (G := G) (fl := fl) (A := A) hG zb zc (by omega)
  have tabc2 := fun fl A => tthen_ok (G := G) (fl := fl) (A := A) hG za zbc (by omega)
  have taz := fun fl A => tthen_ok (G := G) (fl := fl) (A := A) (b := some 0) hG za rz_zero (by omega)
  have tbk := fun fl A => tback_ok (G := G) (fl := fl) (A := A) hG za (by omega)
  have tab2 := fun fl A => tthen_ok (G := G) (fl := fl) (A := A) hG za (rz_back za) (by omega)
  have tba := fun fl A => tthen_ok (G := G) (fl := fl) (A := A) hG zb za (by omega)
  have cab := fun fl A => tcos_ok (G := G) (fl := fl) (A := A) hG zab (by omega)
  have sab := fun fl A => tsin_ok (G := G) (fl := fl) (A := A) hG zab (by omega)
  have z1 := fun fl A => rof_ok (G := G) (fl := fl) (A := A) (n := 1) (by decide) (by decide)
  have e1 := eqD_turn (tthen a (tthen b c)) (tthen a (tthen b c))
  have e2 := eqD_turn a a
  have e3 := eqD_turn (some 0) (some 0)
  have e4 := eqD_turn (tthen a b) (tthen a b)
  have e5 := eqD_rat (tcos a * tcos b - tsin a * tsin b) (tcos a * tcos b - tsin a * tsin b)
  have e6 := eqD_rat (tsin a * tcos b + tcos a * tsin b) (tsin a * tcos b + tcos a * tsin b)
  have e7 := eqD_rat 1 1
  rw [decide_eq_true rfl] at e1 e2 e3 e4 e5 e6 e7
  rw [tthen_assoc] at tabc
  rw [tthen_zero] at taz
  rw [tthen_back] at tab2
  rw [tthen_comm b a] at tba
  rw [tcos_add] at cab
  rw [tsin_add] at sab
  rw [tsq] at q9
  rw [rOf_zero, ratV_def] at z0
  rw [rOf_one, ratV_def] at z1
  rw [ratV_def] at t0
  simp only [tnV_def, ratV_def] at m1 m2 m3 t0 tab ca cb sa sb q1 q2 q3 q4 q5 q6 q7 q8 q9 tabc tbc tabc2 taz tbk tab2 tba cab sab e1 e2 e3 e4 e5 e6 e7
  simp only [Option.getD_some] at e3 t0 taz tab2
  have fin : ∀ (x : Bool) (C : Hp), Xt A.next A C → x = true → Ended A (.bool x) C (.bool true) A := fun x C hC hx => Ended.back hA hC (congrArg _ hx) (RB.bool _)
  simp only [↓R1, R2, R3, R4, TY, reduceIte, Nat.reduceEqDiff, Nat.reduceAdd, Nat.reduceMul, Nat.reduceLT, Nat.reduceLeDiff, reduceCtorEq, decide_true, decide_false, Int.reduceLE, Int.reduceLT, Int.reduceToNat, Int.reduceAdd, Int.reduceSub, Int.reduceMul, Int.reduceEq, hfl, hfl1, hfl2, hfl3, hfl4, hfl5, hfl6, NE, NE9, Nat.add_assoc, hfl7, hfl8, hfl9, hfl10, hfl11, guard_rat, guard_turn, e1, e2, e3, e4, e5, e6, e7, beq_self_eq_true]
  refine call_of (bg _ _) ?_
  simp only [↓R1, R2, R3, R4, TY, reduceIte, Nat.reduceEqDiff, Nat.reduceAdd, Nat.reduceMul, Nat.reduceLT, Nat.reduceLeDiff, reduceCtorEq, decide_true, decide_false, Int.reduceLE, Int.reduceLT, Int.reduceToNat, Int.reduceAdd, Int.reduceSub, Int.reduceMul, Int.reduceEq, hfl, hfl1, hfl2, hfl3, hfl4, hfl5, hfl6, NE, NE9, Nat.add_assoc, hfl7, hfl8, hfl9, hfl10, hfl11, guard_rat, guard_turn, e1, e2, e3, e4, e5, e6, e7, beq_self_eq_true]
  refine call_of (m1 _ _) ?_
  simp only [↓R1, R2, R3, R4, TY, reduceIte, Nat.reduceEqDiff, Nat.reduceAdd, Nat.reduceMul, Nat.reduceLT, Nat.reduceLeDiff, reduceCtorEq, decide_true, decide_false, Int.reduceLE, Int.reduceLT, Int.reduceToNat, Int.reduceAdd, Int.reduceSub, Int.reduceMul, Int.reduceEq, hfl, hfl1, hfl2, hfl3, hfl4, hfl5, hfl6, NE, NE9, Nat.add_assoc, hfl7, hfl8, hfl9, hfl10, hfl11, guard_rat, guard_turn, e1, e2, e3, e4, e5, e6, e7, beq_self_eq_true]
  refine call_of (m2 _ _) ?_
  simp only [↓R1, R2, R3, R4, TY, reduceIte, Nat.reduceEqDiff, Nat.reduceAdd, Nat.reduceMul, Nat.reduceLT, Nat.reduceLeDiff, reduceCtorEq, decide_true, decide_false, Int.reduceLE, Int.reduceLT, Int.reduceToNat, Int.reduceAdd, Int.reduceSub, Int.reduceMul, Int.reduceEq, hfl, hfl1, hfl2, hfl3, hfl4, hfl5, hfl6, NE, NE9, Nat.add_assoc, hfl7, hfl8, hfl9, hfl10, hfl11, guard_rat, guard_turn, e1, e2, e3, e4, e5, e6, e7, beq_self_eq_true]
  refine call_of (m3 _ _) ?_
  simp only [↓R1, R2, R3, R4, TY, reduceIte, Nat.reduceEqDiff, Nat.reduceAdd, Nat.reduceMul, Nat.reduceLT, Nat.reduceLeDiff, reduceCtorEq, decide_true, decide_false, Int.reduceLE, Int.reduceLT, Int.reduceToNat, Int.reduceAdd, Int.reduceSub, Int.reduceMul, Int.reduceEq, hfl, hfl1, hfl2, hfl3, hfl4, hfl5, hfl6, NE, NE9, Nat.add_assoc, hfl7, hfl8, hfl9, hfl10, hfl11, guard_rat, guard_turn, e1, e2, e3, e4, e5, e6, e7, beq_self_eq_true]
  refine call_of (z0 _ _) ?_
  simp only [↓R1, R2, R3, R4, TY, reduceIte, Nat.reduceEqDiff, Nat.reduceAdd, Nat.reduceMul, Nat.reduceLT, Nat.reduceLeDiff, reduceCtorEq, decide_true, decide_false, Int.reduceLE, Int.reduceLT, Int.reduceToNat, Int.reduceAdd, Int.reduceSub, Int.reduceMul, Int.reduceEq, hfl, hfl1, hfl2, hfl3, hfl4, hfl5, hfl6, NE, NE9, Nat.add_assoc, hfl7, hfl8, hfl9, hfl10, hfl11, guard_rat, guard_turn, e1, e2, e3, e4, e5, e6, e7, beq_self_eq_true]
  refine call_of (t0 _ _) ?_
  simp only [↓R1, R2, R3, R4, TY, reduceIte, Nat.reduceEqDiff, Nat.reduceAdd, Nat.reduceMul, Nat.reduceLT, Nat.reduceLeDiff, reduceCtorEq, decide_true, decide_false, Int.reduceLE, Int.reduceLT, Int.reduceToNat, Int.reduceAdd, Int.reduceSub, Int.reduceMul, Int.reduceEq, hfl, hfl1, hfl2, hfl3, hfl4, hfl5, hfl6, NE, NE9, Nat.add_assoc, hfl7, hfl8, hfl9, hfl10, hfl11, guard_rat, guard_turn, e1, e2, e3, e4, e5, e6, e7, beq_self_eq_true]
  refine call_of (tab _ _) ?_
  simp only [↓R1, R2, R3, R4, TY, reduceIte, Nat.reduceEqDiff, Nat.reduceAdd, Nat.reduceMul, Nat.reduceLT, Nat.reduceLeDiff, reduceCtorEq, decide_true, decide_false, Int.reduceLE, Int.reduceLT, Int.reduceToNat, Int.reduceAdd, Int.reduceSub, Int.reduceMul, Int.reduceEq, hfl, hfl1, hfl2, hfl3, hfl4, hfl5, hfl6, NE, NE9, Nat.add_assoc, hfl7, hfl8, hfl9, hfl10, hfl11, guard_rat, guard_turn, e1, e2, e3, e4, e5, e6, e7, beq_self_eq_true]
  refine call_of (ca _ _) ?_
  simp only [↓R1, R2, R3, R4, TY, reduceIte, Nat.reduceEqDiff, Nat.reduceAdd, Nat.reduceMul, Nat.reduceLT, Nat.reduceLeDiff, reduceCtorEq, decide_true, decide_false, Int.reduceLE, Int.reduceLT, Int.reduceToNat, Int.reduceAdd, Int.reduceSub, Int.reduceMul, Int.reduceEq, hfl, hfl1, hfl2, hfl3, hfl4, hfl5, hfl6, NE, NE9, Nat.add_assoc, hfl7, hfl8, hfl9, hfl10, hfl11, guard_rat, guard_turn, e1, e2, e3, e4, e5, e6, e7, beq_self_eq_true]
  refine call_of (cb _ _) ?_
  simp only [↓R1, R2, R3, R4, TY, reduceIte, Nat.reduceEqDiff, Nat.reduceAdd, Nat.reduceMul, Nat.reduceLT, Nat.reduceLeDiff, reduceCtorEq, decide_true, decide_false, Int.reduceLE, Int.reduceLT, Int.reduceToNat, Int.reduceAdd, Int.reduceSub, Int.reduceMul, Int.reduceEq, hfl, hfl1, hfl2, hfl3, hfl4, hfl5, hfl6, NE, NE9, Nat.add_assoc, hfl7, hfl8, hfl9, hfl10, hfl11, guard_rat, guard_turn, e1, e2, e3, e4, e5, e6, e7, beq_self_eq_true]
  refine call_of (q1 _ _) ?_
  simp only [↓R1, R2, R3, R4, TY, reduceIte, Nat.reduceEqDiff, Nat.reduceAdd, Nat.reduceMul, Nat.reduceLT, Nat.reduceLeDiff, reduceCtorEq, decide_true, decide_false, Int.reduceLE, Int.reduceLT, Int.reduceToNat, Int.reduceAdd, Int.reduceSub, Int.reduceMul, Int.reduceEq, hfl, hfl1, hfl2, hfl3, hfl4, hfl5, hfl6, NE, NE9, Nat.add_assoc, hfl7, hfl8, hfl9, hfl10, hfl11, guard_rat, guard_turn, e1, e2, e3, e4, e5, e6, e7, beq_self_eq_true]
  refine call_of (sa _ _) ?_
  simp only [↓R1, R2, R3, R4, TY, reduceIte, Nat.reduceEqDiff, Nat.reduceAdd, Nat.reduceMul, Nat.reduceLT, Nat.reduceLeDiff, reduceCtorEq, decide_true, decide_false, Int.reduceLE, Int.reduceLT, Int.reduceToNat, Int.reduceAdd, Int.reduceSub, Int.reduceMul, Int.reduceEq, hfl, hfl1, hfl2, hfl3, hfl4, hfl5, hfl6, NE, NE9, Nat.add_assoc, hfl7, hfl8, hfl9, hfl10, hfl11, guard_rat, guard_turn, e1, e2, e3, e4, e5, e6, e7, beq_self_eq_true]
  refine call_of (sb _ _) ?_
  simp only [↓R1, R2, R3, R4, TY, reduceIte, Nat.reduceEqDiff, Nat.reduceAdd, Nat.reduceMul, Nat.reduceLT, Nat.reduceLeDiff, reduceCtorEq, decide_true, decide_false, Int.reduceLE, Int.reduceLT, Int.reduceToNat, Int.reduceAdd, Int.reduceSub, Int.reduceMul, Int.reduceEq, hfl, hfl1, hfl2, hfl3, hfl4, hfl5, hfl6, NE, NE9, Nat.add_assoc, hfl7, hfl8, hfl9, hfl10, hfl11, guard_rat, guard_turn, e1, e2, e3, e4, e5, e6, e7, beq_self_eq_true]
  refine call_of (q2 _ _) ?_
  simp only [↓R1, R2, R3, R4, TY, reduceIte, Nat.reduceEqDiff, Nat.reduceAdd, Nat.reduceMul, Nat.reduceLT, Nat.reduceLeDiff, reduceCtorEq, decide_true, decide_false, Int.reduceLE, Int.reduceLT, Int.reduceToNat, Int.reduceAdd, Int.reduceSub, Int.reduceMul, Int.reduceEq, hfl, hfl1, hfl2, hfl3, hfl4, hfl5, hfl6, NE, NE9, Nat.add_assoc, hfl7, hfl8, hfl9, hfl10, hfl11, guard_rat, guard_turn, e1, e2, e3, e4, e5, e6, e7, beq_self_eq_true]
  refine call_of (q3 _ _) ?_
  simp only [↓R1, R2, R3, R4, TY, reduceIte, Nat.reduceEqDiff, Nat.reduceAdd, Nat.reduceMul, Nat.reduceLT, Nat.reduceLeDiff, reduceCtorEq, decide_true, decide_false, Int.reduceLE, Int.reduceLT, Int.reduceToNat, Int.reduceAdd, Int.reduceSub, Int.reduceMul, Int.reduceEq, hfl, hfl1, hfl2, hfl3, hfl4, hfl5, hfl6, NE, NE9, Nat.add_assoc, hfl7, hfl8, hfl9, hfl10, hfl11, guard_rat, guard_turn, e1, e2, e3, e4, e5, e6, e7, beq_self_eq_true]
  rw [floOf_wr (by kernel_rfl)]
  simp only [↓R1, R2, R3, R4, TY, reduceIte, Nat.reduceEqDiff, Nat.reduceAdd, Nat.reduceMul, Nat.reduceLT, Nat.reduceLeDiff, reduceCtorEq, decide_true, decide_false, Int.reduceLE, Int.reduceLT, Int.reduceToNat, Int.reduceAdd, Int.reduceSub, Int.reduceMul, Int.reduceEq, hfl, hfl1, hfl2, hfl3, hfl4, hfl5, hfl6, NE, NE9, Nat.add_assoc, hfl7, hfl8, hfl9, hfl10, hfl11, guard_rat, guard_turn, e1, e2, e3, e4, e5, e6, e7, beq_self_eq_true]
  refine call_of (sa _ _) ?_
  simp only [↓R1, R2, R3, R4, TY, reduceIte, Nat.reduceEqDiff, Nat.reduceAdd, Nat.reduceMul, Nat.reduceLT, Nat.reduceLeDiff, reduceCtorEq, decide_true, decide_false, Int.reduceLE, Int.reduceLT, Int.reduceToNat, Int.reduceAdd, Int.reduceSub, Int.reduceMul, Int.reduceEq, hfl, hfl1, hfl2, hfl3, hfl4, hfl5, hfl6, NE, NE9, Nat.add_assoc, hfl7, hfl8, hfl9, hfl10, hfl11, guard_rat, guard_turn, e1, e2, e3, e4, e5, e6, e7, beq_self_eq_true]
  refine call_of (cb _ _) ?_
  simp only [↓R1, R2, R3, R4, TY, reduceIte, Nat.reduceEqDiff, Nat.reduceAdd, Nat.reduceMul, Nat.reduceLT, Nat.reduceLeDiff, reduceCtorEq, decide_true, decide_false, Int.reduceLE, Int.reduceLT, Int.reduceToNat, Int.reduceAdd, Int.reduceSub, Int.reduceMul, Int.reduceEq, hfl, hfl1, hfl2, hfl3, hfl4, hfl5, hfl6, NE, NE9, Nat.add_assoc, hfl7, hfl8, hfl9, hfl10, hfl11, guard_rat, guard_turn, e1, e2, e3, e4, e5, e6, e7, beq_self_eq_true]
  refine call_of (q4 _ _) ?_
  simp only [↓R1, R2, R3, R4, TY, reduceIte, Nat.reduceEqDiff, Nat.reduceAdd, Nat.reduceMul, Nat.reduceLT, Nat.reduceLeDiff, reduceCtorEq, decide_true, decide_false, Int.reduceLE, Int.reduceLT, Int.reduceToNat, Int.reduceAdd, Int.reduceSub, Int.reduceMul, Int.reduceEq, hfl, hfl1, hfl2, hfl3, hfl4, hfl5, hfl6, NE, NE9, Nat.add_assoc, hfl7, hfl8, hfl9, hfl10, hfl11, guard_rat, guard_turn, e1, e2, e3, e4, e5, e6, e7, beq_self_eq_true]
  refine call_of (ca _ _) ?_
  simp only [↓R1, R2, R3, R4, TY, reduceIte, Nat.reduceEqDiff, Nat.reduceAdd, Nat.reduceMul, Nat.reduceLT, Nat.reduceLeDiff, reduceCtorEq, decide_true, decide_false, Int.reduceLE, Int.reduceLT, Int.reduceToNat, Int.reduceAdd, Int.reduceSub, Int.reduceMul, Int.reduceEq, hfl, hfl1, hfl2, hfl3, hfl4, hfl5, hfl6, NE, NE9, Nat.add_assoc, hfl7, hfl8, hfl9, hfl10, hfl11, guard_rat, guard_turn, e1, e2, e3, e4, e5, e6, e7, beq_self_eq_true]
  refine call_of (sb _ _) ?_
  simp only [↓R1, R2, R3, R4, TY, reduceIte, Nat.reduceEqDiff, Nat.reduceAdd, Nat.reduceMul, Nat.reduceLT, Nat.reduceLeDiff, reduceCtorEq, decide_true, decide_false, Int.reduceLE, Int.reduceLT, Int.reduceToNat, Int.reduceAdd, Int.reduceSub, Int.reduceMul, Int.reduceEq, hfl, hfl1, hfl2, hfl3, hfl4, hfl5, hfl6, NE, NE9, Nat.add_assoc, hfl7, hfl8, hfl9, hfl10, hfl11, guard_rat, guard_turn, e1, e2, e3, e4, e5, e6, e7, beq_self_eq_true]
  refine call_of (q5 _ _) ?_
  simp only [↓R1, R2, R3, R4, TY, reduceIte, Nat.reduceEqDiff, Nat.reduceAdd, Nat.reduceMul, Nat.reduceLT, Nat.reduceLeDiff, reduceCtorEq, decide_true, decide_false, Int.reduceLE, Int.reduceLT, Int.reduceToNat, Int.reduceAdd, Int.reduceSub, Int.reduceMul, Int.reduceEq, hfl, hfl1, hfl2, hfl3, hfl4, hfl5, hfl6, NE, NE9, Nat.add_assoc, hfl7, hfl8, hfl9, hfl10, hfl11, guard_rat, guard_turn, e1, e2, e3, e4, e5, e6, e7, beq_self_eq_true]
  refine call_of (q6 _ _) ?_
  simp only [↓R1, R2, R3, R4, TY, reduceIte, Nat.reduceEqDiff, Nat.reduceAdd, Nat.reduceMul, Nat.reduceLT, Nat.reduceLeDiff, reduceCtorEq, decide_true, decide_false, Int.reduceLE, Int.reduceLT, Int.reduceToNat, Int.reduceAdd, Int.reduceSub, Int.reduceMul, Int.reduceEq, hfl, hfl1, hfl2, hfl3, hfl4, hfl5, hfl6, NE, NE9, Nat.add_assoc, hfl7, hfl8, hfl9, hfl10, hfl11, guard_rat, guard_turn, e1, e2, e3, e4, e5, e6, e7, beq_self_eq_true]
  rw [floOf_wr (by kernel_rfl)]
  simp only [↓R1, R2, R3, R4, TY, reduceIte, Nat.reduceEqDiff, Nat.reduceAdd, Nat.reduceMul, Nat.reduceLT, Nat.reduceLeDiff, reduceCtorEq, decide_true, decide_false, Int.reduceLE, Int.reduceLT, Int.reduceToNat, Int.reduceAdd, Int.reduceSub, Int.reduceMul, Int.reduceEq, hfl, hfl1, hfl2, hfl3, hfl4, hfl5, hfl6, NE, NE9, Nat.add_assoc, hfl7, hfl8, hfl9, hfl10, hfl11, guard_rat, guard_turn, e1, e2, e3, e4, e5, e6, e7, beq_self_eq_true]
  refine call_of (ca _ _) ?_
  simp only [↓R1, R2, R3, R4, TY, reduceIte, Nat.reduceEqDiff, Nat.reduceAdd, Nat.reduceMul, Nat.reduceLT, Nat.reduceLeDiff, reduceCtorEq, decide_true, decide_false, Int.reduceLE, Int.reduceLT, Int.reduceToNat, Int.reduceAdd, Int.reduceSub, Int.reduceMul, Int.reduceEq, hfl, hfl1, hfl2, hfl3, hfl4, hfl5, hfl6, NE, NE9, Nat.add_assoc, hfl7, hfl8, hfl9, hfl10, hfl11, guard_rat, guard_turn, e1, e2, e3, e4, e5, e6, e7, beq_self_eq_true]
  refine call_of (ca _ _) ?_
  simp only [↓R1, R2, R3, R4, TY, reduceIte, Nat.reduceEqDiff, Nat.reduceAdd, Nat.reduceMul, Nat.reduceLT, Nat.reduceLeDiff, reduceCtorEq, decide_true, decide_false, Int.reduceLE, Int.reduceLT, Int.reduceToNat, Int.reduceAdd, Int.reduceSub, Int.reduceMul, Int.reduceEq, hfl, hfl1, hfl2, hfl3, hfl4, hfl5, hfl6, NE, NE9, Nat.add_assoc, hfl7, hfl8, hfl9, hfl10, hfl11, guard_rat, guard_turn, e1, e2, e3, e4, e5, e6, e7, beq_self_eq_true]
  refine call_of (q7 _ _) ?_
  simp only [↓R1, R2, R3, R4, TY, reduceIte, Nat.reduceEqDiff, Nat.reduceAdd, Nat.reduceMul, Nat.reduceLT, Nat.reduceLeDiff, reduceCtorEq, decide_true, decide_false, Int.reduceLE, Int.reduceLT, Int.reduceToNat, Int.reduceAdd, Int.reduceSub, Int.reduceMul, Int.reduceEq, hfl, hfl1, hfl2, hfl3, hfl4, hfl5, hfl6, NE, NE9, Nat.add_assoc, hfl7, hfl8, hfl9, hfl10, hfl11, guard_rat, guard_turn, e1, e2, e3, e4, e5, e6, e7, beq_self_eq_true]
  refine call_of (sa _ _) ?_
  simp only [↓R1, R2, R3, R4, TY, reduceIte, Nat.reduceEqDiff, Nat.reduceAdd, Nat.reduceMul, Nat.reduceLT, Nat.reduceLeDiff, reduceCtorEq, decide_true, decide_false, Int.reduceLE, Int.reduceLT, Int.reduceToNat, Int.reduceAdd, Int.reduceSub, Int.reduceMul, Int.reduceEq, hfl, hfl1, hfl2, hfl3, hfl4, hfl5, hfl6, NE, NE9, Nat.add_assoc, hfl7, hfl8, hfl9, hfl10, hfl11, guard_rat, guard_turn, e1, e2, e3, e4, e5, e6, e7, beq_self_eq_true]
  refine call_of (sa _ _) ?_
  simp only [↓R1, R2, R3, R4, TY, reduceIte, Nat.reduceEqDiff, Nat.reduceAdd, Nat.reduceMul, Nat.reduceLT, Nat.reduceLeDiff, reduceCtorEq, decide_true, decide_false, Int.reduceLE, Int.reduceLT, Int.reduceToNat, Int.reduceAdd, Int.reduceSub, Int.reduceMul, Int.reduceEq, hfl, hfl1, hfl2, hfl3, hfl4, hfl5, hfl6, NE, NE9, Nat.add_assoc, hfl7, hfl8, hfl9, hfl10, hfl11, guard_rat, guard_turn, e1, e2, e3, e4, e5, e6, e7, beq_self_eq_true]
  refine call_of (q8 _ _) ?_
  simp only [↓R1, R2, R3, R4, TY, reduceIte, Nat.reduceEqDiff, Nat.reduceAdd, Nat.reduceMul, Nat.reduceLT, Nat.reduceLeDiff, reduceCtorEq, decide_true, decide_false, Int.reduceLE, Int.reduceLT, Int.reduceToNat, Int.reduceAdd, Int.reduceSub, Int.reduceMul, Int.reduceEq, hfl, hfl1, hfl2, hfl3, hfl4, hfl5, hfl6, NE, NE9, Nat.add_assoc, hfl7, hfl8, hfl9, hfl10, hfl11, guard_rat, guard_turn, e1, e2, e3, e4, e5, e6, e7, beq_self_eq_true]
  refine call_of (q9 _ _) ?_
  simp only [↓R1, R2, R3, R4, TY, reduceIte, Nat.reduceEqDiff, Nat.reduceAdd, Nat.reduceMul, Nat.reduceLT, Nat.reduceLeDiff, reduceCtorEq, decide_true, decide_false, Int.reduceLE, Int.reduceLT, Int.reduceToNat, Int.reduceAdd, Int.reduceSub, Int.reduceMul, Int.reduceEq, hfl, hfl1, hfl2, hfl3, hfl4, hfl5, hfl6, NE, NE9, Nat.add_assoc, hfl7, hfl8, hfl9, hfl10, hfl11, guard_rat, guard_turn, e1, e2, e3, e4, e5, e6, e7, beq_self_eq_true]
  rw [floOf_wr (by kernel_rfl)]
  simp only [↓R1, R2, R3, R4, TY, reduceIte, Nat.reduceEqDiff, Nat.reduceAdd, Nat.reduceMul, Nat.reduceLT, Nat.reduceLeDiff, reduceCtorEq, decide_true, decide_false, Int.reduceLE, Int.reduceLT, Int.reduceToNat, Int.reduceAdd, Int.reduceSub, Int.reduceMul, Int.reduceEq, hfl, hfl1, hfl2, hfl3, hfl4, hfl5, hfl6, NE, NE9, Nat.add_assoc, hfl7, hfl8, hfl9, hfl10, hfl11, guard_rat, guard_turn, e1, e2, e3, e4, e5, e6, e7, beq_self_eq_true]
  refine call_of (tabc _ _) ?_
  simp only [↓R1, R2, R3, R4, TY, reduceIte, Nat.reduceEqDiff, Nat.reduceAdd, Nat.reduceMul, Nat.reduceLT, Nat.reduceLeDiff, reduceCtorEq, decide_true, decide_false, Int.reduceLE, Int.reduceLT, Int.reduceToNat, Int.reduceAdd, Int.reduceSub, Int.reduceMul, Int.reduceEq, hfl, hfl1, hfl2, hfl3, hfl4, hfl5, hfl6, NE, NE9, Nat.add_assoc, hfl7, hfl8, hfl9, hfl10, hfl11, guard_rat, guard_turn, e1, e2, e3, e4, e5, e6, e7, beq_self_eq_true]
  refine call_of (tbc _ _) ?_
  simp only [↓R1, R2, R3, R4, TY, reduceIte, Nat.reduceEqDiff, Nat.reduceAdd, Nat.reduceMul, Nat.reduceLT, Nat.reduceLeDiff, reduceCtorEq, decide_true, decide_false, Int.reduceLE, Int.reduceLT, Int.reduceToNat, Int.reduceAdd, Int.reduceSub, Int.reduceMul, Int.reduceEq, hfl, hfl1, hfl2, hfl3, hfl4, hfl5, hfl6, NE, NE9, Nat.add_assoc, hfl7, hfl8, hfl9, hfl10, hfl11, guard_rat, guard_turn, e1, e2, e3, e4, e5, e6, e7, beq_self_eq_true]
  refine call_of (tabc2 _ _) ?_
  simp only [↓R1, R2, R3, R4, TY, reduceIte, Nat.reduceEqDiff, Nat.reduceAdd, Nat.reduceMul, Nat.reduceLT, Nat.reduceLeDiff, reduceCtorEq, decide_true, decide_false, Int.reduceLE, Int.reduceLT, Int.reduceToNat, Int.reduceAdd, Int.reduceSub, Int.reduceMul, Int.reduceEq, hfl, hfl1, hfl2, hfl3, hfl4, hfl5, hfl6, NE, NE9, Nat.add_assoc, hfl7, hfl8, hfl9, hfl10, hfl11, guard_rat, guard_turn, e1, e2, e3, e4, e5, e6, e7, beq_self_eq_true]
  refine call_of (taz _ _) ?_
  simp only [↓R1, R2, R3, R4, TY, reduceIte, Nat.reduceEqDiff, Nat.reduceAdd, Nat.reduceMul, Nat.reduceLT, Nat.reduceLeDiff, reduceCtorEq, decide_true, decide_false, Int.reduceLE, Int.reduceLT, Int.reduceToNat, Int.reduceAdd, Int.reduceSub, Int.reduceMul, Int.reduceEq, hfl, hfl1, hfl2, hfl3, hfl4, hfl5, hfl6, NE, NE9, Nat.add_assoc, hfl7, hfl8, hfl9, hfl10, hfl11, guard_rat, guard_turn, e1, e2, e3, e4, e5, e6, e7, beq_self_eq_true]
  refine call_of (tbk _ _) ?_
  simp only [↓R1, R2, R3, R4, TY, reduceIte, Nat.reduceEqDiff, Nat.reduceAdd, Nat.reduceMul, Nat.reduceLT, Nat.reduceLeDiff, reduceCtorEq, decide_true, decide_false, Int.reduceLE, Int.reduceLT, Int.reduceToNat, Int.reduceAdd, Int.reduceSub, Int.reduceMul, Int.reduceEq, hfl, hfl1, hfl2, hfl3, hfl4, hfl5, hfl6, NE, NE9, Nat.add_assoc, hfl7, hfl8, hfl9, hfl10, hfl11, guard_rat, guard_turn, e1, e2, e3, e4, e5, e6, e7, beq_self_eq_true]
  refine call_of (tab2 _ _) ?_
  simp only [↓R1, R2, R3, R4, TY, reduceIte, Nat.reduceEqDiff, Nat.reduceAdd, Nat.reduceMul, Nat.reduceLT, Nat.reduceLeDiff, reduceCtorEq, decide_true, decide_false, Int.reduceLE, Int.reduceLT, Int.reduceToNat, Int.reduceAdd, Int.reduceSub, Int.reduceMul, Int.reduceEq, hfl, hfl1, hfl2, hfl3, hfl4, hfl5, hfl6, NE, NE9, Nat.add_assoc, hfl7, hfl8, hfl9, hfl10, hfl11, guard_rat, guard_turn, e1, e2, e3, e4, e5, e6, e7, beq_self_eq_true]
  refine call_of (tba _ _) ?_
  simp only [↓R1, R2, R3, R4, TY, reduceIte, Nat.reduceEqDiff, Nat.reduceAdd, Nat.reduceMul, Nat.reduceLT, Nat.reduceLeDiff, reduceCtorEq, decide_true, decide_false, Int.reduceLE, Int.reduceLT, Int.reduceToNat, Int.reduceAdd, Int.reduceSub, Int.reduceMul, Int.reduceEq, hfl, hfl1, hfl2, hfl3, hfl4, hfl5, hfl6, NE, NE9, Nat.add_assoc, hfl7, hfl8, hfl9, hfl10, hfl11, guard_rat, guard_turn, e1, e2, e3, e4, e5, e6, e7, beq_self_eq_true]
  refine call_of (cab _ _) ?_
  simp only [↓R1, R2, R3, R4, TY, reduceIte, Nat.reduceEqDiff, Nat.reduceAdd, Nat.reduceMul, Nat.reduceLT, Nat.reduceLeDiff, reduceCtorEq, decide_true, decide_false, Int.reduceLE, Int.reduceLT, Int.reduceToNat, Int.reduceAdd, Int.reduceSub, Int.reduceMul, Int.reduceEq, hfl, hfl1, hfl2, hfl3, hfl4, hfl5, hfl6, NE, NE9, Nat.add_assoc, hfl7, hfl8, hfl9, hfl10, hfl11, guard_rat, guard_turn, e1, e2, e3, e4, e5, e6, e7, beq_self_eq_true]
  refine call_of (sab _ _) ?_
  simp only [↓R1, R2, R3, R4, TY, reduceIte, Nat.reduceEqDiff, Nat.reduceAdd, Nat.reduceMul, Nat.reduceLT, Nat.reduceLeDiff, reduceCtorEq, decide_true, decide_false, Int.reduceLE, Int.reduceLT, Int.reduceToNat, Int.reduceAdd, Int.reduceSub, Int.reduceMul, Int.reduceEq, hfl, hfl1, hfl2, hfl3, hfl4, hfl5, hfl6, NE, NE9, Nat.add_assoc, hfl7, hfl8, hfl9, hfl10, hfl11, guard_rat, guard_turn, e1, e2, e3, e4, e5, e6, e7, beq_self_eq_true]
  refine call_of (z1 _ _) ?_
  simp only [↓R1, R2, R3, R4, TY, reduceIte, Nat.reduceEqDiff, Nat.reduceAdd, Nat.reduceMul, Nat.reduceLT, Nat.reduceLeDiff, reduceCtorEq, decide_true, decide_false, Int.reduceLE, Int.reduceLT, Int.reduceToNat, Int.reduceAdd, Int.reduceSub, Int.reduceMul, Int.reduceEq, hfl, hfl1, hfl2, hfl3, hfl4, hfl5, hfl6, NE, NE9, Nat.add_assoc, hfl7, hfl8, hfl9, hfl10, hfl11, guard_rat, guard_turn, e1, e2, e3, e4, e5, e6, e7, beq_self_eq_true]
  refine fin _ _ ?_ rfl
  simp (maxDischargeDepth := 20) only [xt_push, xt_put, xt_refl, Nat.le_refl, Nat.le_add_right, Nat.add_assoc, Nat.reduceAdd]
end
end Go.Proofs.YtincjhklpgfkgaaDoor.Ab
