/- Turns. -/
import Derived.Test.YthclikeipdplpaaGreatDoorVo
import Derived.Test.YthclikeipdplpaaGreatDoorUe
namespace Go.Proofs.YthclikeipdplpaaGreatDoor.Ab
open Go.RowKit
set_option linter.unusedVariables false
set_option linter.unusedSimpArgs false
set_option maxRecDepth 100000

/-- A turn: none is the half turn. -/
def tnV (o : Option Rat) : Value := .agg #[.bool o.isNone, .bool (decide ((o.getD 0).num < 0)), .string (S (nb (o.getD 0).num.natAbs)), .string (S (nb (o.getD 0).den))]
theorem tnV_none : tnV none = .agg #[.bool true, .bool (decide ((0 : Rat).num < 0)), .string (S (nb (0 : Rat).num.natAbs)), .string (S (nb (0 : Rat).den))] := rfl
theorem tnV_some (t : Rat) : tnV (some t) = .agg #[.bool false, .bool (decide (t.num < 0)), .string (S (nb t.num.natAbs)), .string (S (nb t.den))] := rfl
theorem tnV_rb (n : Nat) (o : Option Rat) : RB n (tnV o) := RB.agg fun v hv => by
  simp only [List.mem_cons, List.not_mem_nil, or_false] at hv
  rcases hv with rfl | rfl | rfl | rfl <;> exact RB.zc rfl
def tcos (o : Option Rat) : Rat := match o with | none => -1 | some t => (1 - t * t) / (1 + t * t)
def tsin (o : Option Rat) : Rat := (o.getD 0 + o.getD 0) / (1 + o.getD 0 * o.getD 0)
def topp (b : Rat) : Option Rat := if b = 0 then none else some (-1 / b)
def tthen (a b : Option Rat) : Option Rat := match a, b with
  | none, none => some 0
  | none, some y => topp y
  | some x, none => topp x
  | some x, some y => if 1 - x * y = 0 then none else some ((x + y) / (1 - x * y))
def tback (o : Option Rat) : Option Rat := o.map fun t => -t
theorem sq_nn (t : Rat) : 0 ≤ t * t := by
  rcases Rat.le_total (a := 0) (b := t) with h | h
  · exact Rat.mul_nonneg h h
  · have := Rat.mul_nonneg (a := -t) (b := -t) (by grind) (by grind)
    grind
theorem one_sq (t : Rat) : 1 + t * t ≠ 0 := by have := sq_nn t; grind
theorem num_ne {q : Rat} (h : q ≠ 0) : q.num ≠ 0 := fun e => h (Rat.num_eq_zero.1 e)
theorem rz_one : Rz 1 1 := Rz.of (n := 1) (k := 1) (by rw [show (1 : Int).natAbs = 1 from rfl, nb_one]; decide) (Nat.le_refl _)
theorem rz_neg1 : Rz (-1) 1 := rz_one.neg
theorem rOf_neg1 : rOf (-1) = -1 := rfl
theorem rz_cos {o : Option Rat} {k : Nat} (h : Rz (o.getD 0) k) : Rz (tcos o) (4 * k + 4) := by
  have := h.pos
  cases o with
  | none => exact rz_neg1.mono (by omega)
  | some t => exact ((rz_one.sub (h.mul h)).div (rz_one.add (h.mul h)) (num_ne (one_sq t))).mono (by omega)
theorem rz_sin {o : Option Rat} {k : Nat} (h : Rz (o.getD 0) k) : Rz (tsin o) (4 * k + 4) := ((h.add h).div (rz_one.add (h.mul h)) (num_ne (one_sq _))).mono (by omega)
theorem rz_opp {t : Rat} {k : Nat} (h : Rz t k) : Rz ((topp t).getD 0) (k + 1) := by
  unfold topp
  split
  · exact rz_zero.mono (by omega)
  · rename_i h0; exact (rz_neg1.div h (num_ne h0)).mono (by omega)
theorem rz_then {a b : Option Rat} {j k : Nat} (ha : Rz (a.getD 0) j) (hb : Rz (b.getD 0) k) : Rz ((tthen a b).getD 0) (2 * j + 2 * k + 4) := by
  unfold tthen
  match a, b with
  | none, none => exact rz_zero.mono (by omega)
  | none, some y => exact (rz_opp hb).mono (by omega)
  | some x, none => exact (rz_opp ha).mono (by omega)
  | some x, some y =>
    simp only
    split
    · exact rz_zero.mono (by omega)
    · rename_i h0; exact ((ha.add hb).div (rz_one.sub (ha.mul hb)) (num_ne h0)).mono (by omega)
theorem rz_back {o : Option Rat} {k : Nat} (h : Rz (o.getD 0) k) : Rz ((tback o).getD 0) k := by
  cases o with
  | none => exact h
  | some t => exact h.neg

section
variable {G : Gl} {fl : Nat} {A : Hp}

set_option maxHeartbeats 2000000 in
theorem tof {t : Rat} {k : Nat} (hG : G 1 = some tabV) (h : Rz t k) (hk : k ≤ 100000) : Sound Tryz.prog G 117 [ratV t] fl A (tnV (some t)) A := by
  refine Sound.of mixed Tryz.func117 Tryz.ntmps117 Tryz.results117 (by kernel_rfl) rfl (by kernel_rfl) (by simp) fun hA => ?_
  have hfl : fl ≤ A.next := by have := hA.floor; omega
  have hfl1 : fl ≤ A.next + 1 := by have := hA.floor; omega
  have hfl2 : fl ≤ A.next + 2 := by have := hA.floor; omega
  have hfl3 : fl ≤ A.next + 3 := by have := hA.floor; omega
  have hfl4 : fl ≤ A.next + 4 := by have := hA.floor; omega
  have hfl5 : fl ≤ A.next + 5 := by have := hA.floor; omega
  have hfl6 : fl ≤ A.next + 6 := by have := hA.floor; omega
  have rm : ∀ x : Rat, rmin x x = x := fun x => by unfold rmin; split <;> rfl
  have m1 := fun fl A => qmin (G := G) (fl := fl) (A := A) hG h h (by omega)
  have hrb := tnV_rb A.next (some t)
  rw [rm, ratV_def] at m1
  rw [tnV_some] at hrb ⊢
  rw [ratV_def]
  simp only [↓R1, R2, R3, R4, TY, reduceIte, Nat.reduceEqDiff, Nat.reduceAdd, Nat.reduceMul, Nat.reduceLT, Nat.reduceLeDiff, reduceCtorEq, decide_true, decide_false, Int.reduceLE, Int.reduceLT, Int.reduceToNat, Int.reduceAdd, Int.reduceSub, Int.reduceMul, Int.reduceEq, hfl, hfl1, hfl2, hfl3, hfl4, hfl5, hfl6, NE, NE9, Nat.add_assoc]
  refine call_of (m1 _ _) ?_
  simp only [↓R1, R2, R3, R4, TY, reduceIte, Nat.reduceEqDiff, Nat.reduceAdd, Nat.reduceMul, Nat.reduceLT, Nat.reduceLeDiff, reduceCtorEq, decide_true, decide_false, Int.reduceLE, Int.reduceLT, Int.reduceToNat, Int.reduceAdd, Int.reduceSub, Int.reduceMul, Int.reduceEq, hfl, hfl1, hfl2, hfl3, hfl4, hfl5, hfl6, NE, NE9, Nat.add_assoc]
  refine Ended.back hA ?_ rfl hrb
  simp (maxDischargeDepth := 20) only [xt_push, xt_put, xt_refl, Nat.le_refl, Nat.le_add_right, Nat.add_assoc, Nat.reduceAdd]

set_option maxHeartbeats 2000000 in
theorem thalf  (hG : G 1 = some tabV)  : Sound Tryz.prog G 166 [] fl A (tnV none) A := by
  refine Sound.of mixed Tryz.func166 Tryz.ntmps166 Tryz.results166 (by kernel_rfl) rfl (by kernel_rfl) (by simp) fun hA => ?_
  have hfl : fl ≤ A.next := by have := hA.floor; omega
  have hfl1 : fl ≤ A.next + 1 := by have := hA.floor; omega
  have hfl2 : fl ≤ A.next + 2 := by have := hA.floor; omega
  have hfl3 : fl ≤ A.next + 3 := by have := hA.floor; omega
  have hfl4 : fl ≤ A.next + 4 := by have := hA.floor; omega
  have hfl5 : fl ≤ A.next + 5 := by have := hA.floor; omega
  have hfl6 : fl ≤ A.next + 6 := by have := hA.floor; omega
  have z0 := fun fl A => rof_ok (G := G) (fl := fl) (A := A) (n := 0) (by decide) (by decide)
  have hrb := tnV_rb A.next none
  rw [rOf_zero, ratV_def] at z0
  rw [tnV_none] at hrb ⊢
  simp only [↓R1, R2, R3, R4, TY, reduceIte, Nat.reduceEqDiff, Nat.reduceAdd, Nat.reduceMul, Nat.reduceLT, Nat.reduceLeDiff, reduceCtorEq, decide_true, decide_false, Int.reduceLE, Int.reduceLT, Int.reduceToNat, Int.reduceAdd, Int.reduceSub, Int.reduceMul, Int.reduceEq, hfl, hfl1, hfl2, hfl3, hfl4, hfl5, hfl6, NE, NE9, Nat.add_assoc]
  refine call_of (z0 _ _) ?_
  simp only [↓R1, R2, R3, R4, TY, reduceIte, Nat.reduceEqDiff, Nat.reduceAdd, Nat.reduceMul, Nat.reduceLT, Nat.reduceLeDiff, reduceCtorEq, decide_true, decide_false, Int.reduceLE, Int.reduceLT, Int.reduceToNat, Int.reduceAdd, Int.reduceSub, Int.reduceMul, Int.reduceEq, hfl, hfl1, hfl2, hfl3, hfl4, hfl5, hfl6, NE, NE9, Nat.add_assoc]
  refine Ended.back hA ?_ rfl hrb
  simp (maxDischargeDepth := 20) only [xt_push, xt_put, xt_refl, Nat.le_refl, Nat.le_add_right, Nat.add_assoc, Nat.reduceAdd]

set_option maxHeartbeats 2000000 in
theorem tfit_half  (hG : G 1 = some tabV)  : Sound Tryz.prog G 149 [tnV none] fl A (tnV none) A := by
  refine Sound.of mixed Tryz.func149 Tryz.ntmps149 Tryz.results149 (by kernel_rfl) rfl (by kernel_rfl) (by simp) fun hA => ?_
  have hfl : fl ≤ A.next := by have := hA.floor; omega
  have hfl1 : fl ≤ A.next + 1 := by have := hA.floor; omega
  have hfl2 : fl ≤ A.next + 2 := by have := hA.floor; omega
  have hfl3 : fl ≤ A.next + 3 := by have := hA.floor; omega
  have hfl4 : fl ≤ A.next + 4 := by have := hA.floor; omega
  have hfl5 : fl ≤ A.next + 5 := by have := hA.floor; omega
  have hfl6 : fl ≤ A.next + 6 := by have := hA.floor; omega
  have t1 := fun fl A => thalf (G := G) (fl := fl) (A := A) hG
  have hrb := tnV_rb A.next none
  rw [tnV_none] at t1 hrb ⊢
  simp only [↓R1, R2, R3, R4, TY, reduceIte, Nat.reduceEqDiff, Nat.reduceAdd, Nat.reduceMul, Nat.reduceLT, Nat.reduceLeDiff, reduceCtorEq, decide_true, decide_false, Int.reduceLE, Int.reduceLT, Int.reduceToNat, Int.reduceAdd, Int.reduceSub, Int.reduceMul, Int.reduceEq, hfl, hfl1, hfl2, hfl3, hfl4, hfl5, hfl6, NE, NE9, Nat.add_assoc]
  refine call_of (t1 _ _) ?_
  simp only [↓R1, R2, R3, R4, TY, reduceIte, Nat.reduceEqDiff, Nat.reduceAdd, Nat.reduceMul, Nat.reduceLT, Nat.reduceLeDiff, reduceCtorEq, decide_true, decide_false, Int.reduceLE, Int.reduceLT, Int.reduceToNat, Int.reduceAdd, Int.reduceSub, Int.reduceMul, Int.reduceEq, hfl, hfl1, hfl2, hfl3, hfl4, hfl5, hfl6, NE, NE9, Nat.add_assoc]
  refine Ended.back hA ?_ rfl hrb
  simp (maxDischargeDepth := 20) only [xt_push, xt_put, xt_refl, Nat.le_refl, Nat.le_add_right, Nat.add_assoc, Nat.reduceAdd]

set_option maxHeartbeats 2000000 in
theorem tfit_some {t : Rat} {k : Nat} (hG : G 1 = some tabV) (h : Rz t k) (hk : k ≤ 100000) : Sound Tryz.prog G 149 [tnV (some t)] fl A (tnV (some t)) A := by
  refine Sound.of mixed Tryz.func149 Tryz.ntmps149 Tryz.results149 (by kernel_rfl) rfl (by kernel_rfl) (by simp) fun hA => ?_
  have hfl : fl ≤ A.next := by have := hA.floor; omega
  have hfl1 : fl ≤ A.next + 1 := by have := hA.floor; omega
  have hfl2 : fl ≤ A.next + 2 := by have := hA.floor; omega
  have hfl3 : fl ≤ A.next + 3 := by have := hA.floor; omega
  have hfl4 : fl ≤ A.next + 4 := by have := hA.floor; omega
  have hfl5 : fl ≤ A.next + 5 := by have := hA.floor; omega
  have hfl6 : fl ≤ A.next + 6 := by have := hA.floor; omega
  have t1 := fun fl A => tof (G := G) (fl := fl) (A := A) hG h hk
  have hrb := tnV_rb A.next (some t)
  rw [ratV_def, tnV_some] at t1
  rw [tnV_some] at hrb ⊢
  simp only [↓R1, R2, R3, R4, TY, reduceIte, Nat.reduceEqDiff, Nat.reduceAdd, Nat.reduceMul, Nat.reduceLT, Nat.reduceLeDiff, reduceCtorEq, decide_true, decide_false, Int.reduceLE, Int.reduceLT, Int.reduceToNat, Int.reduceAdd, Int.reduceSub, Int.reduceMul, Int.reduceEq, hfl, hfl1, hfl2, hfl3, hfl4, hfl5, hfl6, NE, NE9, Nat.add_assoc]
  refine call_of (t1 _ _) ?_
  simp only [↓R1, R2, R3, R4, TY, reduceIte, Nat.reduceEqDiff, Nat.reduceAdd, Nat.reduceMul, Nat.reduceLT, Nat.reduceLeDiff, reduceCtorEq, decide_true, decide_false, Int.reduceLE, Int.reduceLT, Int.reduceToNat, Int.reduceAdd, Int.reduceSub, Int.reduceMul, Int.reduceEq, hfl, hfl1, hfl2, hfl3, hfl4, hfl5, hfl6, NE, NE9, Nat.add_assoc]
  refine Ended.back hA ?_ rfl hrb
  simp (maxDischargeDepth := 20) only [xt_push, xt_put, xt_refl, Nat.le_refl, Nat.le_add_right, Nat.add_assoc, Nat.reduceAdd]

set_option maxHeartbeats 2000000 in
theorem tcos_half  (hG : G 1 = some tabV)  : Sound Tryz.prog G 119 [tnV none] fl A (ratV (tcos none)) A := by
  refine Sound.of mixed Tryz.func119 Tryz.ntmps119 Tryz.results119 (by kernel_rfl) rfl (by kernel_rfl) (by simp) fun hA => ?_
  have hfl : fl ≤ A.next := by have := hA.floor; omega
  have hfl1 : fl ≤ A.next + 1 := by have := hA.floor; omega
  have hfl2 : fl ≤ A.next + 2 := by have := hA.floor; omega
  have hfl3 : fl ≤ A.next + 3 := by have := hA.floor; omega
  have hfl4 : fl ≤ A.next + 4 := by have := hA.floor; omega
  have hfl5 : fl ≤ A.next + 5 := by have := hA.floor; omega
  have hfl6 : fl ≤ A.next + 6 := by have := hA.floor; omega
  have f1 := fun fl A => tfit_half (G := G) (fl := fl) (A := A) hG
  have zn := fun fl A => rof_ok (G := G) (fl := fl) (A := A) (n := -1) (by decide) (by decide)
  have hrb := ratV_rb A.next (tcos none)
  rw [tnV_none] at f1 ⊢
  rw [rOf_neg1, ratV_def] at zn
  rw [show tcos none = -1 from rfl] at hrb ⊢
  rw [ratV_def] at hrb ⊢
  simp only [↓R1, R2, R3, R4, TY, reduceIte, Nat.reduceEqDiff, Nat.reduceAdd, Nat.reduceMul, Nat.reduceLT, Nat.reduceLeDiff, reduceCtorEq, decide_true, decide_false, Int.reduceLE, Int.reduceLT, Int.reduceToNat, Int.reduceAdd, Int.reduceSub, Int.reduceMul, Int.reduceEq, hfl, hfl1, hfl2, hfl3, hfl4, hfl5, hfl6, NE, NE9, Nat.add_assoc]
  refine call_of (f1 _ _) ?_
  simp only [↓R1, R2, R3, R4, TY, reduceIte, Nat.reduceEqDiff, Nat.reduceAdd, Nat.reduceMul, Nat.reduceLT, Nat.reduceLeDiff, reduceCtorEq, decide_true, decide_false, Int.reduceLE, Int.reduceLT, Int.reduceToNat, Int.reduceAdd, Int.reduceSub, Int.reduceMul, Int.reduceEq, hfl, hfl1, hfl2, hfl3, hfl4, hfl5, hfl6, NE, NE9, Nat.add_assoc]
  refine call_of (zn _ _) ?_
  simp only [↓R1, R2, R3, R4, TY, reduceIte, Nat.reduceEqDiff, Nat.reduceAdd, Nat.reduceMul, Nat.reduceLT, Nat.reduceLeDiff, reduceCtorEq, decide_true, decide_false, Int.reduceLE, Int.reduceLT, Int.reduceToNat, Int.reduceAdd, Int.reduceSub, Int.reduceMul, Int.reduceEq, hfl, hfl1, hfl2, hfl3, hfl4, hfl5, hfl6, NE, NE9, Nat.add_assoc]
  refine Ended.back hA ?_ rfl hrb
  simp (maxDischargeDepth := 20) only [xt_push, xt_put, xt_refl, Nat.le_refl, Nat.le_add_right, Nat.add_assoc, Nat.reduceAdd]

set_option maxHeartbeats 2000000 in
theorem tcos_some {t : Rat} {k : Nat} (hG : G 1 = some tabV) (h : Rz t k) (hk : k ≤ 10000) : Sound Tryz.prog G 119 [tnV (some t)] fl A (ratV (tcos (some t))) A := by
  refine Sound.of mixed Tryz.func119 Tryz.ntmps119 Tryz.results119 (by kernel_rfl) rfl (by kernel_rfl) (by simp) fun hA => ?_
  have hfl : fl ≤ A.next := by have := hA.floor; omega
  have hfl1 : fl ≤ A.next + 1 := by have := hA.floor; omega
  have hfl2 : fl ≤ A.next + 2 := by have := hA.floor; omega
  have hfl3 : fl ≤ A.next + 3 := by have := hA.floor; omega
  have hfl4 : fl ≤ A.next + 4 := by have := hA.floor; omega
  have hfl5 : fl ≤ A.next + 5 := by have := hA.floor; omega
  have hfl6 : fl ≤ A.next + 6 := by have := hA.floor; omega
  have f1 := fun fl A => tfit_some (G := G) (fl := fl) (A := A) hG h (by omega)
  have z1 := fun fl A => rof_ok (G := G) (fl := fl) (A := A) (n := 1) (by decide) (by decide)
  have m1 := fun fl A => qmul (G := G) (fl := fl) (A := A) hG h h (by omega)
  have s1 := fun fl A => qsub (G := G) (fl := fl) (A := A) hG rz_one (h.mul h) (by omega)
  have a1 := fun fl A => qadd (G := G) (fl := fl) (A := A) hG rz_one (h.mul h) (by omega)
  have d1 := fun fl A => qdiv (G := G) (fl := fl) (A := A) hG (rz_one.sub (h.mul h)) (rz_one.add (h.mul h)) (by omega) (num_ne (one_sq t))
  have hrb := ratV_rb A.next (tcos (some t))
  rw [tnV_some] at f1 ⊢
  rw [rOf_one, ratV_def] at z1
  rw [show tcos (some t) = (1 - t * t) / (1 + t * t) from rfl] at hrb ⊢
  rw [ratV_def t, ratV_def (t * t)] at m1
  rw [ratV_def 1, ratV_def (t * t), ratV_def (1 - t * t)] at s1
  rw [ratV_def 1, ratV_def (t * t), ratV_def (1 + t * t)] at a1
  rw [ratV_def (1 - t * t), ratV_def (1 + t * t), ratV_def (_ / _)] at d1
  rw [ratV_def] at hrb ⊢
  simp only [↓R1, R2, R3, R4, TY, reduceIte, Nat.reduceEqDiff, Nat.reduceAdd, Nat.reduceMul, Nat.reduceLT, Nat.reduceLeDiff, reduceCtorEq, decide_true, decide_false, Int.reduceLE, Int.reduceLT, Int.reduceToNat, Int.reduceAdd, Int.reduceSub, Int.reduceMul, Int.reduceEq, hfl, hfl1, hfl2, hfl3, hfl4, hfl5, hfl6, NE, NE9, Nat.add_assoc]
  refine call_of (f1 _ _) ?_
  simp only [↓R1, R2, R3, R4, TY, reduceIte, Nat.reduceEqDiff, Nat.reduceAdd, Nat.reduceMul, Nat.reduceLT, Nat.reduceLeDiff, reduceCtorEq, decide_true, decide_false, Int.reduceLE, Int.reduceLT, Int.reduceToNat, Int.reduceAdd, Int.reduceSub, Int.reduceMul, Int.reduceEq, hfl, hfl1, hfl2, hfl3, hfl4, hfl5, hfl6, NE, NE9, Nat.add_assoc]
  refine call_of (m1 _ _) ?_
  simp only [↓R1, R2, R3, R4, TY, reduceIte, Nat.reduceEqDiff, Nat.reduceAdd, Nat.reduceMul, Nat.reduceLT, Nat.reduceLeDiff, reduceCtorEq, decide_true, decide_false, Int.reduceLE, Int.reduceLT, Int.reduceToNat, Int.reduceAdd, Int.reduceSub, Int.reduceMul, Int.reduceEq, hfl, hfl1, hfl2, hfl3, hfl4, hfl5, hfl6, NE, NE9, Nat.add_assoc]
  refine call_of (z1 _ _) ?_
  simp only [↓R1, R2, R3, R4, TY, reduceIte, Nat.reduceEqDiff, Nat.reduceAdd, Nat.reduceMul, Nat.reduceLT, Nat.reduceLeDiff, reduceCtorEq, decide_true, decide_false, Int.reduceLE, Int.reduceLT, Int.reduceToNat, Int.reduceAdd, Int.reduceSub, Int.reduceMul, Int.reduceEq, hfl, hfl1, hfl2, hfl3, hfl4, hfl5, hfl6, NE, NE9, Nat.add_assoc]
  refine call_of (s1 _ _) ?_
  simp only [↓R1, R2, R3, R4, TY, reduceIte, Nat.reduceEqDiff, Nat.reduceAdd, Nat.reduceMul, Nat.reduceLT, Nat.reduceLeDiff, reduceCtorEq, decide_true, decide_false, Int.reduceLE, Int.reduceLT, Int.reduceToNat, Int.reduceAdd, Int.reduceSub, Int.reduceMul, Int.reduceEq, hfl, hfl1, hfl2, hfl3, hfl4, hfl5, hfl6, NE, NE9, Nat.add_assoc]
  refine call_of (z1 _ _) ?_
  simp only [↓R1, R2, R3, R4, TY, reduceIte, Nat.reduceEqDiff, Nat.reduceAdd, Nat.reduceMul, Nat.reduceLT, Nat.reduceLeDiff, reduceCtorEq, decide_true, decide_false, Int.reduceLE, Int.reduceLT, Int.reduceToNat, Int.reduceAdd, Int.reduceSub, Int.reduceMul, Int.reduceEq, hfl, hfl1, hfl2, hfl3, hfl4, hfl5, hfl6, NE, NE9, Nat.add_assoc]
  refine call_of (a1 _ _) ?_
  simp only [↓R1, R2, R3, R4, TY, reduceIte, Nat.reduceEqDiff, Nat.reduceAdd, Nat.reduceMul, Nat.reduceLT, Nat.reduceLeDiff, reduceCtorEq, decide_true, decide_false, Int.reduceLE, Int.reduceLT, Int.reduceToNat, Int.reduceAdd, Int.reduceSub, Int.reduceMul, Int.reduceEq, hfl, hfl1, hfl2, hfl3, hfl4, hfl5, hfl6, NE, NE9, Nat.add_assoc]
  refine call_of (d1 _ _) ?_
  simp only [↓R1, R2, R3, R4, TY, reduceIte, Nat.reduceEqDiff, Nat.reduceAdd, Nat.reduceMul, Nat.reduceLT, Nat.reduceLeDiff, reduceCtorEq, decide_true, decide_false, Int.reduceLE, Int.reduceLT, Int.reduceToNat, Int.reduceAdd, Int.reduceSub, Int.reduceMul, Int.reduceEq, hfl, hfl1, hfl2, hfl3, hfl4, hfl5, hfl6, NE, NE9, Nat.add_assoc]
  rw [floOf_wr (by kernel_rfl)]
  simp only [↓R1, R2, R3, R4, TY, reduceIte, Nat.reduceEqDiff, Nat.reduceAdd, Nat.reduceMul, Nat.reduceLT, Nat.reduceLeDiff, reduceCtorEq, decide_true, decide_false, Int.reduceLE, Int.reduceLT, Int.reduceToNat, Int.reduceAdd, Int.reduceSub, Int.reduceMul, Int.reduceEq, hfl, hfl1, hfl2, hfl3, hfl4, hfl5, hfl6, NE, NE9, Nat.add_assoc]
  refine Ended.back hA ?_ rfl hrb
  simp (maxDischargeDepth := 20) only [xt_push, xt_put, xt_refl, Nat.le_refl, Nat.le_add_right, Nat.add_assoc, Nat.reduceAdd]

set_option maxHeartbeats 2000000 in
theorem tsin_half  (hG : G 1 = some tabV)  : Sound Tryz.prog G 120 [tnV none] fl A (ratV (tsin none)) A := by
  refine Sound.of mixed Tryz.func120 Tryz.ntmps120 Tryz.results120 (by kernel_rfl) rfl (by kernel_rfl) (by simp) fun hA => ?_
  have hfl : fl ≤ A.next := by have := hA.floor; omega
  have hfl1 : fl ≤ A.next + 1 := by have := hA.floor; omega
  have hfl2 : fl ≤ A.next + 2 := by have := hA.floor; omega
  have hfl3 : fl ≤ A.next + 3 := by have := hA.floor; omega
  have hfl4 : fl ≤ A.next + 4 := by have := hA.floor; omega
  have hfl5 : fl ≤ A.next + 5 := by have := hA.floor; omega
  have hfl6 : fl ≤ A.next + 6 := by have := hA.floor; omega
  have f1 := fun fl A => tfit_half (G := G) (fl := fl) (A := A) hG
  have h := rz_zero
  have z1 := fun fl A => rof_ok (G := G) (fl := fl) (A := A) (n := 1) (by decide) (by decide)
  have a1 := fun fl A => qadd (G := G) (fl := fl) (A := A) hG h h (by omega)
  have m1 := fun fl A => qmul (G := G) (fl := fl) (A := A) hG h h (by omega)
  have a2 := fun fl A => qadd (G := G) (fl := fl) (A := A) hG rz_one (h.mul h) (by omega)
  have d1 := fun fl A => qdiv (G := G) (fl := fl) (A := A) hG (h.add h) (rz_one.add (h.mul h)) (by omega) (num_ne (one_sq (0 : Rat)))
  have hrb := ratV_rb A.next (tsin none)
  rw [tnV_none] at f1 ⊢
  rw [rOf_one, ratV_def] at z1
  rw [show tsin none = ((0 : Rat) + (0 : Rat)) / (1 + (0 : Rat) * (0 : Rat)) from rfl] at hrb ⊢
  rw [ratV_def ((0 : Rat)), ratV_def ((0 : Rat) + (0 : Rat))] at a1
  rw [ratV_def ((0 : Rat)), ratV_def ((0 : Rat) * (0 : Rat))] at m1
  rw [ratV_def (1), ratV_def ((0 : Rat) * (0 : Rat)), ratV_def (1 + (0 : Rat) * (0 : Rat))] at a2
  rw [ratV_def ((0 : Rat) + (0 : Rat)), ratV_def (1 + (0 : Rat) * (0 : Rat)), ratV_def (_ / _)] at d1
  rw [ratV_def] at hrb ⊢
  simp only [↓R1, R2, R3, R4, TY, reduceIte, Nat.reduceEqDiff, Nat.reduceAdd, Nat.reduceMul, Nat.reduceLT, Nat.reduceLeDiff, reduceCtorEq, decide_true, decide_false, Int.reduceLE, Int.reduceLT, Int.reduceToNat, Int.reduceAdd, Int.reduceSub, Int.reduceMul, Int.reduceEq, hfl, hfl1, hfl2, hfl3, hfl4, hfl5, hfl6, NE, NE9, Nat.add_assoc]
  refine call_of (f1 _ _) ?_
  simp only [↓R1, R2, R3, R4, TY, reduceIte, Nat.reduceEqDiff, Nat.reduceAdd, Nat.reduceMul, Nat.reduceLT, Nat.reduceLeDiff, reduceCtorEq, decide_true, decide_false, Int.reduceLE, Int.reduceLT, Int.reduceToNat, Int.reduceAdd, Int.reduceSub, Int.reduceMul, Int.reduceEq, hfl, hfl1, hfl2, hfl3, hfl4, hfl5, hfl6, NE, NE9, Nat.add_assoc]
  refine call_of (a1 _ _) ?_
  simp only [↓R1, R2, R3, R4, TY, reduceIte, Nat.reduceEqDiff, Nat.reduceAdd, Nat.reduceMul, Nat.reduceLT, Nat.reduceLeDiff, reduceCtorEq, decide_true, decide_false, Int.reduceLE, Int.reduceLT, Int.reduceToNat, Int.reduceAdd, Int.reduceSub, Int.reduceMul, Int.reduceEq, hfl, hfl1, hfl2, hfl3, hfl4, hfl5, hfl6, NE, NE9, Nat.add_assoc]
  refine call_of (z1 _ _) ?_
  simp only [↓R1, R2, R3, R4, TY, reduceIte, Nat.reduceEqDiff, Nat.reduceAdd, Nat.reduceMul, Nat.reduceLT, Nat.reduceLeDiff, reduceCtorEq, decide_true, decide_false, Int.reduceLE, Int.reduceLT, Int.reduceToNat, Int.reduceAdd, Int.reduceSub, Int.reduceMul, Int.reduceEq, hfl, hfl1, hfl2, hfl3, hfl4, hfl5, hfl6, NE, NE9, Nat.add_assoc]
  refine call_of (m1 _ _) ?_
  simp only [↓R1, R2, R3, R4, TY, reduceIte, Nat.reduceEqDiff, Nat.reduceAdd, Nat.reduceMul, Nat.reduceLT, Nat.reduceLeDiff, reduceCtorEq, decide_true, decide_false, Int.reduceLE, Int.reduceLT, Int.reduceToNat, Int.reduceAdd, Int.reduceSub, Int.reduceMul, Int.reduceEq, hfl, hfl1, hfl2, hfl3, hfl4, hfl5, hfl6, NE, NE9, Nat.add_assoc]
  refine call_of (a2 _ _) ?_
  simp only [↓R1, R2, R3, R4, TY, reduceIte, Nat.reduceEqDiff, Nat.reduceAdd, Nat.reduceMul, Nat.reduceLT, Nat.reduceLeDiff, reduceCtorEq, decide_true, decide_false, Int.reduceLE, Int.reduceLT, Int.reduceToNat, Int.reduceAdd, Int.reduceSub, Int.reduceMul, Int.reduceEq, hfl, hfl1, hfl2, hfl3, hfl4, hfl5, hfl6, NE, NE9, Nat.add_assoc]
  refine call_of (d1 _ _) ?_
  simp only [↓R1, R2, R3, R4, TY, reduceIte, Nat.reduceEqDiff, Nat.reduceAdd, Nat.reduceMul, Nat.reduceLT, Nat.reduceLeDiff, reduceCtorEq, decide_true, decide_false, Int.reduceLE, Int.reduceLT, Int.reduceToNat, Int.reduceAdd, Int.reduceSub, Int.reduceMul, Int.reduceEq, hfl, hfl1, hfl2, hfl3, hfl4, hfl5, hfl6, NE, NE9, Nat.add_assoc]
  rw [floOf_wr (by kernel_rfl)]
  simp only [↓R1, R2, R3, R4, TY, reduceIte, Nat.reduceEqDiff, Nat.reduceAdd, Nat.reduceMul, Nat.reduceLT, Nat.reduceLeDiff, reduceCtorEq, decide_true, decide_false, Int.reduceLE, Int.reduceLT, Int.reduceToNat, Int.reduceAdd, Int.reduceSub, Int.reduceMul, Int.reduceEq, hfl, hfl1, hfl2, hfl3, hfl4, hfl5, hfl6, NE, NE9, Nat.add_assoc]
  refine Ended.back hA ?_ rfl hrb
  simp (maxDischargeDepth := 20) only [xt_push, xt_put, xt_refl, Nat.le_refl, Nat.le_add_right, Nat.add_assoc, Nat.reduceAdd]

set_option maxHeartbeats 2000000 in
theorem tsin_some {t : Rat} {k : Nat} (hG : G 1 = some tabV) (h : Rz t k) (hk : k ≤ 10000) : Sound Tryz.prog G 120 [tnV (some t)] fl A (ratV (tsin (some t))) A := by
  refine Sound.of mixed Tryz.func120 Tryz.ntmps120 Tryz.results120 (by kernel_rfl) rfl (by kernel_rfl) (by simp) fun hA => ?_
  have hfl : fl ≤ A.next := by have := hA.floor; omega
  have hfl1 : fl ≤ A.next + 1 := by have := hA.floor; omega
  have hfl2 : fl ≤ A.next + 2 := by have := hA.floor; omega
  have hfl3 : fl ≤ A.next + 3 := by have := hA.floor; omega
  have hfl4 : fl ≤ A.next + 4 := by have := hA.floor; omega
  have hfl5 : fl ≤ A.next + 5 := by have := hA.floor; omega
  have hfl6 : fl ≤ A.next + 6 := by have := hA.floor; omega
  have f1 := fun fl A => tfit_some (G := G) (fl := fl) (A := A) hG h (by omega)
  have z1 := fun fl A => rof_ok (G := G) (fl := fl) (A := A) (n := 1) (by decide) (by decide)
  have a1 := fun fl A => qadd (G := G) (fl := fl) (A := A) hG h h (by omega)
  have m1 := fun fl A => qmul (G := G) (fl := fl) (A := A) hG h h (by omega)
  have a2 := fun fl A => qadd (G := G) (fl := fl) (A := A) hG rz_one (h.mul h) (by omega)
  have d1 := fun fl A => qdiv (G := G) (fl := fl) (A := A) hG (h.add h) (rz_one.add (h.mul h)) (by omega) (num_ne (one_sq t))
  have hrb := ratV_rb A.next (tsin (some t))
  rw [tnV_some] at f1 ⊢
  rw [rOf_one, ratV_def] at z1
  rw [show tsin (some t) = (t + t) / (1 + t * t) from rfl] at hrb ⊢
  rw [ratV_def (t), ratV_def (t + t)] at a1
  rw [ratV_def (t), ratV_def (t * t)] at m1
  rw [ratV_def (1), ratV_def (t * t), ratV_def (1 + t * t)] at a2
  rw [ratV_def (t + t), ratV_def (1 + t * t), ratV_def (_ / _)] at d1
  rw [ratV_def] at hrb ⊢
  simp only [↓R1, R2, R3, R4, TY, reduceIte, Nat.reduceEqDiff, Nat.reduceAdd, Nat.reduceMul, Nat.reduceLT, Nat.reduceLeDiff, reduceCtorEq, decide_true, decide_false, Int.reduceLE, Int.reduceLT, Int.reduceToNat, Int.reduceAdd, Int.reduceSub, Int.reduceMul, Int.reduceEq, hfl, hfl1, hfl2, hfl3, hfl4, hfl5, hfl6, NE, NE9, Nat.add_assoc]
  refine call_of (f1 _ _) ?_
  simp only [↓R1, R2, R3, R4, TY, reduceIte, Nat.reduceEqDiff, Nat.reduceAdd, Nat.reduceMul, Nat.reduceLT, Nat.reduceLeDiff, reduceCtorEq, decide_true, decide_false, Int.reduceLE, Int.reduceLT, Int.reduceToNat, Int.reduceAdd, Int.reduceSub, Int.reduceMul, Int.reduceEq, hfl, hfl1, hfl2, hfl3, hfl4, hfl5, hfl6, NE, NE9, Nat.add_assoc]
  refine call_of (a1 _ _) ?_
  simp only [↓R1, R2, R3, R4, TY, reduceIte, Nat.reduceEqDiff, Nat.reduceAdd, Nat.reduceMul, Nat.reduceLT, Nat.reduceLeDiff, reduceCtorEq, decide_true, decide_false, Int.reduceLE, Int.reduceLT, Int.reduceToNat, Int.reduceAdd, Int.reduceSub, Int.reduceMul, Int.reduceEq, hfl, hfl1, hfl2, hfl3, hfl4, hfl5, hfl6, NE, NE9, Nat.add_assoc]
  refine call_of (z1 _ _) ?_
  simp only [↓R1, R2, R3, R4, TY, reduceIte, Nat.reduceEqDiff, Nat.reduceAdd, Nat.reduceMul, Nat.reduceLT, Nat.reduceLeDiff, reduceCtorEq, decide_true, decide_false, Int.reduceLE, Int.reduceLT, Int.reduceToNat, Int.reduceAdd, Int.reduceSub, Int.reduceMul, Int.reduceEq, hfl, hfl1, hfl2, hfl3, hfl4, hfl5, hfl6, NE, NE9, Nat.add_assoc]
  refine call_of (m1 _ _) ?_
  simp only [↓R1, R2, R3, R4, TY, reduceIte, Nat.reduceEqDiff, Nat.reduceAdd, Nat.reduceMul, Nat.reduceLT, Nat.reduceLeDiff, reduceCtorEq, decide_true, decide_false, Int.reduceLE, Int.reduceLT, Int.reduceToNat, Int.reduceAdd, Int.reduceSub, Int.reduceMul, Int.reduceEq, hfl, hfl1, hfl2, hfl3, hfl4, hfl5, hfl6, NE, NE9, Nat.add_assoc]
  refine call_of (a2 _ _) ?_
  simp only [↓R1, R2, R3, R4, TY, reduceIte, Nat.reduceEqDiff, Nat.reduceAdd, Nat.reduceMul, Nat.reduceLT, Nat.reduceLeDiff, reduceCtorEq, decide_true, decide_false, Int.reduceLE, Int.reduceLT, Int.reduceToNat, Int.reduceAdd, Int.reduceSub, Int.reduceMul, Int.reduceEq, hfl, hfl1, hfl2, hfl3, hfl4, hfl5, hfl6, NE, NE9, Nat.add_assoc]
  refine call_of (d1 _ _) ?_
  simp only [↓R1, R2, R3, R4, TY, reduceIte, Nat.reduceEqDiff, Nat.reduceAdd, Nat.reduceMul, Nat.reduceLT, Nat.reduceLeDiff, reduceCtorEq, decide_true, decide_false, Int.reduceLE, Int.reduceLT, Int.reduceToNat, Int.reduceAdd, Int.reduceSub, Int.reduceMul, Int.reduceEq, hfl, hfl1, hfl2, hfl3, hfl4, hfl5, hfl6, NE, NE9, Nat.add_assoc]
  rw [floOf_wr (by kernel_rfl)]
  simp only [↓R1, R2, R3, R4, TY, reduceIte, Nat.reduceEqDiff, Nat.reduceAdd, Nat.reduceMul, Nat.reduceLT, Nat.reduceLeDiff, reduceCtorEq, decide_true, decide_false, Int.reduceLE, Int.reduceLT, Int.reduceToNat, Int.reduceAdd, Int.reduceSub, Int.reduceMul, Int.reduceEq, hfl, hfl1, hfl2, hfl3, hfl4, hfl5, hfl6, NE, NE9, Nat.add_assoc]
  refine Ended.back hA ?_ rfl hrb
  simp (maxDischargeDepth := 20) only [xt_push, xt_put, xt_refl, Nat.le_refl, Nat.le_add_right, Nat.add_assoc, Nat.reduceAdd]

theorem tcos_ok {a : Option Rat} {k : Nat} (hG : G 1 = some tabV) (h : Rz (a.getD 0) k) (hk : k ≤ 10000) : Sound Tryz.prog G 119 [tnV a] fl A (ratV (tcos a)) A := by
  cases a with
  | none => exact tcos_half hG
  | some t => exact tcos_some hG h hk
theorem tsin_ok {a : Option Rat} {k : Nat} (hG : G 1 = some tabV) (h : Rz (a.getD 0) k) (hk : k ≤ 10000) : Sound Tryz.prog G 120 [tnV a] fl A (ratV (tsin a)) A := by
  cases a with
  | none => exact tsin_half hG
  | some t => exact tsin_some hG h hk

end
end Go.Proofs.YthclikeipdplpaaGreatDoor.Ab

/- Turns: comparison, turned, turnBegun. -/
namespace Go.Proofs.YthclikeipdplpaaGreatDoor.Ab
open Go.RowKit
set_option linter.unusedVariables false
set_option linter.unusedSimpArgs false
set_option maxRecDepth 100000

def trn (x : Int) : Option Rat := if below x 5 = 0 then none else some (mrat x)
theorem trn_rz (x : Int) : Rz ((trn x).getD 0) 1 := by
  unfold trn; split
  · exact rz_zero
  · exact mrat_rz x
theorem eqD_turn (o r : Option Rat) : eqD Tryz.prog 20 144 (tnV o) (tnV r) = some (decide (o = r)) := by
  have hst : Tryz.prog.stoodInHeld 24 = false := by kernel_rfl
  have hst2 : Tryz.prog.stoodInHeld 144 = false := by kernel_rfl
  have h1 : eqD Tryz.prog 20 144 (tnV o) (tnV r) = some ((o.isNone == r.isNone) && decide (o.getD 0 = r.getD 0)) := by
    simp [eqD, tnV, Tryz.underlying24, Tryz.underlying144, Tryz.underlying9, Tryz.underlying4, eqFs, partV, ty9, ty4, ty24, hst, hst2, S_inj]
    rw [rat_beq]
  rw [h1]
  cases o <;> cases r <;> simp
theorem guard_turn : Tryz.prog.eqGuardType Tryz.prog.depth 144 = false := by kernel_rfl
theorem begun_turn : tcos (some (((1 : Int) : Rat) / ((2 : Int) : Rat))) = ((3 : Int) : Rat) / ((5 : Int) : Rat) ∧ tsin (some (((1 : Int) : Rat) / ((2 : Int) : Rat))) = ((4 : Int) : Rat) / ((5 : Int) : Rat) := by decide +kernel

section
variable {G : Gl} {fl : Nat} {A : Hp}

set_option maxHeartbeats 2000000 in
theorem turnBegun_ok  (hG : G 1 = some tabV)  : Sound Tryz.prog G 97 [] fl A (.bool true) A := by
  refine Sound.of mixed Tryz.func97 Tryz.ntmps97 Tryz.results97 (by kernel_rfl) rfl (by kernel_rfl) (by simp) fun hA => ?_
  have hfl : fl ≤ A.next := by have := hA.floor; omega
  have hfl1 : fl ≤ A.next + 1 := by have := hA.floor; omega
  have hfl2 : fl ≤ A.next + 2 := by have := hA.floor; omega
  have hfl3 : fl ≤ A.next + 3 := by have := hA.floor; omega
  have hfl4 : fl ≤ A.next + 4 := by have := hA.floor; omega
  have hfl5 : fl ≤ A.next + 5 := by have := hA.floor; omega
  have hfl6 : fl ≤ A.next + 6 := by have := hA.floor; omega
  have n1 := fun fl A => num_ok (G := G) (fl := fl) (A := A) (m := 1) (n := 2) hG (by omega) (by omega) (by omega) (by omega) (by omega)
  have n2 := fun fl A => num_ok (G := G) (fl := fl) (A := A) (m := 3) (n := 5) hG (by omega) (by omega) (by omega) (by omega) (by omega)
  have n3 := fun fl A => num_ok (G := G) (fl := fl) (A := A) (m := 4) (n := 5) hG (by omega) (by omega) (by omega) (by omega) (by omega)
  have z := num_rz (m := 1) (n := 2) (by omega) (by omega) (by omega) (by omega) (by omega)
  have t1 := fun fl A => tof (G := G) (fl := fl) (A := A) hG z (by omega)
  have c1 := fun fl A => tcos_some (G := G) (fl := fl) (A := A) hG z (by omega)
  have c2 := fun fl A => tsin_some (G := G) (fl := fl) (A := A) hG z (by omega)
  have bg := fun fl A => ratBegun_ok (G := G) (fl := fl) (A := A)
  have hd1 := eqD_rat (((3 : Int) : Rat) / ((5 : Int) : Rat)) (((3 : Int) : Rat) / ((5 : Int) : Rat))
  have hd2 := eqD_rat (((4 : Int) : Rat) / ((5 : Int) : Rat)) (((4 : Int) : Rat) / ((5 : Int) : Rat))
  rw [begun_turn.1] at c1
  rw [begun_turn.2] at c2
  generalize ((1 : Int) : Rat) / ((2 : Int) : Rat) = u1 at *
  generalize ((3 : Int) : Rat) / ((5 : Int) : Rat) = u2 at *
  generalize ((4 : Int) : Rat) / ((5 : Int) : Rat) = u3 at *
  rw [decide_eq_true rfl] at hd1 hd2
  rw [ratV_def] at n1 n2 n3 hd1 hd2
  rw [ratV_def, tnV_some] at t1
  rw [tnV_some, ratV_def] at c1 c2
  simp only [↓R1, R2, R3, R4, TY, reduceIte, Nat.reduceEqDiff, Nat.reduceAdd, Nat.reduceMul, Nat.reduceLT, Nat.reduceLeDiff, reduceCtorEq, decide_true, decide_false, Int.reduceLE, Int.reduceLT, Int.reduceToNat, Int.reduceAdd, Int.reduceSub, Int.reduceMul, Int.reduceEq, hfl, hfl1, hfl2, hfl3, hfl4, hfl5, hfl6, NE, guard_rat, hd1, hd2]
  refine call_of (n1 _ _) ?_
  simp only [↓R1, R2, R3, R4, TY, reduceIte, Nat.reduceEqDiff, Nat.reduceAdd, Nat.reduceMul, Nat.reduceLT, Nat.reduceLeDiff, reduceCtorEq, decide_true, decide_false, Int.reduceLE, Int.reduceLT, Int.reduceToNat, Int.reduceAdd, Int.reduceSub, Int.reduceMul, Int.reduceEq, hfl, hfl1, hfl2, hfl3, hfl4, hfl5, hfl6, NE, guard_rat, hd1, hd2]
  refine call_of (t1 _ _) ?_
  simp only [↓R1, R2, R3, R4, TY, reduceIte, Nat.reduceEqDiff, Nat.reduceAdd, Nat.reduceMul, Nat.reduceLT, Nat.reduceLeDiff, reduceCtorEq, decide_true, decide_false, Int.reduceLE, Int.reduceLT, Int.reduceToNat, Int.reduceAdd, Int.reduceSub, Int.reduceMul, Int.reduceEq, hfl, hfl1, hfl2, hfl3, hfl4, hfl5, hfl6, NE, guard_rat, hd1, hd2]
  refine call_of (bg _ _) ?_
  simp only [↓R1, R2, R3, R4, TY, reduceIte, Nat.reduceEqDiff, Nat.reduceAdd, Nat.reduceMul, Nat.reduceLT, Nat.reduceLeDiff, reduceCtorEq, decide_true, decide_false, Int.reduceLE, Int.reduceLT, Int.reduceToNat, Int.reduceAdd, Int.reduceSub, Int.reduceMul, Int.reduceEq, hfl, hfl1, hfl2, hfl3, hfl4, hfl5, hfl6, NE, guard_rat, hd1, hd2]
  refine call_of (c1 _ _) ?_
  simp only [↓R1, R2, R3, R4, TY, reduceIte, Nat.reduceEqDiff, Nat.reduceAdd, Nat.reduceMul, Nat.reduceLT, Nat.reduceLeDiff, reduceCtorEq, decide_true, decide_false, Int.reduceLE, Int.reduceLT, Int.reduceToNat, Int.reduceAdd, Int.reduceSub, Int.reduceMul, Int.reduceEq, hfl, hfl1, hfl2, hfl3, hfl4, hfl5, hfl6, NE, guard_rat, hd1, hd2]
  refine call_of (n2 _ _) ?_
  simp only [↓R1, R2, R3, R4, TY, reduceIte, Nat.reduceEqDiff, Nat.reduceAdd, Nat.reduceMul, Nat.reduceLT, Nat.reduceLeDiff, reduceCtorEq, decide_true, decide_false, Int.reduceLE, Int.reduceLT, Int.reduceToNat, Int.reduceAdd, Int.reduceSub, Int.reduceMul, Int.reduceEq, hfl, hfl1, hfl2, hfl3, hfl4, hfl5, hfl6, NE, guard_rat, hd1, hd2]
  refine call_of (c2 _ _) ?_
  simp only [↓R1, R2, R3, R4, TY, reduceIte, Nat.reduceEqDiff, Nat.reduceAdd, Nat.reduceMul, Nat.reduceLT, Nat.reduceLeDiff, reduceCtorEq, decide_true, decide_false, Int.reduceLE, Int.reduceLT, Int.reduceToNat, Int.reduceAdd, Int.reduceSub, Int.reduceMul, Int.reduceEq, hfl, hfl1, hfl2, hfl3, hfl4, hfl5, hfl6, NE, guard_rat, hd1, hd2]
  refine call_of (n3 _ _) ?_
  simp only [↓R1, R2, R3, R4, TY, reduceIte, Nat.reduceEqDiff, Nat.reduceAdd, Nat.reduceMul, Nat.reduceLT, Nat.reduceLeDiff, reduceCtorEq, decide_true, decide_false, Int.reduceLE, Int.reduceLT, Int.reduceToNat, Int.reduceAdd, Int.reduceSub, Int.reduceMul, Int.reduceEq, hfl, hfl1, hfl2, hfl3, hfl4, hfl5, hfl6, NE, guard_rat, hd1, hd2]
  refine Ended.back hA ?_ rfl (RB.bool _)
  simp (maxDischargeDepth := 20) only [xt_push, xt_put, xt_refl, Nat.le_refl, Nat.le_add_right, Nat.add_assoc, Nat.reduceAdd]

end
end Go.Proofs.YthclikeipdplpaaGreatDoor.Ab

/- Turns: plain facts. -/
namespace Go.Proofs.YthclikeipdplpaaGreatDoor.Ab
open Go.RowKit
set_option linter.unusedVariables false
set_option linter.unusedSimpArgs false
set_option maxRecDepth 100000

theorem tnV_def (o : Option Rat) : tnV o = .agg #[.bool o.isNone, .bool (decide ((o.getD 0).num < 0)), .string (S (nb (o.getD 0).num.natAbs)), .string (S (nb (o.getD 0).den))] := rfl
theorem tthen_comm (a b : Option Rat) : tthen a b = tthen b a := by
  cases a <;> cases b <;> simp only [tthen] 
  rename_i x y
  rw [Rat.mul_comm x y, Rat.add_comm x y]
theorem tthen_zero (a : Option Rat) : tthen a (some 0) = a := by
  cases a with
  | none => simp [tthen, topp]
  | some x => simp only [tthen]; rw [if_neg (by grind)]; congr 1; grind
theorem tthen_back (a : Option Rat) : tthen a (tback a) = some 0 := by
  cases a with
  | none => simp [tthen, tback]
  | some x => simp only [tthen, tback, Option.map]; have := one_sq x; rw [if_neg (by grind)]; congr 1; grind
theorem tsq (a : Option Rat) : tcos a * tcos a + tsin a * tsin a = 1 := by
  cases a with
  | none => simp only [tcos, tsin, Option.getD]; grind
  | some x => simp only [tcos, tsin, Option.getD]; have := one_sq x; grind
theorem tcos_add (a b : Option Rat) : tcos (tthen a b) = tcos a * tcos b - tsin a * tsin b := by
  match a, b with
  | none, none => simp only [tthen, tcos, tsin, Option.getD]; grind
  | none, some y => 
    have := one_sq y
    simp only [tthen, topp]; split <;> simp only [tcos, tsin, Option.getD]
    · rename_i h; subst h; grind
    · have h2 : 1 + (-1 / y) * (-1 / y) ≠ 0 := one_sq _
      grind
  | some y, none => 
    have := one_sq y
    simp only [tthen, topp]; split <;> simp only [tcos, tsin, Option.getD]
    · rename_i h; subst h; grind
    · have h2 : 1 + (-1 / y) * (-1 / y) ≠ 0 := one_sq _
      grind
  | some x, some y => 
    have h1 := one_sq x
    have h2 := one_sq y
    simp only [tthen]; split <;> simp only [tcos, tsin, Option.getD]
    · rename_i h; grind
    · have h3 : 1 + ((x + y) / (1 - x * y)) * ((x + y) / (1 - x * y)) ≠ 0 := one_sq _
      grind
theorem tsin_add (a b : Option Rat) : tsin (tthen a b) = tsin a * tcos b + tcos a * tsin b := by
  match a, b with
  | none, none => simp only [tthen, tcos, tsin, Option.getD]; grind
  | none, some y => 
    have := one_sq y
    simp only [tthen, topp]; split <;> simp only [tcos, tsin, Option.getD]
    · rename_i h; subst h; grind
    · have h2 : 1 + (-1 / y) * (-1 / y) ≠ 0 := one_sq _
      grind
  | some y, none => 
    have := one_sq y
    simp only [tthen, topp]; split <;> simp only [tcos, tsin, Option.getD]
    · rename_i h; subst h; grind
    · have h2 : 1 + (-1 / y) * (-1 / y) ≠ 0 := one_sq _
      grind
  | some x, some y => 
    have h1 := one_sq x
    have h2 := one_sq y
    simp only [tthen]; split <;> simp only [tcos, tsin, Option.getD]
    · rename_i h; grind
    · have h3 : 1 + ((x + y) / (1 - x * y)) * ((x + y) / (1 - x * y)) ≠ 0 := one_sq _
      grind
/-- cosine and sine know the turn -/
theorem tcs_inj {a b : Option Rat} (hc : tcos a = tcos b) (hs : tsin a = tsin b) : a = b := by
  match a, b with
  | none, none => rfl
  | none, some y => have := one_sq y; simp only [tcos, tsin, Option.getD] at hc hs; exfalso; grind
  | some y, none => have := one_sq y; simp only [tcos, tsin, Option.getD] at hc hs; exfalso; grind
  | some x, some y => 
    have h1 := one_sq x
    have h2 := one_sq y
    simp only [tcos, tsin, Option.getD] at hc hs
    have e1 : (x + x) / (1 + x * x) = x * (1 + (1 - x * x) / (1 + x * x)) := by grind
    have e2 : (y + y) / (1 + y * y) = y * (1 + (1 - x * x) / (1 + x * x)) := by rw [hc]; grind
    have e3 : 1 + (1 - x * x) / (1 + x * x) ≠ 0 := by grind
    congr 1
    grind
theorem tthen_assoc (a b c : Option Rat) : tthen (tthen a b) c = tthen a (tthen b c) := by
  apply tcs_inj
  · simp only [tcos_add, tsin_add]; grind
  · simp only [tcos_add, tsin_add]; grind

end Go.Proofs.YthclikeipdplpaaGreatDoor.Ab
