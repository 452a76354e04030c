/- Turns. -/
import Derived.Test.YtjkimjmocfjjnaaDoorVo
import Derived.Test.YtjkimjmocfjjnaaDoorUe
namespace Go.Proofs.YtjkimjmocfjjnaaDoor.Ab
open Go.RowKit
set_option linter.unusedVariables false
set_option linter.unusedSimpArgs false
set_option maxRecDepth 100000

/-- A turn: none is the half turn. -/
def tnV (o : Option Rat) : Value := .agg #[.bool o.isNone, .bool (decide ((o.getD 0).num < 0)), .string (S (nb (o.getD 0).num.natAbs)), .string (S (nb (o.getD 0).den))]
theorem tnV_some (t : Rat) : tnV (some t) = .agg #[.bool false, .bool (decide (t.num < 0)), .string (S (nb t.num.natAbs)), .string (S (nb t.den))] := rfl
theorem tnV_rb (n : Nat) (o : Option Rat) : RB n (tnV o) := RB.agg fun v hv => by
  simp only [List.mem_cons, List.not_mem_nil, or_false] at hv
  rcases hv with rfl | rfl | rfl | rfl <;> exact RB.zc rfl
def tcos (o : Option Rat) : Rat := match o with | none => -1 | some t => (1 - t * t) / (1 + t * t)
def tsin (o : Option Rat) : Rat := (o.getD 0 + o.getD 0) / (1 + o.getD 0 * o.getD 0)
def topp (b : Rat) : Option Rat := if b = 0 then none else some (-1 / b)
def tthen (a b : Option Rat) : Option Rat := match a, b with
  | none, none => some 0
  | none, some y => topp y
  | some x, none => topp x
  | some x, some y => if 1 - x * y = 0 then none else some ((x + y) / (1 - x * y))
def tback (o : Option Rat) : Option Rat := o.map fun t => -t
theorem sq_nn (t : Rat) : 0 ≤ t * t := by
  rcases Rat.le_total (a := 0) (b := t) with h | h
  · exact Rat.mul_nonneg h h
  · have := Rat.mul_nonneg (a := -t) (b := -t) (by grind) (by grind)
    grind
theorem one_sq (t : Rat) : 1 + t * t ≠ 0 := by have := sq_nn t; grind
theorem num_ne {q : Rat} (h : q ≠ 0) : q.num ≠ 0 := fun e => h (Rat.num_eq_zero.1 e)
theorem rz_one : Rz 1 1 := Rz.of (n := 1) (k := 1) (by rw [show (1 : Int).natAbs = 1 from rfl, nb_one]; decide) (Nat.le_refl _)
theorem rz_neg1 : Rz (-1) 1 := rz_one.neg
theorem rOf_neg1 : rOf (-1) = -1 := rfl
theorem rz_cos {o : Option Rat} {k : Nat} (h : Rz (o.getD 0) k) : Rz (tcos o) (4 * k + 4) := by
  have := h.pos
  cases o with
  | none => exact rz_neg1.mono (by omega)
  | some t => exact ((rz_one.sub (h.mul h)).div (rz_one.add (h.mul h)) (num_ne (one_sq t))).mono (by omega)
theorem rz_sin {o : Option Rat} {k : Nat} (h : Rz (o.getD 0) k) : Rz (tsin o) (4 * k + 4) := ((h.add h).div (rz_one.add (h.mul h)) (num_ne (one_sq _))).mono (by omega)
section
variable {G : Gl} {fl : Nat} {A : Hp}

set_option maxHeartbeats 2000000 in
theorem tof {t : Rat} {k : Nat} (hG : G 1 = some tabV) (h : Rz t k) (hk : k ≤ 10000000000) : Sound Tryd.prog G 102 [ratV t] fl A (tnV (some t)) A := by
  refine Sound.of mixed Tryd.func102 Tryd.ntmps102 Tryd.results102 (by kernel_rfl) rfl (by kernel_rfl) (by kernel_rfl) fun hA => ?_
  have hfl : fl ≤ A.next := by have := hA.floor; omega
  have hfl1 : fl ≤ A.next + 1 := by have := hA.floor; omega
  have hfl2 : fl ≤ A.next + 2 := by have := hA.floor; omega
  have hfl3 : fl ≤ A.next + 3 := by have := hA.floor; omega
  have hfl4 : fl ≤ A.next + 4 := by have := hA.floor; omega
  have hfl5 : fl ≤ A.next + 5 := by have := hA.floor; omega
  have hfl6 : fl ≤ A.next + 6 := by have := hA.floor; omega
  have rm : ∀ x : Rat, rmin x x = x := fun x => by unfold rmin; split <;> rfl
  have m1 := fun fl A => qmin (G := G) (fl := fl) (A := A) hG h h (by omega)
  have hrb := tnV_rb A.next (some t)
  rw [rm, ratV_def] at m1
  rw [tnV_some] at hrb ⊢
  rw [ratV_def]
  simp only [↓R1, R2, R3, R4, TY, reduceIte, Nat.reduceEqDiff, Nat.reduceAdd, Nat.reduceMul, Nat.reduceLT, Nat.reduceLeDiff, reduceCtorEq, decide_true, decide_false, Int.reduceLE, Int.reduceLT, Int.reduceToNat, Int.reduceAdd, Int.reduceSub, Int.reduceMul, Int.reduceEq, hfl, hfl1, hfl2, hfl3, hfl4, hfl5, hfl6, NE, NE9, Nat.add_assoc]
  refine call_of (m1 _ _) ?_
  simp only [↓R1, R2, R3, R4, TY, reduceIte, Nat.reduceEqDiff, Nat.reduceAdd, Nat.reduceMul, Nat.reduceLT, Nat.reduceLeDiff, reduceCtorEq, decide_true, decide_false, Int.reduceLE, Int.reduceLT, Int.reduceToNat, Int.reduceAdd, Int.reduceSub, Int.reduceMul, Int.reduceEq, hfl, hfl1, hfl2, hfl3, hfl4, hfl5, hfl6, NE, NE9, Nat.add_assoc]
  refine Ended.back hA ?_ rfl hrb
  simp (maxDischargeDepth := 20) only [xt_push, xt_put, xt_refl, Nat.le_refl, Nat.le_add_right, Nat.add_assoc, Nat.reduceAdd]

set_option maxHeartbeats 2000000 in
theorem tfit_some {t : Rat} {k : Nat} (hG : G 1 = some tabV) (h : Rz t k) (hk : k ≤ 10000000000) : Sound Tryd.prog G 107 [tnV (some t)] fl A (tnV (some t)) A := by
  refine Sound.of mixed Tryd.func107 Tryd.ntmps107 Tryd.results107 (by kernel_rfl) rfl (by kernel_rfl) (by kernel_rfl) fun hA => ?_
  have hfl : fl ≤ A.next := by have := hA.floor; omega
  have hfl1 : fl ≤ A.next + 1 := by have := hA.floor; omega
  have hfl2 : fl ≤ A.next + 2 := by have := hA.floor; omega
  have hfl3 : fl ≤ A.next + 3 := by have := hA.floor; omega
  have hfl4 : fl ≤ A.next + 4 := by have := hA.floor; omega
  have hfl5 : fl ≤ A.next + 5 := by have := hA.floor; omega
  have hfl6 : fl ≤ A.next + 6 := by have := hA.floor; omega
  have t1 := fun fl A => tof (G := G) (fl := fl) (A := A) hG h hk
  have hrb := tnV_rb A.next (some t)
  rw [ratV_def, tnV_some] at t1
  rw [tnV_some] at hrb ⊢
  simp only [↓R1, R2, R3, R4, TY, reduceIte, Nat.reduceEqDiff, Nat.reduceAdd, Nat.reduceMul, Nat.reduceLT, Nat.reduceLeDiff, reduceCtorEq, decide_true, decide_false, Int.reduceLE, Int.reduceLT, Int.reduceToNat, Int.reduceAdd, Int.reduceSub, Int.reduceMul, Int.reduceEq, hfl, hfl1, hfl2, hfl3, hfl4, hfl5, hfl6, NE, NE9, Nat.add_assoc]
  refine call_of (t1 _ _) ?_
  simp only [↓R1, R2, R3, R4, TY, reduceIte, Nat.reduceEqDiff, Nat.reduceAdd, Nat.reduceMul, Nat.reduceLT, Nat.reduceLeDiff, reduceCtorEq, decide_true, decide_false, Int.reduceLE, Int.reduceLT, Int.reduceToNat, Int.reduceAdd, Int.reduceSub, Int.reduceMul, Int.reduceEq, hfl, hfl1, hfl2, hfl3, hfl4, hfl5, hfl6, NE, NE9, Nat.add_assoc]
  refine Ended.back hA ?_ rfl hrb
  simp (maxDischargeDepth := 20) only [xt_push, xt_put, xt_refl, Nat.le_refl, Nat.le_add_right, Nat.add_assoc, Nat.reduceAdd]

set_option maxHeartbeats 2000000 in
theorem tsin_some {t : Rat} {k : Nat} (hG : G 1 = some tabV) (h : Rz t k) (hk : k ≤ 1000000000) : Sound Tryd.prog G 101 [tnV (some t)] fl A (ratV (tsin (some t))) A := by
  refine Sound.of mixed Tryd.func101 Tryd.ntmps101 Tryd.results101 (by kernel_rfl) rfl (by kernel_rfl) (by kernel_rfl) fun hA => ?_
  have hfl : fl ≤ A.next := by have := hA.floor; omega
  have hfl1 : fl ≤ A.next + 1 := by have := hA.floor; omega
  have hfl2 : fl ≤ A.next + 2 := by have := hA.floor; omega
  have hfl3 : fl ≤ A.next + 3 := by have := hA.floor; omega
  have hfl4 : fl ≤ A.next + 4 := by have := hA.floor; omega
  have hfl5 : fl ≤ A.next + 5 := by have := hA.floor; omega
  have hfl6 : fl ≤ A.next + 6 := by have := hA.floor; omega
  have f1 := fun fl A => tfit_some (G := G) (fl := fl) (A := A) hG h (by omega)
  have z1 := fun fl A => rof_ok (G := G) (fl := fl) (A := A) (n := 1) (by decide) (by decide)
  have a1 := fun fl A => qadd (G := G) (fl := fl) (A := A) hG h h (by omega)
  have m1 := fun fl A => qmul (G := G) (fl := fl) (A := A) hG h h (by omega)
  have a2 := fun fl A => qadd (G := G) (fl := fl) (A := A) hG rz_one (h.mul h) (by omega)
  have d1 := fun fl A => qdiv (G := G) (fl := fl) (A := A) hG (h.add h) (rz_one.add (h.mul h)) (by omega) (num_ne (one_sq t))
  have hrb := ratV_rb A.next (tsin (some t))
  rw [tnV_some] at f1 ⊢
  rw [rOf_one, ratV_def] at z1
  rw [show tsin (some t) = (t + t) / (1 + t * t) from rfl] at hrb ⊢
  rw [ratV_def (t), ratV_def (t + t)] at a1
  rw [ratV_def (t), ratV_def (t * t)] at m1
  rw [ratV_def (1), ratV_def (t * t), ratV_def (1 + t * t)] at a2
  rw [ratV_def (t + t), ratV_def (1 + t * t), ratV_def (_ / _)] at d1
  rw [ratV_def] at hrb ⊢
  simp only [↓R1, R2, R3, R4, TY, reduceIte, Nat.reduceEqDiff, Nat.reduceAdd, Nat.reduceMul, Nat.reduceLT, Nat.reduceLeDiff, reduceCtorEq, decide_true, decide_false, Int.reduceLE, Int.reduceLT, Int.reduceToNat, Int.reduceAdd, Int.reduceSub, Int.reduceMul, Int.reduceEq, hfl, hfl1, hfl2, hfl3, hfl4, hfl5, hfl6, NE, NE9, Nat.add_assoc]
  refine call_of (f1 _ _) ?_
  simp only [↓R1, R2, R3, R4, TY, reduceIte, Nat.reduceEqDiff, Nat.reduceAdd, Nat.reduceMul, Nat.reduceLT, Nat.reduceLeDiff, reduceCtorEq, decide_true, decide_false, Int.reduceLE, Int.reduceLT, Int.reduceToNat, Int.reduceAdd, Int.reduceSub, Int.reduceMul, Int.reduceEq, hfl, hfl1, hfl2, hfl3, hfl4, hfl5, hfl6, NE, NE9, Nat.add_assoc]
  refine call_of (a1 _ _) ?_
  simp only [↓R1, R2, R3, R4, TY, reduceIte, Nat.reduceEqDiff, Nat.reduceAdd, Nat.reduceMul, Nat.reduceLT, Nat.reduceLeDiff, reduceCtorEq, decide_true, decide_false, Int.reduceLE, Int.reduceLT, Int.reduceToNat, Int.reduceAdd, Int.reduceSub, Int.reduceMul, Int.reduceEq, hfl, hfl1, hfl2, hfl3, hfl4, hfl5, hfl6, NE, NE9, Nat.add_assoc]
  refine call_of (z1 _ _) ?_
  simp only [↓R1, R2, R3, R4, TY, reduceIte, Nat.reduceEqDiff, Nat.reduceAdd, Nat.reduceMul, Nat.reduceLT, Nat.reduceLeDiff, reduceCtorEq, decide_true, decide_false, Int.reduceLE, Int.reduceLT, Int.reduceToNat, Int.reduceAdd, Int.reduceSub, Int.reduceMul, Int.reduceEq, hfl, hfl1, hfl2, hfl3, hfl4, hfl5, hfl6, NE, NE9, Nat.add_assoc]
  refine call_of (m1 _ _) ?_
  simp only [↓R1, R2, R3, R4, TY, reduceIte, Nat.reduceEqDiff, Nat.reduceAdd, Nat.reduceMul, Nat.reduceLT, Nat.reduceLeDiff, reduceCtorEq, decide_true, decide_false, Int.reduceLE, Int.reduceLT, Int.reduceToNat, Int.reduceAdd, Int.reduceSub, Int.reduceMul, Int.reduceEq, hfl, hfl1, hfl2, hfl3, hfl4, hfl5, hfl6, NE, NE9, Nat.add_assoc]
  refine call_of (a2 _ _) ?_
  simp only [↓R1, R2, R3, R4, TY, reduceIte, Nat.reduceEqDiff, Nat.reduceAdd, Nat.reduceMul, Nat.reduceLT, Nat.reduceLeDiff, reduceCtorEq, decide_true, decide_false, Int.reduceLE, Int.reduceLT, Int.reduceToNat, Int.reduceAdd, Int.reduceSub, Int.reduceMul, Int.reduceEq, hfl, hfl1, hfl2, hfl3, hfl4, hfl5, hfl6, NE, NE9, Nat.add_assoc]
  refine call_of (d1 _ _) ?_
  simp only [↓R1, R2, R3, R4, TY, reduceIte, Nat.reduceEqDiff, Nat.reduceAdd, Nat.reduceMul, Nat.reduceLT, Nat.reduceLeDiff, reduceCtorEq, decide_true, decide_false, Int.reduceLE, Int.reduceLT, Int.reduceToNat, Int.reduceAdd, Int.reduceSub, Int.reduceMul, Int.reduceEq, hfl, hfl1, hfl2, hfl3, hfl4, hfl5, hfl6, NE, NE9, Nat.add_assoc]
  rw [floOf_wr (by kernel_rfl)]
  simp only [↓R1, R2, R3, R4, TY, reduceIte, Nat.reduceEqDiff, Nat.reduceAdd, Nat.reduceMul, Nat.reduceLT, Nat.reduceLeDiff, reduceCtorEq, decide_true, decide_false, Int.reduceLE, Int.reduceLT, Int.reduceToNat, Int.reduceAdd, Int.reduceSub, Int.reduceMul, Int.reduceEq, hfl, hfl1, hfl2, hfl3, hfl4, hfl5, hfl6, NE, NE9, Nat.add_assoc]
  refine Ended.back hA ?_ rfl hrb
  simp (maxDischargeDepth := 20) only [xt_push, xt_put, xt_refl, Nat.le_refl, Nat.le_add_right, Nat.add_assoc, Nat.reduceAdd]

end
end Go.Proofs.YtjkimjmocfjjnaaDoor.Ab

/- Turns: comparison, turned, turnBegun. -/
namespace Go.Proofs.YtjkimjmocfjjnaaDoor.Ab
open Go.RowKit
set_option linter.unusedVariables false
set_option linter.unusedSimpArgs false
set_option maxRecDepth 100000

def trn (x : Int) : Option Rat := if below x 5 = 0 then none else some (mrat x)
section
variable {G : Gl} {fl : Nat} {A : Hp}

end
end Go.Proofs.YtjkimjmocfjjnaaDoor.Ab

/- Turns: plain facts. -/
namespace Go.Proofs.YtjkimjmocfjjnaaDoor.Ab
open Go.RowKit
set_option linter.unusedVariables false
set_option linter.unusedSimpArgs false
set_option maxRecDepth 100000

theorem tnV_def (o : Option Rat) : tnV o = .agg #[.bool o.isNone, .bool (decide ((o.getD 0).num < 0)), .string (S (nb (o.getD 0).num.natAbs)), .string (S (nb (o.getD 0).den))] := rfl
end Go.Proofs.YtjkimjmocfjjnaaDoor.Ab
