/- Frames. -/
import Derived.Test.YtincjhklpgfkgaaDoorVg
namespace Go.Proofs.YtincjhklpgfkgaaDoor.Ab
open Go.RowKit
set_option linter.unusedVariables false
set_option linter.unusedSimpArgs false
set_option maxRecDepth 100000

/-- A vector that is turned. -/
def rx (o : Option Rat) (a b : Rat) : Rat := a * tcos o - b * tsin o
def ry (o : Option Rat) (a b : Rat) : Rat := a * tsin o + b * tcos o
def frV (x y : Rat) (o : Option Rat) : Value := .agg #[.bool (decide (x.num < 0)), .string (S (nb x.num.natAbs)), .string (S (nb x.den)), .bool (decide (y.num < 0)), .string (S (nb y.num.natAbs)), .string (S (nb y.den)), .bool o.isNone, .bool (decide ((o.getD 0).num < 0)), .string (S (nb (o.getD 0).num.natAbs)), .string (S (nb (o.getD 0).den))]
theorem frV_def (x y : Rat) (o : Option Rat) : frV x y o = .agg #[.bool (decide (x.num < 0)), .string (S (nb x.num.natAbs)), .string (S (nb x.den)), .bool (decide (y.num < 0)), .string (S (nb y.num.natAbs)), .string (S (nb y.den)), .bool o.isNone, .bool (decide ((o.getD 0).num < 0)), .string (S (nb (o.getD 0).num.natAbs)), .string (S (nb (o.getD 0).den))] := rfl
theorem frV_rb (n : Nat) (x y : Rat) (o : Option Rat) : RB n (frV x y o) := RB.agg fun v hv => by
  simp only [List.mem_cons, List.not_mem_nil, or_false] at hv
  rcases hv with rfl | rfl | rfl | rfl | rfl | rfl | rfl | rfl | rfl | rfl <;> exact RB.zc rfl
theorem eqD_frame (x y : Rat) (o : Option Rat) (u v : Rat) (p : Option Rat) : eqD Tryd.prog 20 65 (frV x y o) (frV u v p) = some ((decide (x = u) && decide (y = v)) && decide (o = p)) := by
  have hst : Tryd.prog.stoodInHeld 24 = false := by kernel_rfl
  have hst2 : Tryd.prog.stoodInHeld 57 = false := by kernel_rfl
  have hst3 : Tryd.prog.stoodInHeld 49 = false := by kernel_rfl
  have hst4 : Tryd.prog.stoodInHeld 65 = false := by kernel_rfl
  have h1 : eqD Tryd.prog 20 65 (frV x y o) (frV u v p) = some ((decide (x = u) && decide (y = v)) && ((o.isNone == p.isNone) && decide (o.getD 0 = p.getD 0))) := by
    simp [eqD, frV, Tryd.underlying24, Tryd.underlying57, Tryd.underlying49, Tryd.underlying65, Tryd.underlying9, Tryd.underlying4, eqFs, partV, ty9, ty4, ty24, ty57, ty49, hst, hst2, hst3, hst4, S_inj]
    rw [rat_beq, rat_beq, rat_beq]
  rw [h1]
  cases o <;> cases p <;> simp
theorem guard_frame : Tryd.prog.eqGuardType Tryd.prog.depth 65 = false := by kernel_rfl
theorem rz_rx {o : Option Rat} {a b : Rat} {j k : Nat} (ho : Rz (o.getD 0) k) (ha : Rz a j) (hb : Rz b j) : Rz (rx o a b) (2 * j + 8 * k + 9) := ((ha.mul (rz_cos ho)).sub (hb.mul (rz_sin ho))).mono (by omega)
theorem rz_ry {o : Option Rat} {a b : Rat} {j k : Nat} (ho : Rz (o.getD 0) k) (ha : Rz a j) (hb : Rz b j) : Rz (ry o a b) (2 * j + 8 * k + 9) := ((ha.mul (rz_sin ho)).add (hb.mul (rz_cos ho))).mono (by omega)

section
variable {G : Gl} {fl : Nat} {A : Hp}

set_option maxHeartbeats 2000000 in
theorem fzero  (hG : G 2 = some tabV)  : Sound Tryd.prog G 53 [] fl A (frV 0 0 (some 0)) A := by
  refine Sound.of mixed Tryd.func53 Tryd.ntmps53 Tryd.results53 (by kernel_rfl) rfl (by kernel_rfl) (by simp) fun hA => ?_
  have hfl : fl ≤ A.next := by have := hA.floor; omega
  have hfl1 : fl ≤ A.next + 1 := by have := hA.floor; omega
  have hfl2 : fl ≤ A.next + 2 := by have := hA.floor; omega
  have hfl3 : fl ≤ A.next + 3 := by have := hA.floor; omega
  have hfl4 : fl ≤ A.next + 4 := by have := hA.floor; omega
  have hfl5 : fl ≤ A.next + 5 := by have := hA.floor; omega
  have hfl6 : fl ≤ A.next + 6 := by have := hA.floor; omega
  have z0 := fun fl A => rof_ok (G := G) (fl := fl) (A := A) (n := 0) (by decide) (by decide)
  have t1 := fun fl A => tof (G := G) (fl := fl) (A := A) hG rz_zero (by omega)
  have hrb := frV_rb A.next 0 0 (some 0)
  rw [rOf_zero] at z0
  simp only [tnV_def, ratV_def, prV_def, frV_def, Option.getD_some] at z0 t1 hrb ⊢
  simp only [↓R1, R2, R3, R4, TY, reduceIte, Nat.reduceEqDiff, Nat.reduceAdd, Nat.reduceMul, Nat.reduceLT, Nat.reduceLeDiff, reduceCtorEq, decide_true, decide_false, Int.reduceLE, Int.reduceLT, Int.reduceToNat, Int.reduceAdd, Int.reduceSub, Int.reduceMul, Int.reduceEq, hfl, hfl1, hfl2, hfl3, hfl4, hfl5, hfl6, NE, NE9, Nat.add_assoc]
  refine call_of (z0 _ _) ?_
  simp only [↓R1, R2, R3, R4, TY, reduceIte, Nat.reduceEqDiff, Nat.reduceAdd, Nat.reduceMul, Nat.reduceLT, Nat.reduceLeDiff, reduceCtorEq, decide_true, decide_false, Int.reduceLE, Int.reduceLT, Int.reduceToNat, Int.reduceAdd, Int.reduceSub, Int.reduceMul, Int.reduceEq, hfl, hfl1, hfl2, hfl3, hfl4, hfl5, hfl6, NE, NE9, Nat.add_assoc]
  refine call_of (t1 _ _) ?_
  simp only [↓R1, R2, R3, R4, TY, reduceIte, Nat.reduceEqDiff, Nat.reduceAdd, Nat.reduceMul, Nat.reduceLT, Nat.reduceLeDiff, reduceCtorEq, decide_true, decide_false, Int.reduceLE, Int.reduceLT, Int.reduceToNat, Int.reduceAdd, Int.reduceSub, Int.reduceMul, Int.reduceEq, hfl, hfl1, hfl2, hfl3, hfl4, hfl5, hfl6, NE, NE9, Nat.add_assoc]
  rw [floOf_wr (by kernel_rfl)]
  simp only [↓R1, R2, R3, R4, TY, reduceIte, Nat.reduceEqDiff, Nat.reduceAdd, Nat.reduceMul, Nat.reduceLT, Nat.reduceLeDiff, reduceCtorEq, decide_true, decide_false, Int.reduceLE, Int.reduceLT, Int.reduceToNat, Int.reduceAdd, Int.reduceSub, Int.reduceMul, Int.reduceEq, hfl, hfl1, hfl2, hfl3, hfl4, hfl5, hfl6, NE, NE9, Nat.add_assoc]
  refine Ended.back hA ?_ rfl hrb
  simp (maxDischargeDepth := 20) only [xt_push, xt_put, xt_refl, Nat.le_refl, Nat.le_add_right, Nat.add_assoc, Nat.reduceAdd]

set_option maxHeartbeats 2000000 in
theorem fput {x y a b : Rat} {o : Option Rat} {j k l : Nat} (hG : G 2 = some tabV) (hx : Rz x j) (hy : Rz y j) (ho : Rz (o.getD 0) k) (ha : Rz a l) (hb : Rz b l) (hk : j + 2 * l + 8 * k ≤ 8000) : Sound Tryd.prog G 54 [frV x y o, prV a b] fl A (prV (x + rx o a b) (y + ry o a b)) A := by
  refine Sound.of mixed Tryd.func54 Tryd.ntmps54 Tryd.results54 (by kernel_rfl) rfl (by kernel_rfl) (by simp) fun hA => ?_
  have hfl : fl ≤ A.next := by have := hA.floor; omega
  have hfl1 : fl ≤ A.next + 1 := by have := hA.floor; omega
  have hfl2 : fl ≤ A.next + 2 := by have := hA.floor; omega
  have hfl3 : fl ≤ A.next + 3 := by have := hA.floor; omega
  have hfl4 : fl ≤ A.next + 4 := by have := hA.floor; omega
  have hfl5 : fl ≤ A.next + 5 := by have := hA.floor; omega
  have hfl6 : fl ≤ A.next + 6 := by have := hA.floor; omega
  have t1 : ∀ fl A, Sound Tryd.prog G 44 [prV a b, tnV o] fl A (prV (rx o a b) (ry o a b)) A := fun fl A => vturn hG ha hb ho (by omega)
  have t2 := fun fl A => vadd (G := G) (fl := fl) (A := A) hG hx hy (rz_rx ho ha hb) (rz_ry ho ha hb) (by omega)
  have hrb := prV_rb A.next (x + rx o a b) (y + ry o a b)
  simp only [tnV_def, ratV_def, prV_def, frV_def, Option.getD_some] at t1 t2 hrb ⊢
  simp only [↓R1, R2, R3, R4, TY, reduceIte, Nat.reduceEqDiff, Nat.reduceAdd, Nat.reduceMul, Nat.reduceLT, Nat.reduceLeDiff, reduceCtorEq, decide_true, decide_false, Int.reduceLE, Int.reduceLT, Int.reduceToNat, Int.reduceAdd, Int.reduceSub, Int.reduceMul, Int.reduceEq, hfl, hfl1, hfl2, hfl3, hfl4, hfl5, hfl6, NE, NE9, Nat.add_assoc]
  refine call_of (t1 _ _) ?_
  simp only [↓R1, R2, R3, R4, TY, reduceIte, Nat.reduceEqDiff, Nat.reduceAdd, Nat.reduceMul, Nat.reduceLT, Nat.reduceLeDiff, reduceCtorEq, decide_true, decide_false, Int.reduceLE, Int.reduceLT, Int.reduceToNat, Int.reduceAdd, Int.reduceSub, Int.reduceMul, Int.reduceEq, hfl, hfl1, hfl2, hfl3, hfl4, hfl5, hfl6, NE, NE9, Nat.add_assoc]
  refine call_of (t2 _ _) ?_
  simp only [↓R1, R2, R3, R4, TY, reduceIte, Nat.reduceEqDiff, Nat.reduceAdd, Nat.reduceMul, Nat.reduceLT, Nat.reduceLeDiff, reduceCtorEq, decide_true, decide_false, Int.reduceLE, Int.reduceLT, Int.reduceToNat, Int.reduceAdd, Int.reduceSub, Int.reduceMul, Int.reduceEq, hfl, hfl1, hfl2, hfl3, hfl4, hfl5, hfl6, NE, NE9, Nat.add_assoc]
  rw [floOf_wr (by kernel_rfl)]
  simp only [↓R1, R2, R3, R4, TY, reduceIte, Nat.reduceEqDiff, Nat.reduceAdd, Nat.reduceMul, Nat.reduceLT, Nat.reduceLeDiff, reduceCtorEq, decide_true, decide_false, Int.reduceLE, Int.reduceLT, Int.reduceToNat, Int.reduceAdd, Int.reduceSub, Int.reduceMul, Int.reduceEq, hfl, hfl1, hfl2, hfl3, hfl4, hfl5, hfl6, NE, NE9, Nat.add_assoc]
  refine Ended.back hA ?_ rfl hrb
  simp (maxDischargeDepth := 20) only [xt_push, xt_put, xt_refl, Nat.le_refl, Nat.le_add_right, Nat.add_assoc, Nat.reduceAdd]

set_option maxHeartbeats 2000000 in
theorem fthen {x y a b : Rat} {o p : Option Rat} {j k l m : Nat} (hG : G 2 = some tabV) (hx : Rz x j) (hy : Rz y j) (ho : Rz (o.getD 0) k) (ha : Rz a l) (hb : Rz b l) (hp : Rz (p.getD 0) m) (hk : j + 2 * l + 8 * k + m ≤ 8000) : Sound Tryd.prog G 50 [frV x y o, frV a b p] fl A (frV (x + rx o a b) (y + ry o a b) (tthen o p)) A := by
  refine Sound.of mixed Tryd.func50 Tryd.ntmps50 Tryd.results50 (by kernel_rfl) rfl (by kernel_rfl) (by simp) fun hA => ?_
  have hfl : fl ≤ A.next := by have := hA.floor; omega
  have hfl1 : fl ≤ A.next + 1 := by have := hA.floor; omega
  have hfl2 : fl ≤ A.next + 2 := by have := hA.floor; omega
  have hfl3 : fl ≤ A.next + 3 := by have := hA.floor; omega
  have hfl4 : fl ≤ A.next + 4 := by have := hA.floor; omega
  have hfl5 : fl ≤ A.next + 5 := by have := hA.floor; omega
  have hfl6 : fl ≤ A.next + 6 := by have := hA.floor; omega
  have t1 := fun fl A => fput (G := G) (fl := fl) (A := A) hG hx hy ho ha hb (by omega)
  have t2 := fun fl A => tthen_ok (G := G) (fl := fl) (A := A) hG ho hp (by omega)
  have hrb := frV_rb A.next (x + rx o a b) (y + ry o a b) (tthen o p)
  simp only [tnV_def, ratV_def, prV_def, frV_def, Option.getD_some] at t1 t2 hrb ⊢
  simp only [↓R1, R2, R3, R4, TY, reduceIte, Nat.reduceEqDiff, Nat.reduceAdd, Nat.reduceMul, Nat.reduceLT, Nat.reduceLeDiff, reduceCtorEq, decide_true, decide_false, Int.reduceLE, Int.reduceLT, Int.reduceToNat, Int.reduceAdd, Int.reduceSub, Int.reduceMul, Int.reduceEq, hfl, hfl1, hfl2, hfl3, hfl4, hfl5, hfl6, NE, NE9, Nat.add_assoc]
  refine call_of (t1 _ _) ?_
  simp only [↓R1, R2, R3, R4, TY, reduceIte, Nat.reduceEqDiff, Nat.reduceAdd, Nat.reduceMul, Nat.reduceLT, Nat.reduceLeDiff, reduceCtorEq, decide_true, decide_false, Int.reduceLE, Int.reduceLT, Int.reduceToNat, Int.reduceAdd, Int.reduceSub, Int.reduceMul, Int.reduceEq, hfl, hfl1, hfl2, hfl3, hfl4, hfl5, hfl6, NE, NE9, Nat.add_assoc]
  refine call_of (t2 _ _) ?_
  simp only [↓R1, R2, R3, R4, TY, reduceIte, Nat.reduceEqDiff, Nat.reduceAdd, Nat.reduceMul, Nat.reduceLT, Nat.reduceLeDiff, reduceCtorEq, decide_true, decide_false, Int.reduceLE, Int.reduceLT, Int.reduceToNat, Int.reduceAdd, Int.reduceSub, Int.reduceMul, Int.reduceEq, hfl, hfl1, hfl2, hfl3, hfl4, hfl5, hfl6, NE, NE9, Nat.add_assoc]
  rw [floOf_wr (by kernel_rfl)]
  simp only [↓R1, R2, R3, R4, TY, reduceIte, Nat.reduceEqDiff, Nat.reduceAdd, Nat.reduceMul, Nat.reduceLT, Nat.reduceLeDiff, reduceCtorEq, decide_true, decide_false, Int.reduceLE, Int.reduceLT, Int.reduceToNat, Int.reduceAdd, Int.reduceSub, Int.reduceMul, Int.reduceEq, hfl, hfl1, hfl2, hfl3, hfl4, hfl5, hfl6, NE, NE9, Nat.add_assoc]
  refine Ended.back hA ?_ rfl hrb
  simp (maxDischargeDepth := 20) only [xt_push, xt_put, xt_refl, Nat.le_refl, Nat.le_add_right, Nat.add_assoc, Nat.reduceAdd]

set_option maxHeartbeats 2000000 in
theorem fback {x y : Rat} {o : Option Rat} {j k : Nat} (hG : G 2 = some tabV) (hx : Rz x j) (hy : Rz y j) (ho : Rz (o.getD 0) k) (hk : 2 * j + 8 * k ≤ 6000) : Sound Tryd.prog G 52 [frV x y o] fl A (frV (rx (tback o) (0 - x) (0 - y)) (ry (tback o) (0 - x) (0 - y)) (tback o)) A := by
  refine Sound.of mixed Tryd.func52 Tryd.ntmps52 Tryd.results52 (by kernel_rfl) rfl (by kernel_rfl) (by simp) fun hA => ?_
  have hfl : fl ≤ A.next := by have := hA.floor; omega
  have hfl1 : fl ≤ A.next + 1 := by have := hA.floor; omega
  have hfl2 : fl ≤ A.next + 2 := by have := hA.floor; omega
  have hfl3 : fl ≤ A.next + 3 := by have := hA.floor; omega
  have hfl4 : fl ≤ A.next + 4 := by have := hA.floor; omega
  have hfl5 : fl ≤ A.next + 5 := by have := hA.floor; omega
  have hfl6 : fl ≤ A.next + 6 := by have := hA.floor; omega
  have t1 := fun fl A => tback_ok (G := G) (fl := fl) (A := A) hG ho (by omega)
  have zz := fun fl A => fzero (G := G) (fl := fl) (A := A) hG
  have s1 := fun fl A => vsub (G := G) (fl := fl) (A := A) hG rz_zero rz_zero hx hy (by omega)
  have t2 : ∀ fl A, Sound Tryd.prog G 44 [prV (0 - x) (0 - y), tnV (tback o)] fl A (prV (rx (tback o) (0 - x) (0 - y)) (ry (tback o) (0 - x) (0 - y))) A := fun fl A => vturn hG (rz_zero.sub hx) (rz_zero.sub hy) (rz_back ho) (by omega)
  have hrb := frV_rb A.next (rx (tback o) (0 - x) (0 - y)) (ry (tback o) (0 - x) (0 - y)) (tback o)
  simp only [tnV_def, ratV_def, prV_def, frV_def, Option.getD_some] at t1 zz s1 t2 hrb ⊢
  simp only [↓R1, R2, R3, R4, TY, reduceIte, Nat.reduceEqDiff, Nat.reduceAdd, Nat.reduceMul, Nat.reduceLT, Nat.reduceLeDiff, reduceCtorEq, decide_true, decide_false, Int.reduceLE, Int.reduceLT, Int.reduceToNat, Int.reduceAdd, Int.reduceSub, Int.reduceMul, Int.reduceEq, hfl, hfl1, hfl2, hfl3, hfl4, hfl5, hfl6, NE, NE9, Nat.add_assoc]
  refine call_of (t1 _ _) ?_
  simp only [↓R1, R2, R3, R4, TY, reduceIte, Nat.reduceEqDiff, Nat.reduceAdd, Nat.reduceMul, Nat.reduceLT, Nat.reduceLeDiff, reduceCtorEq, decide_true, decide_false, Int.reduceLE, Int.reduceLT, Int.reduceToNat, Int.reduceAdd, Int.reduceSub, Int.reduceMul, Int.reduceEq, hfl, hfl1, hfl2, hfl3, hfl4, hfl5, hfl6, NE, NE9, Nat.add_assoc]
  refine call_of (zz _ _) ?_
  simp only [↓R1, R2, R3, R4, TY, reduceIte, Nat.reduceEqDiff, Nat.reduceAdd, Nat.reduceMul, Nat.reduceLT, Nat.reduceLeDiff, reduceCtorEq, decide_true, decide_false, Int.reduceLE, Int.reduceLT, Int.reduceToNat, Int.reduceAdd, Int.reduceSub, Int.reduceMul, Int.reduceEq, hfl, hfl1, hfl2, hfl3, hfl4, hfl5, hfl6, NE, NE9, Nat.add_assoc]
  refine call_of (s1 _ _) ?_
  simp only [↓R1, R2, R3, R4, TY, reduceIte, Nat.reduceEqDiff, Nat.reduceAdd, Nat.reduceMul, Nat.reduceLT, Nat.reduceLeDiff, reduceCtorEq, decide_true, decide_false, Int.reduceLE, Int.reduceLT, Int.reduceToNat, Int.reduceAdd, Int.reduceSub, Int.reduceMul, Int.reduceEq, hfl, hfl1, hfl2, hfl3, hfl4, hfl5, hfl6, NE, NE9, Nat.add_assoc]
  refine call_of (t2 _ _) ?_
  simp only [↓R1, R2, R3, R4, TY, reduceIte, Nat.reduceEqDiff, Nat.reduceAdd, Nat.reduceMul, Nat.reduceLT, Nat.reduceLeDiff, reduceCtorEq, decide_true, decide_false, Int.reduceLE, Int.reduceLT, Int.reduceToNat, Int.reduceAdd, Int.reduceSub, Int.reduceMul, Int.reduceEq, hfl, hfl1, hfl2, hfl3, hfl4, hfl5, hfl6, NE, NE9, Nat.add_assoc]
  rw [floOf_wr (by kernel_rfl)]
  simp only [↓R1, R2, R3, R4, TY, reduceIte, Nat.reduceEqDiff, Nat.reduceAdd, Nat.reduceMul, Nat.reduceLT, Nat.reduceLeDiff, reduceCtorEq, decide_true, decide_false, Int.reduceLE, Int.reduceLT, Int.reduceToNat, Int.reduceAdd, Int.reduceSub, Int.reduceMul, Int.reduceEq, hfl, hfl1, hfl2, hfl3, hfl4, hfl5, hfl6, NE, NE9, Nat.add_assoc]
  refine Ended.back hA ?_ rfl hrb
  simp (maxDischargeDepth := 20) only [xt_push, xt_put, xt_refl, Nat.le_refl, Nat.le_add_right, Nat.add_assoc, Nat.reduceAdd]

set_option maxHeartbeats 2000000 in
theorem framed_ok {x y z : Int} (hG : G 2 = some tabV) (kx : -9223372036854775808 ≤ x ∧ x ≤ 9223372036854775807) (ky : -9223372036854775808 ≤ y ∧ y ≤ 9223372036854775807) (kz : -9223372036854775808 ≤ z ∧ z ≤ 9223372036854775807) : Sound Tryd.prog G 49 [.int .i64 x, .int .i64 y, .int .i64 z] fl A (frV (mrat x) (mrat y) (trn z)) A := by
  refine Sound.of mixed Tryd.func49 Tryd.ntmps49 Tryd.results49 (by kernel_rfl) rfl (by kernel_rfl) (by simp) fun hA => ?_
  have hfl : fl ≤ A.next := by have := hA.floor; omega
  have hfl1 : fl ≤ A.next + 1 := by have := hA.floor; omega
  have hfl2 : fl ≤ A.next + 2 := by have := hA.floor; omega
  have hfl3 : fl ≤ A.next + 3 := by have := hA.floor; omega
  have hfl4 : fl ≤ A.next + 4 := by have := hA.floor; omega
  have hfl5 : fl ≤ A.next + 5 := by have := hA.floor; omega
  have hfl6 : fl ≤ A.next + 6 := by have := hA.floor; omega
  have v1 := fun fl A => vector_ok (G := G) (fl := fl) (A := A) hG kx ky
  have t1 := fun fl A => turned_ok (G := G) (fl := fl) (A := A) hG kz
  have hrb := frV_rb A.next (mrat x) (mrat y) (trn z)
  simp only [tnV_def, ratV_def, prV_def, frV_def, Option.getD_some] at v1 t1 hrb ⊢
  simp only [↓R1, R2, R3, R4, TY, reduceIte, Nat.reduceEqDiff, Nat.reduceAdd, Nat.reduceMul, Nat.reduceLT, Nat.reduceLeDiff, reduceCtorEq, decide_true, decide_false, Int.reduceLE, Int.reduceLT, Int.reduceToNat, Int.reduceAdd, Int.reduceSub, Int.reduceMul, Int.reduceEq, hfl, hfl1, hfl2, hfl3, hfl4, hfl5, hfl6, NE, NE9, Nat.add_assoc]
  refine call_of (v1 _ _) ?_
  simp only [↓R1, R2, R3, R4, TY, reduceIte, Nat.reduceEqDiff, Nat.reduceAdd, Nat.reduceMul, Nat.reduceLT, Nat.reduceLeDiff, reduceCtorEq, decide_true, decide_false, Int.reduceLE, Int.reduceLT, Int.reduceToNat, Int.reduceAdd, Int.reduceSub, Int.reduceMul, Int.reduceEq, hfl, hfl1, hfl2, hfl3, hfl4, hfl5, hfl6, NE, NE9, Nat.add_assoc]
  refine call_of (t1 _ _) ?_
  simp only [↓R1, R2, R3, R4, TY, reduceIte, Nat.reduceEqDiff, Nat.reduceAdd, Nat.reduceMul, Nat.reduceLT, Nat.reduceLeDiff, reduceCtorEq, decide_true, decide_false, Int.reduceLE, Int.reduceLT, Int.reduceToNat, Int.reduceAdd, Int.reduceSub, Int.reduceMul, Int.reduceEq, hfl, hfl1, hfl2, hfl3, hfl4, hfl5, hfl6, NE, NE9, Nat.add_assoc]
  refine Ended.back hA ?_ rfl hrb
  simp (maxDischargeDepth := 20) only [xt_push, xt_put, xt_refl, Nat.le_refl, Nat.le_add_right, Nat.add_assoc, Nat.reduceAdd]

end
end Go.Proofs.YtincjhklpgfkgaaDoor.Ab
