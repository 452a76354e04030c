/- Spans: comparison; made, part, num, spanBegun. -/
import Derived.Test.YtincjhklpgfkgaaDoorUd
namespace Go.Proofs.YtincjhklpgfkgaaDoor.Ab
open Go.RowKit
set_option linter.unusedVariables false
set_option linter.unusedSimpArgs false
set_option maxRecDepth 100000

theorem rat_beq (p q : Rat) : (decide (p.num < 0) == decide (q.num < 0) && (decide (nb p.num.natAbs = nb q.num.natAbs) && decide (nb p.den = nb q.den))) = decide (p = q) := by
  by_cases h : p = q
  · subst h; simp
  · rw [decide_eq_false h]
    apply Bool.eq_false_iff.2
    intro hc
    simp only [Bool.and_eq_true, beq_iff_eq, decide_eq_true_eq] at hc
    apply h
    refine Rat.ext ?_ (nb_inj hc.2.2)
    rw [← sgn_num p.num, ← sgn_num q.num, hc.1, nb_inj hc.2.1]
theorem eqD_span (p q r s : Rat) : eqD Tryd.prog 20 26 (prV p q) (prV r s) = some (decide (p = r) && decide (q = s)) := by
  have hst : Tryd.prog.stoodInHeld 24 = false := by kernel_rfl
  have hst2 : Tryd.prog.stoodInHeld 26 = false := by kernel_rfl
  simp [eqD, prV, Tryd.underlying24, Tryd.underlying26, Tryd.underlying9, Tryd.underlying4, eqFs, partV, ty9, ty4, ty24, hst, hst2, S_inj]
  rw [rat_beq, rat_beq]
theorem guard_span : Tryd.prog.eqGuardType Tryd.prog.depth 26 = false := by kernel_rfl
theorem guard_rat : Tryd.prog.eqGuardType Tryd.prog.depth 24 = false := by kernel_rfl
theorem rmin_le_rmax (p q : Rat) : rmin p q ≤ rmax p q := rcmp_le_iff.1 (rminmax p q).1
theorem mrat_rz (x : Int) : Rz (mrat x) 1 := (mrat_sz x).rz (nb_len_le.2 (by omega))
theorem made_sp (x y : Int) : Sp (rmin (mrat x) (mrat y)) (rmax (mrat x) (mrat y)) 1 := ⟨(mrat_rz x).min (mrat_rz y), (mrat_rz x).max (mrat_rz y), rmin_le_rmax _ _⟩
theorem rOf_div (m n : Int) : rOf m / rOf n = (m : Rat) / (n : Rat) := by rw [rOf_eq, rOf_eq]

/-- A part of the way from one end to the other. -/
def prt (a b : Rat) (k : Int) : Rat := a + ((below k 9 : Int) : Rat) / ((8 : Int) : Rat) * (b - a)
theorem num_rz {m n : Int} (h1 : -1000000 ≤ m) (h2 : m ≤ 1000000) (h3 : -1000000 ≤ n) (h4 : n ≤ 1000000) (h0 : n ≠ 0) : Rz ((m : Rat) / (n : Rat)) 6 := by
  rw [← rOf_div]
  exact (Rz.of (k := 3) (nb_len_le.2 (by omega)) (by omega)).div (Rz.of (k := 3) (nb_len_le.2 (by omega)) (by omega)) (by rw [rOf_num]; exact h0)
theorem prt_rz {a b : Rat} {j : Nat} (ha : Rz a j) (hb : Rz b j) (k : Int) : Rz (prt a b k) (3 * j + 8) := by
  have hr := below_range (x := k) (n := 9) (by omega)
  have h := ha.add ((num_rz (m := below k 9) (n := 8) (by omega) (by omega) (by omega) (by omega) (by omega)).mul (hb.sub ha))
  exact h.mono (by omega)
theorem sq_begun : sqlo (((-1 : Int) : Rat) / ((2 : Int) : Rat)) (((2 : Int) : Rat) / ((1 : Int) : Rat)) = ((0 : Int) : Rat) / ((1 : Int) : Rat) ∧ sqhi (((-1 : Int) : Rat) / ((2 : Int) : Rat)) (((2 : Int) : Rat) / ((1 : Int) : Rat)) = ((4 : Int) : Rat) / ((1 : Int) : Rat) := by decide +kernel

section
variable {G : Gl} {fl : Nat} {A : Hp}

set_option maxHeartbeats 2000000 in
theorem made_span {x y : Int} (hG : G 2 = some tabV) (kx : -9223372036854775808 ≤ x ∧ x ≤ 9223372036854775807) (ky : -9223372036854775808 ≤ y ∧ y ≤ 9223372036854775807) : Sound Tryd.prog G 14 [.int .i64 x, .int .i64 y] fl A (prV (rmin (mrat x) (mrat y)) (rmax (mrat x) (mrat y))) A := by
  refine Sound.of mixed Tryd.func14 Tryd.ntmps14 Tryd.results14 (by kernel_rfl) rfl (by kernel_rfl) (by simp) fun hA => ?_
  have hfl : fl ≤ A.next := by have := hA.floor; omega
  have hfl1 : fl ≤ A.next + 1 := by have := hA.floor; omega
  have hfl2 : fl ≤ A.next + 2 := by have := hA.floor; omega
  have hfl3 : fl ≤ A.next + 3 := by have := hA.floor; omega
  have hfl4 : fl ≤ A.next + 4 := by have := hA.floor; omega
  have hfl5 : fl ≤ A.next + 5 := by have := hA.floor; omega
  have hfl6 : fl ≤ A.next + 6 := by have := hA.floor; omega
  have r1 := fun fl A => mrat_ok (G := G) (fl := fl) (A := A) kx.1 kx.2
  have r2 := fun fl A => mrat_ok (G := G) (fl := fl) (A := A) ky.1 ky.2
  have m1 := fun fl A => qmin (G := G) (fl := fl) (A := A) hG (mrat_rz x) (mrat_rz y) (by omega)
  have m2 := fun fl A => qmax (G := G) (fl := fl) (A := A) hG (mrat_rz x) (mrat_rz y) (by omega)
  have hrb := prV_rb A.next (rmin (mrat x) (mrat y)) (rmax (mrat x) (mrat y))
  rw [ratV_def] at r1 r2
  rw [ratV_def (rmin _ _)] at m1
  rw [ratV_def (rmax _ _)] at m2
  rw [prV_def] at hrb ⊢
  simp only [↓R1, R2, R3, R4, TY, reduceIte, Nat.reduceEqDiff, Nat.reduceAdd, Nat.reduceMul, Nat.reduceLT, Nat.reduceLeDiff, reduceCtorEq, decide_true, decide_false, Int.reduceLE, Int.reduceLT, Int.reduceToNat, Int.reduceAdd, Int.reduceSub, Int.reduceMul, Int.reduceEq, hfl, hfl1, hfl2, hfl3, hfl4, hfl5, hfl6, NE]
  refine call_of (r1 _ _) ?_
  simp only [↓R1, R2, R3, R4, TY, reduceIte, Nat.reduceEqDiff, Nat.reduceAdd, Nat.reduceMul, Nat.reduceLT, Nat.reduceLeDiff, reduceCtorEq, decide_true, decide_false, Int.reduceLE, Int.reduceLT, Int.reduceToNat, Int.reduceAdd, Int.reduceSub, Int.reduceMul, Int.reduceEq, hfl, hfl1, hfl2, hfl3, hfl4, hfl5, hfl6, NE]
  refine call_of (r2 _ _) ?_
  simp only [↓R1, R2, R3, R4, TY, reduceIte, Nat.reduceEqDiff, Nat.reduceAdd, Nat.reduceMul, Nat.reduceLT, Nat.reduceLeDiff, reduceCtorEq, decide_true, decide_false, Int.reduceLE, Int.reduceLT, Int.reduceToNat, Int.reduceAdd, Int.reduceSub, Int.reduceMul, Int.reduceEq, hfl, hfl1, hfl2, hfl3, hfl4, hfl5, hfl6, NE]
  refine call_of (m1 _ _) ?_
  simp only [↓R1, R2, R3, R4, TY, reduceIte, Nat.reduceEqDiff, Nat.reduceAdd, Nat.reduceMul, Nat.reduceLT, Nat.reduceLeDiff, reduceCtorEq, decide_true, decide_false, Int.reduceLE, Int.reduceLT, Int.reduceToNat, Int.reduceAdd, Int.reduceSub, Int.reduceMul, Int.reduceEq, hfl, hfl1, hfl2, hfl3, hfl4, hfl5, hfl6, NE]
  refine call_of (m2 _ _) ?_
  simp only [↓R1, R2, R3, R4, TY, reduceIte, Nat.reduceEqDiff, Nat.reduceAdd, Nat.reduceMul, Nat.reduceLT, Nat.reduceLeDiff, reduceCtorEq, decide_true, decide_false, Int.reduceLE, Int.reduceLT, Int.reduceToNat, Int.reduceAdd, Int.reduceSub, Int.reduceMul, Int.reduceEq, hfl, hfl1, hfl2, hfl3, hfl4, hfl5, hfl6, NE]
  rw [floOf_wr (by kernel_rfl)]
  simp only [↓R1, R2, R3, R4, TY, reduceIte, Nat.reduceEqDiff, Nat.reduceAdd, Nat.reduceMul, Nat.reduceLT, Nat.reduceLeDiff, reduceCtorEq, decide_true, decide_false, Int.reduceLE, Int.reduceLT, Int.reduceToNat, Int.reduceAdd, Int.reduceSub, Int.reduceMul, Int.reduceEq, hfl, hfl1, hfl2, hfl3, hfl4, hfl5, hfl6, NE]
  refine Ended.back hA ?_ rfl hrb
  simp (maxDischargeDepth := 20) only [xt_push, xt_put, xt_refl, Nat.le_refl, Nat.le_add_right, Nat.add_assoc, Nat.reduceAdd]

set_option maxHeartbeats 2000000 in
theorem num_ok {m n : Int} (hG : G 2 = some tabV) (h1 : -1000000 ≤ m) (h2 : m ≤ 1000000) (h3 : -1000000 ≤ n) (h4 : n ≤ 1000000) (h0 : n ≠ 0) : Sound Tryd.prog G 25 [.int .i64 m, .int .i64 n] fl A (ratV ((m : Rat) / (n : Rat))) A := by
  refine Sound.of mixed Tryd.func25 Tryd.ntmps25 Tryd.results25 (by kernel_rfl) rfl (by kernel_rfl) (by simp) fun hA => ?_
  have hfl : fl ≤ A.next := by have := hA.floor; omega
  have hfl1 : fl ≤ A.next + 1 := by have := hA.floor; omega
  have hfl2 : fl ≤ A.next + 2 := by have := hA.floor; omega
  have hfl3 : fl ≤ A.next + 3 := by have := hA.floor; omega
  have hfl4 : fl ≤ A.next + 4 := by have := hA.floor; omega
  have hfl5 : fl ≤ A.next + 5 := by have := hA.floor; omega
  have hfl6 : fl ≤ A.next + 6 := by have := hA.floor; omega
  have r1 := fun fl A => rmake_ok (G := G) (fl := fl) (A := A) h1 h2 h3 h4 h0
  have hrb := ratV_rb A.next ((m : Rat) / (n : Rat))
  rw [rOf_div] at r1
  rw [ratV_def] at r1 hrb ⊢
  simp only [↓R1, R2, R3, R4, TY, reduceIte, Nat.reduceEqDiff, Nat.reduceAdd, Nat.reduceMul, Nat.reduceLT, Nat.reduceLeDiff, reduceCtorEq, decide_true, decide_false, Int.reduceLE, Int.reduceLT, Int.reduceToNat, Int.reduceAdd, Int.reduceSub, Int.reduceMul, Int.reduceEq, hfl, hfl1, hfl2, hfl3, hfl4, hfl5, hfl6, NE]
  refine call_of (r1 _ _) ?_
  simp only [↓R1, R2, R3, R4, TY, reduceIte, Nat.reduceEqDiff, Nat.reduceAdd, Nat.reduceMul, Nat.reduceLT, Nat.reduceLeDiff, reduceCtorEq, decide_true, decide_false, Int.reduceLE, Int.reduceLT, Int.reduceToNat, Int.reduceAdd, Int.reduceSub, Int.reduceMul, Int.reduceEq, hfl, hfl1, hfl2, hfl3, hfl4, hfl5, hfl6, NE]
  refine Ended.back hA ?_ rfl hrb
  simp (maxDischargeDepth := 20) only [xt_push, xt_put, xt_refl, Nat.le_refl, Nat.le_add_right, Nat.add_assoc, Nat.reduceAdd]

set_option maxHeartbeats 2000000 in
theorem part_ok {a b : Rat} {j : Nat} {k : Int} (hG : G 2 = some tabV) (ha : Rz a j) (hb : Rz b j) (kk : -9223372036854775808 ≤ k ∧ k ≤ 9223372036854775807) (hj : j ≤ 20000) : Sound Tryd.prog G 29 [prV a b, .int .i64 k] fl A (ratV (prt a b k)) A := by
  refine Sound.of mixed Tryd.func29 Tryd.ntmps29 Tryd.results29 (by kernel_rfl) rfl (by kernel_rfl) (by simp) fun hA => ?_
  have hfl : fl ≤ A.next := by have := hA.floor; omega
  have hfl1 : fl ≤ A.next + 1 := by have := hA.floor; omega
  have hfl2 : fl ≤ A.next + 2 := by have := hA.floor; omega
  have hfl3 : fl ≤ A.next + 3 := by have := hA.floor; omega
  have hfl4 : fl ≤ A.next + 4 := by have := hA.floor; omega
  have hfl5 : fl ≤ A.next + 5 := by have := hA.floor; omega
  have hfl6 : fl ≤ A.next + 6 := by have := hA.floor; omega
  have hr := below_range (x := k) (n := 9) (by omega)
  have b1 := fun fl A => below_ok (G := G) (fl := fl) (A := A) (x := k) (n := 9) (by omega) (by omega) kk.1 kk.2
  have n1 := fun fl A => num_ok (G := G) (fl := fl) (A := A) (m := below k 9) (n := 8) hG (by omega) (by omega) (by omega) (by omega) (by omega)
  have s1 := fun fl A => qsub (G := G) (fl := fl) (A := A) hG hb ha (by omega)
  have hn := num_rz (m := below k 9) (n := 8) (by omega) (by omega) (by omega) (by omega) (by omega)
  have m1 := fun fl A => qmul (G := G) (fl := fl) (A := A) hG hn (hb.sub ha) (by omega)
  have a1 := fun fl A => qadd (G := G) (fl := fl) (A := A) hG ha (hn.mul (hb.sub ha)) (by omega)
  have hrb := ratV_rb A.next (prt a b k)
  rw [show a + ((below k 9 : Int) : Rat) / ((8 : Int) : Rat) * (b - a) = prt a b k from rfl] at a1
  rw [ratV_def] at n1
  rw [ratV_def b, ratV_def a, ratV_def (b - a)] at s1
  rw [ratV_def, ratV_def (b - a), ratV_def (_ * _)] at m1
  rw [ratV_def a, ratV_def (_ * _), ratV_def (prt a b k)] at a1
  rw [ratV_def] at hrb ⊢
  rw [prV_def]
  simp only [↓R1, R2, R3, R4, TY, reduceIte, Nat.reduceEqDiff, Nat.reduceAdd, Nat.reduceMul, Nat.reduceLT, Nat.reduceLeDiff, reduceCtorEq, decide_true, decide_false, Int.reduceLE, Int.reduceLT, Int.reduceToNat, Int.reduceAdd, Int.reduceSub, Int.reduceMul, Int.reduceEq, hfl, hfl1, hfl2, hfl3, hfl4, hfl5, hfl6, NE]
  refine call_of (b1 _ _) ?_
  simp only [↓R1, R2, R3, R4, TY, reduceIte, Nat.reduceEqDiff, Nat.reduceAdd, Nat.reduceMul, Nat.reduceLT, Nat.reduceLeDiff, reduceCtorEq, decide_true, decide_false, Int.reduceLE, Int.reduceLT, Int.reduceToNat, Int.reduceAdd, Int.reduceSub, Int.reduceMul, Int.reduceEq, hfl, hfl1, hfl2, hfl3, hfl4, hfl5, hfl6, NE]
  refine call_of (n1 _ _) ?_
  simp only [↓R1, R2, R3, R4, TY, reduceIte, Nat.reduceEqDiff, Nat.reduceAdd, Nat.reduceMul, Nat.reduceLT, Nat.reduceLeDiff, reduceCtorEq, decide_true, decide_false, Int.reduceLE, Int.reduceLT, Int.reduceToNat, Int.reduceAdd, Int.reduceSub, Int.reduceMul, Int.reduceEq, hfl, hfl1, hfl2, hfl3, hfl4, hfl5, hfl6, NE]
  refine call_of (s1 _ _) ?_
  simp only [↓R1, R2, R3, R4, TY, reduceIte, Nat.reduceEqDiff, Nat.reduceAdd, Nat.reduceMul, Nat.reduceLT, Nat.reduceLeDiff, reduceCtorEq, decide_true, decide_false, Int.reduceLE, Int.reduceLT, Int.reduceToNat, Int.reduceAdd, Int.reduceSub, Int.reduceMul, Int.reduceEq, hfl, hfl1, hfl2, hfl3, hfl4, hfl5, hfl6, NE]
  refine call_of (m1 _ _) ?_
  simp only [↓R1, R2, R3, R4, TY, reduceIte, Nat.reduceEqDiff, Nat.reduceAdd, Nat.reduceMul, Nat.reduceLT, Nat.reduceLeDiff, reduceCtorEq, decide_true, decide_false, Int.reduceLE, Int.reduceLT, Int.reduceToNat, Int.reduceAdd, Int.reduceSub, Int.reduceMul, Int.reduceEq, hfl, hfl1, hfl2, hfl3, hfl4, hfl5, hfl6, NE]
  refine call_of (a1 _ _) ?_
  simp only [↓R1, R2, R3, R4, TY, reduceIte, Nat.reduceEqDiff, Nat.reduceAdd, Nat.reduceMul, Nat.reduceLT, Nat.reduceLeDiff, reduceCtorEq, decide_true, decide_false, Int.reduceLE, Int.reduceLT, Int.reduceToNat, Int.reduceAdd, Int.reduceSub, Int.reduceMul, Int.reduceEq, hfl, hfl1, hfl2, hfl3, hfl4, hfl5, hfl6, NE]
  rw [floOf_wr (by kernel_rfl)]
  simp only [↓R1, R2, R3, R4, TY, reduceIte, Nat.reduceEqDiff, Nat.reduceAdd, Nat.reduceMul, Nat.reduceLT, Nat.reduceLeDiff, reduceCtorEq, decide_true, decide_false, Int.reduceLE, Int.reduceLT, Int.reduceToNat, Int.reduceAdd, Int.reduceSub, Int.reduceMul, Int.reduceEq, hfl, hfl1, hfl2, hfl3, hfl4, hfl5, hfl6, NE]
  refine Ended.back hA ?_ rfl hrb
  simp (maxDischargeDepth := 20) only [xt_push, xt_put, xt_refl, Nat.le_refl, Nat.le_add_right, Nat.add_assoc, Nat.reduceAdd]

set_option maxHeartbeats 2000000 in
theorem spanBegun_ok  (hG : G 2 = some tabV)  : Sound Tryd.prog G 13 [] fl A (.bool true) A := by
  refine Sound.of mixed Tryd.func13 Tryd.ntmps13 Tryd.results13 (by kernel_rfl) rfl (by kernel_rfl) (by simp) fun hA => ?_
  have hfl : fl ≤ A.next := by have := hA.floor; omega
  have hfl1 : fl ≤ A.next + 1 := by have := hA.floor; omega
  have hfl2 : fl ≤ A.next + 2 := by have := hA.floor; omega
  have hfl3 : fl ≤ A.next + 3 := by have := hA.floor; omega
  have hfl4 : fl ≤ A.next + 4 := by have := hA.floor; omega
  have hfl5 : fl ≤ A.next + 5 := by have := hA.floor; omega
  have hfl6 : fl ≤ A.next + 6 := by have := hA.floor; omega
  have n1 := fun fl A => num_ok (G := G) (fl := fl) (A := A) (m := -1) (n := 2) hG (by omega) (by omega) (by omega) (by omega) (by omega)
  have n2 := fun fl A => num_ok (G := G) (fl := fl) (A := A) (m := 2) (n := 1) hG (by omega) (by omega) (by omega) (by omega) (by omega)
  have n3 := fun fl A => num_ok (G := G) (fl := fl) (A := A) (m := 0) (n := 1) hG (by omega) (by omega) (by omega) (by omega) (by omega)
  have n4 := fun fl A => num_ok (G := G) (fl := fl) (A := A) (m := 4) (n := 1) hG (by omega) (by omega) (by omega) (by omega) (by omega)
  have z1 := num_rz (m := -1) (n := 2) (by omega) (by omega) (by omega) (by omega) (by omega)
  have z2 := num_rz (m := 2) (n := 1) (by omega) (by omega) (by omega) (by omega) (by omega)
  have hle : ((-1 : Int) : Rat) / ((2 : Int) : Rat) ≤ ((2 : Int) : Rat) / ((1 : Int) : Rat) := by decide +kernel
  have mk := fun fl A => smake (G := G) (fl := fl) (A := A) hG z1 z2 hle (by omega)
  have bg := fun fl A => ratBegun_ok (G := G) (fl := fl) (A := A)
  have gd := fun fl A => sgood (G := G) (fl := fl) (A := A) hG z1 z2 (by omega)
  have sq := fun fl A => ssq (G := G) (fl := fl) (A := A) hG ⟨z1, z2, hle⟩ (by omega)
  have hd := eqD_span (((0 : Int) : Rat) / ((1 : Int) : Rat)) (((4 : Int) : Rat) / ((1 : Int) : Rat)) (((0 : Int) : Rat) / ((1 : Int) : Rat)) (((4 : Int) : Rat) / ((1 : Int) : Rat))
  rw [sq_begun.1, sq_begun.2] at sq
  rw [decide_eq_true hle] at gd
  generalize ((-1 : Int) : Rat) / ((2 : Int) : Rat) = u1 at *
  generalize ((2 : Int) : Rat) / ((1 : Int) : Rat) = u2 at *
  generalize ((0 : Int) : Rat) / ((1 : Int) : Rat) = u3 at *
  generalize ((4 : Int) : Rat) / ((1 : Int) : Rat) = u4 at *
  rw [prV_def] at hd gd
  rw [prV_def, prV_def] at sq
  rw [ratV_def] at n1 n2 n3 n4
  rw [ratV_def, ratV_def, prV_def] at mk
  simp only [↓R1, R2, R3, R4, TY, reduceIte, Nat.reduceEqDiff, Nat.reduceAdd, Nat.reduceMul, Nat.reduceLT, Nat.reduceLeDiff, reduceCtorEq, decide_true, decide_false, Int.reduceLE, Int.reduceLT, Int.reduceToNat, Int.reduceAdd, Int.reduceSub, Int.reduceMul, Int.reduceEq, hfl, hfl1, hfl2, hfl3, hfl4, hfl5, hfl6, NE, guard_span, hd]
  refine call_of (n1 _ _) ?_
  simp only [↓R1, R2, R3, R4, TY, reduceIte, Nat.reduceEqDiff, Nat.reduceAdd, Nat.reduceMul, Nat.reduceLT, Nat.reduceLeDiff, reduceCtorEq, decide_true, decide_false, Int.reduceLE, Int.reduceLT, Int.reduceToNat, Int.reduceAdd, Int.reduceSub, Int.reduceMul, Int.reduceEq, hfl, hfl1, hfl2, hfl3, hfl4, hfl5, hfl6, NE, guard_span, hd]
  refine call_of (n2 _ _) ?_
  simp only [↓R1, R2, R3, R4, TY, reduceIte, Nat.reduceEqDiff, Nat.reduceAdd, Nat.reduceMul, Nat.reduceLT, Nat.reduceLeDiff, reduceCtorEq, decide_true, decide_false, Int.reduceLE, Int.reduceLT, Int.reduceToNat, Int.reduceAdd, Int.reduceSub, Int.reduceMul, Int.reduceEq, hfl, hfl1, hfl2, hfl3, hfl4, hfl5, hfl6, NE, guard_span, hd]
  refine call_of (mk _ _) ?_
  simp only [↓R1, R2, R3, R4, TY, reduceIte, Nat.reduceEqDiff, Nat.reduceAdd, Nat.reduceMul, Nat.reduceLT, Nat.reduceLeDiff, reduceCtorEq, decide_true, decide_false, Int.reduceLE, Int.reduceLT, Int.reduceToNat, Int.reduceAdd, Int.reduceSub, Int.reduceMul, Int.reduceEq, hfl, hfl1, hfl2, hfl3, hfl4, hfl5, hfl6, NE, guard_span, hd]
  refine call_of (bg _ _) ?_
  simp only [↓R1, R2, R3, R4, TY, reduceIte, Nat.reduceEqDiff, Nat.reduceAdd, Nat.reduceMul, Nat.reduceLT, Nat.reduceLeDiff, reduceCtorEq, decide_true, decide_false, Int.reduceLE, Int.reduceLT, Int.reduceToNat, Int.reduceAdd, Int.reduceSub, Int.reduceMul, Int.reduceEq, hfl, hfl1, hfl2, hfl3, hfl4, hfl5, hfl6, NE, guard_span, hd]
  refine call_of (gd _ _) ?_
  simp only [↓R1, R2, R3, R4, TY, reduceIte, Nat.reduceEqDiff, Nat.reduceAdd, Nat.reduceMul, Nat.reduceLT, Nat.reduceLeDiff, reduceCtorEq, decide_true, decide_false, Int.reduceLE, Int.reduceLT, Int.reduceToNat, Int.reduceAdd, Int.reduceSub, Int.reduceMul, Int.reduceEq, hfl, hfl1, hfl2, hfl3, hfl4, hfl5, hfl6, NE, guard_span, hd]
  refine call_of (sq _ _) ?_
  simp only [↓R1, R2, R3, R4, TY, reduceIte, Nat.reduceEqDiff, Nat.reduceAdd, Nat.reduceMul, Nat.reduceLT, Nat.reduceLeDiff, reduceCtorEq, decide_true, decide_false, Int.reduceLE, Int.reduceLT, Int.reduceToNat, Int.reduceAdd, Int.reduceSub, Int.reduceMul, Int.reduceEq, hfl, hfl1, hfl2, hfl3, hfl4, hfl5, hfl6, NE, guard_span, hd]
  refine call_of (n3 _ _) ?_
  simp only [↓R1, R2, R3, R4, TY, reduceIte, Nat.reduceEqDiff, Nat.reduceAdd, Nat.reduceMul, Nat.reduceLT, Nat.reduceLeDiff, reduceCtorEq, decide_true, decide_false, Int.reduceLE, Int.reduceLT, Int.reduceToNat, Int.reduceAdd, Int.reduceSub, Int.reduceMul, Int.reduceEq, hfl, hfl1, hfl2, hfl3, hfl4, hfl5, hfl6, NE, guard_span, hd]
  refine call_of (n4 _ _) ?_
  simp only [↓R1, R2, R3, R4, TY, reduceIte, Nat.reduceEqDiff, Nat.reduceAdd, Nat.reduceMul, Nat.reduceLT, Nat.reduceLeDiff, reduceCtorEq, decide_true, decide_false, Int.reduceLE, Int.reduceLT, Int.reduceToNat, Int.reduceAdd, Int.reduceSub, Int.reduceMul, Int.reduceEq, hfl, hfl1, hfl2, hfl3, hfl4, hfl5, hfl6, NE, guard_span, hd]
  refine Ended.back hA ?_ rfl (RB.bool _)
  simp (maxDischargeDepth := 20) only [xt_push, xt_put, xt_refl, Nat.le_refl, Nat.le_add_right, Nat.add_assoc, Nat.reduceAdd]

end
end Go.Proofs.YtincjhklpgfkgaaDoor.Ab
