/- Polygons: Axis, Boxes. -/
import Derived.Test.YthclikeipdplpaaDoorYr
namespace Go.Proofs.YthclikeipdplpaaDoor.Ab
open Go.RowKit
set_option linter.unusedVariables false
set_option linter.unusedSimpArgs false
set_option maxRecDepth 100000

theorem dt_nrm (a : List V2) (i : Nat) (x : V2) : dt (nrm a i) x = dt (nrm a i) (pget a i) - crs (pget a i) (pget a ((i + 1) % a.length)) x := by
  unfold dt nrm crs; simp only; grind
theorem nrm_sep {a b : List V2} {i : Nat} (ca : Cvx a) (h : bidx a b = some i) {j k : Nat} (hj : j < a.length) (hk : k < b.length) : dt (nrm a i) (pget a j) < dt (nrm a i) (pget b k) := by
  obtain ⟨hi, hb⟩ := bidx_spec h
  have h1 := ca.left hi hj
  have h2 := (beyN_iff _).1 hb k hk
  rw [dt_nrm a i (pget a j), dt_nrm a i (pget b k)]
  grind
theorem dt_neg (m x : V2) : dt (-m.1, -m.2) x = -dt m x := by unfold dt; simp only; grind
/-- Boxes of polygons that meet meet. -/
theorem meet_box {a b : List V2} (ca : Cvx a) (cb : Cvx b) (a3 : 3 ≤ a.length) (b3 : 3 ≤ b.length) (hm : meetB a b = true) :
    (lo1 a (a.length - 1) ≤ hi1 b (b.length - 1) ∧ lo1 b (b.length - 1) ≤ hi1 a (a.length - 1)) ∧ (lo2 a (a.length - 1) ≤ hi2 b (b.length - 1) ∧ lo2 b (b.length - 1) ≤ hi2 a (a.length - 1)) := by
  have hno : ¬ (Bey a b ∨ Bey b a) := by
    unfold meetB at hm
    rw [Bool.and_eq_true, Bool.not_eq_true', Bool.not_eq_true'] at hm
    rintro (h | h)
    · rw [bidx_bey.2 h] at hm; exact absurd hm.1 (by decide)
    · rw [bidx_bey.2 h] at hm; exact absurd hm.2 (by decide)
  have ba := bx_in (l := a) (a.length - 1)
  have bb := bx_in (l := b) (b.length - 1)
  have sep : ∀ m : V2, ¬ ∀ i j, i < a.length → j < b.length → dt m (pget a i) < dt m (pget b j) := fun m h => hno (sat ca cb a3 b3 m h)
  refine ⟨⟨?_, ?_⟩, ⟨?_, ?_⟩⟩
  · refine Rat.not_lt.1 fun h => sep (-1, 0) fun i j hi hj => ?_
    have h1 := ba i (by omega)
    have h2 := bb j (by omega)
    unfold dt; simp only; grind
  · refine Rat.not_lt.1 fun h => sep (1, 0) fun i j hi hj => ?_
    have h1 := ba i (by omega)
    have h2 := bb j (by omega)
    unfold dt; simp only; grind
  · refine Rat.not_lt.1 fun h => sep (0, -1) fun i j hi hj => ?_
    have h1 := ba i (by omega)
    have h2 := bb j (by omega)
    unfold dt; simp only; grind
  · refine Rat.not_lt.1 fun h => sep (0, 1) fun i j hi hj => ?_
    have h1 := ba i (by omega)
    have h2 := bb j (by omega)
    unfold dt; simp only; grind

section
variable {G : Gl} {fl : Nat} {A : Hp}

set_option maxHeartbeats 2000000 in
theorem vsub0 {a b : Rat} {k : Nat} (hG : G 1 = some tabV) (ha : Rz a k) (hb : Rz b k) (hk : k ≤ 10000) : Sound Tryd.prog G 31 [vZ, prV a b] fl A (prV (-a) (-b)) A := by
  refine Sound.of mixed Tryd.func31 Tryd.ntmps31 Tryd.results31 (by kernel_rfl) rfl (by kernel_rfl) (by simp) fun hA => ?_
  have hfl : fl ≤ A.next := by have := hA.floor; omega
  have hfl1 : fl ≤ A.next + 1 := by have := hA.floor; omega
  have hfl2 : fl ≤ A.next + 2 := by have := hA.floor; omega
  have hfl3 : fl ≤ A.next + 3 := by have := hA.floor; omega
  have hfl4 : fl ≤ A.next + 4 := by have := hA.floor; omega
  have hfl5 : fl ≤ A.next + 5 := by have := hA.floor; omega
  have hfl6 : fl ≤ A.next + 6 := by have := hA.floor; omega
  have f0 := fun fl A => fit0 (G := G) (fl := fl) (A := A)
  have fa := fun fl A => qfit (G := G) (fl := fl) (A := A) (q := a) hG (by have := ha.1; omega) (by have := ha.2; omega)
  have fb := fun fl A => qfit (G := G) (fl := fl) (A := A) (q := b) hG (by have := hb.1; omega) (by have := hb.2; omega)
  have s1 := fun fl A => gsub (G := G) (fl := fl) (A := A) hG f0 fa rz_zero ha (by omega)
  have s2 := fun fl A => gsub (G := G) (fl := fl) (A := A) hG f0 fb rz_zero hb (by omega)
  have e1 : 0 - a = -a := by grind
  have e2 : 0 - b = -b := by grind
  rw [e1] at s1
  rw [e2] at s2
  have hrb := prV_rb A.next (-a) (-b)
  generalize -a = na at *
  generalize -b = nb0 at *
  simp only [prV_def] at hrb ⊢
  simp only [ratV_def] at s1 s2
  simp only [vZ_def]
  simp only [↓R1, R2, R3, R4, TY, reduceIte, Nat.reduceEqDiff, Nat.reduceAdd, Nat.reduceMul, Nat.reduceLT, Nat.reduceLeDiff, reduceCtorEq, decide_true, decide_false, Int.reduceLE, Int.reduceLT, Int.reduceToNat, Int.reduceAdd, Int.reduceSub, Int.reduceMul, Int.reduceEq, hfl, hfl1, hfl2, hfl3, hfl4, hfl5, hfl6, NE, NE9, Nat.add_assoc]
  refine call_of (s1 _ _) ?_
  simp only [↓R1, R2, R3, R4, TY, reduceIte, Nat.reduceEqDiff, Nat.reduceAdd, Nat.reduceMul, Nat.reduceLT, Nat.reduceLeDiff, reduceCtorEq, decide_true, decide_false, Int.reduceLE, Int.reduceLT, Int.reduceToNat, Int.reduceAdd, Int.reduceSub, Int.reduceMul, Int.reduceEq, hfl, hfl1, hfl2, hfl3, hfl4, hfl5, hfl6, NE, NE9, Nat.add_assoc]
  refine call_of (s2 _ _) ?_
  simp only [↓R1, R2, R3, R4, TY, reduceIte, Nat.reduceEqDiff, Nat.reduceAdd, Nat.reduceMul, Nat.reduceLT, Nat.reduceLeDiff, reduceCtorEq, decide_true, decide_false, Int.reduceLE, Int.reduceLT, Int.reduceToNat, Int.reduceAdd, Int.reduceSub, Int.reduceMul, Int.reduceEq, hfl, hfl1, hfl2, hfl3, hfl4, hfl5, hfl6, NE, NE9, Nat.add_assoc]
  rw [floOf_wr (by kernel_rfl)]
  simp only [↓R1, R2, R3, R4, TY, reduceIte, Nat.reduceEqDiff, Nat.reduceAdd, Nat.reduceMul, Nat.reduceLT, Nat.reduceLeDiff, reduceCtorEq, decide_true, decide_false, Int.reduceLE, Int.reduceLT, Int.reduceToNat, Int.reduceAdd, Int.reduceSub, Int.reduceMul, Int.reduceEq, hfl, hfl1, hfl2, hfl3, hfl4, hfl5, hfl6, NE, NE9, Nat.add_assoc]
  refine Ended.back hA ?_ rfl hrb
  simp (maxDischargeDepth := 20) only [xt_push, xt_put, xt_refl, Nat.le_refl, Nat.le_add_right, Nat.add_assoc, Nat.reduceAdd]

set_option maxHeartbeats 2000000 in
theorem axis_1 {va vb : Value} {a b : List V2} {k : Nat} {i : Nat} (hG : G 1 = some tabV) (ha : Sl A 6 va (a.map vC)) (hb : Sl A 6 vb (b.map vC)) (za : Lz a k) (zb : Lz b k) (hk : k ≤ 500) (ca : pchk a 64 = 0) (cb : pchk b 64 = 0) (h1 : bidx a b = some i) : Sound Tryd.prog G 32 [va, vb] fl A (.tuple [prV (nrm a i).1 (nrm a i).2, .int .i64 0].toArray) A := by
  refine Sound.of mixed Tryd.func32 Tryd.ntmps32 Tryd.results32 (by kernel_rfl) rfl (by kernel_rfl) (by simp) fun hA => ?_
  have hfl : fl ≤ A.next := by have := hA.floor; omega
  have hfl1 : fl ≤ A.next + 1 := by have := hA.floor; omega
  have hfl2 : fl ≤ A.next + 2 := by have := hA.floor; omega
  have hfl3 : fl ≤ A.next + 3 := by have := hA.floor; omega
  have hfl4 : fl ≤ A.next + 4 := by have := hA.floor; omega
  have hfl5 : fl ≤ A.next + 5 := by have := hA.floor; omega
  have hfl6 : fl ≤ A.next + 6 := by have := hA.floor; omega
  have la := (pchk_ok.1 ca).2.1
  have lb := (pchk_ok.1 cb).2.1
  have bo := fun fl A ha hb => both_ok (G := G) (fl := fl) (A := A) (va := va) (vb := vb) hG ha hb za zb hk ca cb
  have b1 := fun fl A ha hb => beyond_ok (G := G) (fl := fl) (A := A) (va := va) (vb := vb) hG ha hb za zb hk (by omega) (by omega)
  have b2 := fun fl A ha hb => beyond_ok (G := G) (fl := fl) (A := A) (va := vb) (vb := va) hG ha hb zb za hk (by omega) (by omega)
  have x0 : ∀ b1, Xt A.next A (A.push b1) := fun b1 => (Xt.refl A).push _
  have x1 : ∀ b1 b2 b3, Xt A.next A (((A.push b1).push b2).put (A.next + 1) b3) := fun b1 b2 b3 => (((Xt.refl A).push _).push _).put (Nat.le_succ _) _
  have hrb := prV_rb A.next (nrm a i).1 (nrm a i).2
  rw [h1, bvec_some h1] at b1
  rw [show (some i).isSome = true from rfl] at b1
  generalize nrm a i = N at *
  simp only [prV_def] at b1 hrb ⊢
  simp only [↓R1, R2, R3, R4, TY, reduceIte, Nat.reduceEqDiff, Nat.reduceAdd, Nat.reduceMul, Nat.reduceLT, Nat.reduceLeDiff, reduceCtorEq, decide_true, decide_false, Int.reduceLE, Int.reduceLT, Int.reduceToNat, Int.reduceAdd, Int.reduceSub, Int.reduceMul, Int.reduceEq, hfl, hfl1, hfl2, hfl3, hfl4, hfl5, hfl6, NE, NE9, Nat.add_assoc]
  refine call_of (bo _ _ (ha.xt hA (x0 _)) (hb.xt hA (x0 _))) ?_
  simp only [↓R1, R2, R3, R4, TY, reduceIte, Nat.reduceEqDiff, Nat.reduceAdd, Nat.reduceMul, Nat.reduceLT, Nat.reduceLeDiff, reduceCtorEq, decide_true, decide_false, Int.reduceLE, Int.reduceLT, Int.reduceToNat, Int.reduceAdd, Int.reduceSub, Int.reduceMul, Int.reduceEq, hfl, hfl1, hfl2, hfl3, hfl4, hfl5, hfl6, NE, NE9, Nat.add_assoc]
  refine call_of (b1 _ _ (ha.xt hA (x0 _)) (hb.xt hA (x0 _))) ?_
  simp only [↓R1, R2, R3, R4, TY, reduceIte, Nat.reduceEqDiff, Nat.reduceAdd, Nat.reduceMul, Nat.reduceLT, Nat.reduceLeDiff, reduceCtorEq, decide_true, decide_false, Int.reduceLE, Int.reduceLT, Int.reduceToNat, Int.reduceAdd, Int.reduceSub, Int.reduceMul, Int.reduceEq, hfl, hfl1, hfl2, hfl3, hfl4, hfl5, hfl6, NE, NE9, Nat.add_assoc]
  refine Ended.back hA ?_ rfl (tup_rb hrb (RB.int _ _))
  simp (maxDischargeDepth := 20) only [xt_push, xt_put, xt_refl, Nat.le_refl, Nat.le_add_right, Nat.add_assoc, Nat.reduceAdd]

set_option maxHeartbeats 2000000 in
theorem axis_2 {va vb : Value} {a b : List V2} {k : Nat} {i : Nat} (hG : G 1 = some tabV) (ha : Sl A 6 va (a.map vC)) (hb : Sl A 6 vb (b.map vC)) (za : Lz a k) (zb : Lz b k) (hk : k ≤ 500) (ca : pchk a 64 = 0) (cb : pchk b 64 = 0) (h1 : bidx a b = none) (h2 : bidx b a = some i) : Sound Tryd.prog G 32 [va, vb] fl A (.tuple [prV (-(nrm b i).1) (-(nrm b i).2), .int .i64 0].toArray) A := by
  refine Sound.of mixed Tryd.func32 Tryd.ntmps32 Tryd.results32 (by kernel_rfl) rfl (by kernel_rfl) (by simp) fun hA => ?_
  have hfl : fl ≤ A.next := by have := hA.floor; omega
  have hfl1 : fl ≤ A.next + 1 := by have := hA.floor; omega
  have hfl2 : fl ≤ A.next + 2 := by have := hA.floor; omega
  have hfl3 : fl ≤ A.next + 3 := by have := hA.floor; omega
  have hfl4 : fl ≤ A.next + 4 := by have := hA.floor; omega
  have hfl5 : fl ≤ A.next + 5 := by have := hA.floor; omega
  have hfl6 : fl ≤ A.next + 6 := by have := hA.floor; omega
  have la := (pchk_ok.1 ca).2.1
  have lb := (pchk_ok.1 cb).2.1
  have bo := fun fl A ha hb => both_ok (G := G) (fl := fl) (A := A) (va := va) (vb := vb) hG ha hb za zb hk ca cb
  have b1 := fun fl A ha hb => beyond_ok (G := G) (fl := fl) (A := A) (va := va) (vb := vb) hG ha hb za zb hk (by omega) (by omega)
  have b2 := fun fl A ha hb => beyond_ok (G := G) (fl := fl) (A := A) (va := vb) (vb := va) hG ha hb zb za hk (by omega) (by omega)
  have x0 : ∀ b1, Xt A.next A (A.push b1) := fun b1 => (Xt.refl A).push _
  have x1 : ∀ b1 b2 b3, Xt A.next A (((A.push b1).push b2).put (A.next + 1) b3) := fun b1 b2 b3 => (((Xt.refl A).push _).push _).put (Nat.le_succ _) _
  have hrb := prV_rb A.next (-(nrm b i).1) (-(nrm b i).2)
  have zn := rz_nrm zb (bidx_spec h2).1
  have sb := fun fl A => vsub0 (G := G) (fl := fl) (A := A) hG zn.1 zn.2 (by omega)
  rw [h1, bvec_none h1] at b1
  rw [h2, bvec_some h2] at b2
  rw [show (some i).isSome = true from rfl] at b2
  rw [show (none : Option Nat).isSome = false from rfl] at b1
  generalize nrm b i = N at *
  generalize -N.1 = N1 at *
  generalize -N.2 = N2 at *
  simp only [prV_def] at b2 sb hrb ⊢
  simp only [vZ_def] at b1 sb
  simp only [↓R1, R2, R3, R4, TY, reduceIte, Nat.reduceEqDiff, Nat.reduceAdd, Nat.reduceMul, Nat.reduceLT, Nat.reduceLeDiff, reduceCtorEq, decide_true, decide_false, Int.reduceLE, Int.reduceLT, Int.reduceToNat, Int.reduceAdd, Int.reduceSub, Int.reduceMul, Int.reduceEq, hfl, hfl1, hfl2, hfl3, hfl4, hfl5, hfl6, NE, NE9, Nat.add_assoc]
  refine call_of (bo _ _ (ha.xt hA (x0 _)) (hb.xt hA (x0 _))) ?_
  simp only [↓R1, R2, R3, R4, TY, reduceIte, Nat.reduceEqDiff, Nat.reduceAdd, Nat.reduceMul, Nat.reduceLT, Nat.reduceLeDiff, reduceCtorEq, decide_true, decide_false, Int.reduceLE, Int.reduceLT, Int.reduceToNat, Int.reduceAdd, Int.reduceSub, Int.reduceMul, Int.reduceEq, hfl, hfl1, hfl2, hfl3, hfl4, hfl5, hfl6, NE, NE9, Nat.add_assoc]
  refine call_of (b1 _ _ (ha.xt hA (x0 _)) (hb.xt hA (x0 _))) ?_
  simp only [↓R1, R2, R3, R4, TY, reduceIte, Nat.reduceEqDiff, Nat.reduceAdd, Nat.reduceMul, Nat.reduceLT, Nat.reduceLeDiff, reduceCtorEq, decide_true, decide_false, Int.reduceLE, Int.reduceLT, Int.reduceToNat, Int.reduceAdd, Int.reduceSub, Int.reduceMul, Int.reduceEq, hfl, hfl1, hfl2, hfl3, hfl4, hfl5, hfl6, NE, NE9, Nat.add_assoc]
  refine call_of (b2 _ _ (hb.xt hA (x1 _ _ _)) (ha.xt hA (x1 _ _ _))) ?_
  simp only [↓R1, R2, R3, R4, TY, reduceIte, Nat.reduceEqDiff, Nat.reduceAdd, Nat.reduceMul, Nat.reduceLT, Nat.reduceLeDiff, reduceCtorEq, decide_true, decide_false, Int.reduceLE, Int.reduceLT, Int.reduceToNat, Int.reduceAdd, Int.reduceSub, Int.reduceMul, Int.reduceEq, hfl, hfl1, hfl2, hfl3, hfl4, hfl5, hfl6, NE, NE9, Nat.add_assoc]
  refine call_of (sb _ _) ?_
  simp only [↓R1, R2, R3, R4, TY, reduceIte, Nat.reduceEqDiff, Nat.reduceAdd, Nat.reduceMul, Nat.reduceLT, Nat.reduceLeDiff, reduceCtorEq, decide_true, decide_false, Int.reduceLE, Int.reduceLT, Int.reduceToNat, Int.reduceAdd, Int.reduceSub, Int.reduceMul, Int.reduceEq, hfl, hfl1, hfl2, hfl3, hfl4, hfl5, hfl6, NE, NE9, Nat.add_assoc]
  refine Ended.back hA ?_ rfl (tup_rb hrb (RB.int _ _))
  simp (maxDischargeDepth := 20) only [xt_push, xt_put, xt_refl, Nat.le_refl, Nat.le_add_right, Nat.add_assoc, Nat.reduceAdd]

set_option maxHeartbeats 2000000 in
theorem axis_3 {va vb : Value} {a b : List V2} {k : Nat} (hG : G 1 = some tabV) (ha : Sl A 6 va (a.map vC)) (hb : Sl A 6 vb (b.map vC)) (za : Lz a k) (zb : Lz b k) (hk : k ≤ 500) (ca : pchk a 64 = 0) (cb : pchk b 64 = 0) (h1 : bidx a b = none) (h2 : bidx b a = none) : Sound Tryd.prog G 32 [va, vb] fl A (.tuple [vZ, .int .i64 10].toArray) A := by
  refine Sound.of mixed Tryd.func32 Tryd.ntmps32 Tryd.results32 (by kernel_rfl) rfl (by kernel_rfl) (by simp) fun hA => ?_
  have hfl : fl ≤ A.next := by have := hA.floor; omega
  have hfl1 : fl ≤ A.next + 1 := by have := hA.floor; omega
  have hfl2 : fl ≤ A.next + 2 := by have := hA.floor; omega
  have hfl3 : fl ≤ A.next + 3 := by have := hA.floor; omega
  have hfl4 : fl ≤ A.next + 4 := by have := hA.floor; omega
  have hfl5 : fl ≤ A.next + 5 := by have := hA.floor; omega
  have hfl6 : fl ≤ A.next + 6 := by have := hA.floor; omega
  have la := (pchk_ok.1 ca).2.1
  have lb := (pchk_ok.1 cb).2.1
  have bo := fun fl A ha hb => both_ok (G := G) (fl := fl) (A := A) (va := va) (vb := vb) hG ha hb za zb hk ca cb
  have b1 := fun fl A ha hb => beyond_ok (G := G) (fl := fl) (A := A) (va := va) (vb := vb) hG ha hb za zb hk (by omega) (by omega)
  have b2 := fun fl A ha hb => beyond_ok (G := G) (fl := fl) (A := A) (va := vb) (vb := va) hG ha hb zb za hk (by omega) (by omega)
  have x0 : ∀ b1, Xt A.next A (A.push b1) := fun b1 => (Xt.refl A).push _
  have x1 : ∀ b1 b2 b3, Xt A.next A (((A.push b1).push b2).put (A.next + 1) b3) := fun b1 b2 b3 => (((Xt.refl A).push _).push _).put (Nat.le_succ _) _
  rw [h1, bvec_none h1] at b1
  rw [h2, bvec_none h2] at b2
  rw [show (none : Option Nat).isSome = false from rfl] at b1 b2
  have hrb := vZ_rb A.next
  simp only [vZ_def] at b1 b2 hrb ⊢
  simp only [↓R1, R2, R3, R4, TY, reduceIte, Nat.reduceEqDiff, Nat.reduceAdd, Nat.reduceMul, Nat.reduceLT, Nat.reduceLeDiff, reduceCtorEq, decide_true, decide_false, Int.reduceLE, Int.reduceLT, Int.reduceToNat, Int.reduceAdd, Int.reduceSub, Int.reduceMul, Int.reduceEq, hfl, hfl1, hfl2, hfl3, hfl4, hfl5, hfl6, NE, NE9, Nat.add_assoc]
  refine call_of (bo _ _ (ha.xt hA (x0 _)) (hb.xt hA (x0 _))) ?_
  simp only [↓R1, R2, R3, R4, TY, reduceIte, Nat.reduceEqDiff, Nat.reduceAdd, Nat.reduceMul, Nat.reduceLT, Nat.reduceLeDiff, reduceCtorEq, decide_true, decide_false, Int.reduceLE, Int.reduceLT, Int.reduceToNat, Int.reduceAdd, Int.reduceSub, Int.reduceMul, Int.reduceEq, hfl, hfl1, hfl2, hfl3, hfl4, hfl5, hfl6, NE, NE9, Nat.add_assoc]
  refine call_of (b1 _ _ (ha.xt hA (x0 _)) (hb.xt hA (x0 _))) ?_
  simp only [↓R1, R2, R3, R4, TY, reduceIte, Nat.reduceEqDiff, Nat.reduceAdd, Nat.reduceMul, Nat.reduceLT, Nat.reduceLeDiff, reduceCtorEq, decide_true, decide_false, Int.reduceLE, Int.reduceLT, Int.reduceToNat, Int.reduceAdd, Int.reduceSub, Int.reduceMul, Int.reduceEq, hfl, hfl1, hfl2, hfl3, hfl4, hfl5, hfl6, NE, NE9, Nat.add_assoc]
  refine call_of (b2 _ _ (hb.xt hA (x1 _ _ _)) (ha.xt hA (x1 _ _ _))) ?_
  simp only [↓R1, R2, R3, R4, TY, reduceIte, Nat.reduceEqDiff, Nat.reduceAdd, Nat.reduceMul, Nat.reduceLT, Nat.reduceLeDiff, reduceCtorEq, decide_true, decide_false, Int.reduceLE, Int.reduceLT, Int.reduceToNat, Int.reduceAdd, Int.reduceSub, Int.reduceMul, Int.reduceEq, hfl, hfl1, hfl2, hfl3, hfl4, hfl5, hfl6, NE, NE9, Nat.add_assoc]
  refine Ended.back hA ?_ rfl (tup_rb hrb (RB.int _ _))
  simp (maxDischargeDepth := 20) only [xt_push, xt_put, xt_refl, Nat.le_refl, Nat.le_add_right, Nat.add_assoc, Nat.reduceAdd]

set_option maxHeartbeats 2000000 in
theorem valid_ok {a b c d : Rat} {k : Nat} (hG : G 1 = some tabV) (ha : Rz a k) (hb : Rz b k) (hc : Rz c k) (hd : Rz d k) (hk : k ≤ 100000) (h1 : a ≤ c) (h2 : b ≤ d) : Sound Tryd.prog G 68 [bxV a b c d] fl A (.bool true) A := by
  refine Sound.of mixed Tryd.func68 Tryd.ntmps68 Tryd.results68 (by kernel_rfl) rfl (by kernel_rfl) (by simp) fun hA => ?_
  have hfl : fl ≤ A.next := by have := hA.floor; omega
  have hfl1 : fl ≤ A.next + 1 := by have := hA.floor; omega
  have hfl2 : fl ≤ A.next + 2 := by have := hA.floor; omega
  have hfl3 : fl ≤ A.next + 3 := by have := hA.floor; omega
  have hfl4 : fl ≤ A.next + 4 := by have := hA.floor; omega
  have hfl5 : fl ≤ A.next + 5 := by have := hA.floor; omega
  have hfl6 : fl ≤ A.next + 6 := by have := hA.floor; omega
  have c1 := fun fl A => qcmp (G := G) (fl := fl) (A := A) hG ha hc (by omega)
  have c2 := fun fl A => qcmp (G := G) (fl := fl) (A := A) hG hb hd (by omega)
  have j1 : (rcmp a c ≤ 0) = True := eq_true (rcmp_le_iff.2 h1)
  have j2 : (rcmp b d ≤ 0) = True := eq_true (rcmp_le_iff.2 h2)
  simp only [ratV_def] at c1 c2
  simp only [bxV_def]
  simp only [↓R1, R2, R3, R4, TY, reduceIte, Nat.reduceEqDiff, Nat.reduceAdd, Nat.reduceMul, Nat.reduceLT, Nat.reduceLeDiff, reduceCtorEq, decide_true, decide_false, Int.reduceLE, Int.reduceLT, Int.reduceToNat, Int.reduceAdd, Int.reduceSub, Int.reduceMul, Int.reduceEq, hfl, hfl1, hfl2, hfl3, hfl4, hfl5, hfl6, NE, NE9, Nat.add_assoc, j1, j2]
  refine call_of (c1 _ _) ?_
  simp only [↓R1, R2, R3, R4, TY, reduceIte, Nat.reduceEqDiff, Nat.reduceAdd, Nat.reduceMul, Nat.reduceLT, Nat.reduceLeDiff, reduceCtorEq, decide_true, decide_false, Int.reduceLE, Int.reduceLT, Int.reduceToNat, Int.reduceAdd, Int.reduceSub, Int.reduceMul, Int.reduceEq, hfl, hfl1, hfl2, hfl3, hfl4, hfl5, hfl6, NE, NE9, Nat.add_assoc, j1, j2]
  refine call_of (c2 _ _) ?_
  simp only [↓R1, R2, R3, R4, TY, reduceIte, Nat.reduceEqDiff, Nat.reduceAdd, Nat.reduceMul, Nat.reduceLT, Nat.reduceLeDiff, reduceCtorEq, decide_true, decide_false, Int.reduceLE, Int.reduceLT, Int.reduceToNat, Int.reduceAdd, Int.reduceSub, Int.reduceMul, Int.reduceEq, hfl, hfl1, hfl2, hfl3, hfl4, hfl5, hfl6, NE, NE9, Nat.add_assoc, j1, j2]
  refine Ended.back hA ?_ rfl (RB.bool _)
  simp (maxDischargeDepth := 20) only [xt_push, xt_put, xt_refl, Nat.le_refl, Nat.le_add_right, Nat.add_assoc, Nat.reduceAdd]

set_option maxHeartbeats 2000000 in
theorem boxes_ok {a b c d a' b' c' d' : Rat} {k : Nat} (hG : G 1 = some tabV) (ha : Rz a k) (hb : Rz b k) (hc : Rz c k) (hd : Rz d k) (ha' : Rz a' k) (hb' : Rz b' k) (hc' : Rz c' k) (hd' : Rz d' k) (hk : k ≤ 100000) (h1 : a ≤ c) (h2 : b ≤ d) (h3 : a' ≤ c') (h4 : b' ≤ d') (h5 : a ≤ c') (h6 : a' ≤ c) (h7 : b ≤ d') (h8 : b' ≤ d) : Sound Tryd.prog G 33 [bxV a b c d, bxV a' b' c' d'] fl A (.bool true) A := by
  refine Sound.of mixed Tryd.func33 Tryd.ntmps33 Tryd.results33 (by kernel_rfl) rfl (by kernel_rfl) (by simp) fun hA => ?_
  have hfl : fl ≤ A.next := by have := hA.floor; omega
  have hfl1 : fl ≤ A.next + 1 := by have := hA.floor; omega
  have hfl2 : fl ≤ A.next + 2 := by have := hA.floor; omega
  have hfl3 : fl ≤ A.next + 3 := by have := hA.floor; omega
  have hfl4 : fl ≤ A.next + 4 := by have := hA.floor; omega
  have hfl5 : fl ≤ A.next + 5 := by have := hA.floor; omega
  have hfl6 : fl ≤ A.next + 6 := by have := hA.floor; omega
  have v1 := fun fl A => valid_ok (G := G) (fl := fl) (A := A) hG ha hb hc hd hk h1 h2
  have v2 := fun fl A => valid_ok (G := G) (fl := fl) (A := A) hG ha' hb' hc' hd' hk h3 h4
  have c1 := fun fl A => qcmp (G := G) (fl := fl) (A := A) hG ha hc' (by omega)
  have j1 : (rcmp a c' ≤ 0) = True := eq_true (rcmp_le_iff.2 h5)
  have c2 := fun fl A => qcmp (G := G) (fl := fl) (A := A) hG ha' hc (by omega)
  have j2 : (rcmp a' c ≤ 0) = True := eq_true (rcmp_le_iff.2 h6)
  have c3 := fun fl A => qcmp (G := G) (fl := fl) (A := A) hG hb hd' (by omega)
  have j3 : (rcmp b d' ≤ 0) = True := eq_true (rcmp_le_iff.2 h7)
  have c4 := fun fl A => qcmp (G := G) (fl := fl) (A := A) hG hb' hd (by omega)
  have j4 : (rcmp b' d ≤ 0) = True := eq_true (rcmp_le_iff.2 h8)
  simp only [ratV_def] at c1 c2 c3 c4
  simp only [bxV_def] at v1 v2 ⊢
  simp only [↓R1, R2, R3, R4, TY, reduceIte, Nat.reduceEqDiff, Nat.reduceAdd, Nat.reduceMul, Nat.reduceLT, Nat.reduceLeDiff, reduceCtorEq, decide_true, decide_false, Int.reduceLE, Int.reduceLT, Int.reduceToNat, Int.reduceAdd, Int.reduceSub, Int.reduceMul, Int.reduceEq, hfl, hfl1, hfl2, hfl3, hfl4, hfl5, hfl6, NE, NE9, Nat.add_assoc, j1, j2, j3, j4]
  refine call_of (v1 _ _) ?_
  simp only [↓R1, R2, R3, R4, TY, reduceIte, Nat.reduceEqDiff, Nat.reduceAdd, Nat.reduceMul, Nat.reduceLT, Nat.reduceLeDiff, reduceCtorEq, decide_true, decide_false, Int.reduceLE, Int.reduceLT, Int.reduceToNat, Int.reduceAdd, Int.reduceSub, Int.reduceMul, Int.reduceEq, hfl, hfl1, hfl2, hfl3, hfl4, hfl5, hfl6, NE, NE9, Nat.add_assoc, j1, j2, j3, j4]
  refine call_of (v2 _ _) ?_
  simp only [↓R1, R2, R3, R4, TY, reduceIte, Nat.reduceEqDiff, Nat.reduceAdd, Nat.reduceMul, Nat.reduceLT, Nat.reduceLeDiff, reduceCtorEq, decide_true, decide_false, Int.reduceLE, Int.reduceLT, Int.reduceToNat, Int.reduceAdd, Int.reduceSub, Int.reduceMul, Int.reduceEq, hfl, hfl1, hfl2, hfl3, hfl4, hfl5, hfl6, NE, NE9, Nat.add_assoc, j1, j2, j3, j4]
  refine call_of (c1 _ _) ?_
  simp only [↓R1, R2, R3, R4, TY, reduceIte, Nat.reduceEqDiff, Nat.reduceAdd, Nat.reduceMul, Nat.reduceLT, Nat.reduceLeDiff, reduceCtorEq, decide_true, decide_false, Int.reduceLE, Int.reduceLT, Int.reduceToNat, Int.reduceAdd, Int.reduceSub, Int.reduceMul, Int.reduceEq, hfl, hfl1, hfl2, hfl3, hfl4, hfl5, hfl6, NE, NE9, Nat.add_assoc, j1, j2, j3, j4]
  refine call_of (c2 _ _) ?_
  simp only [↓R1, R2, R3, R4, TY, reduceIte, Nat.reduceEqDiff, Nat.reduceAdd, Nat.reduceMul, Nat.reduceLT, Nat.reduceLeDiff, reduceCtorEq, decide_true, decide_false, Int.reduceLE, Int.reduceLT, Int.reduceToNat, Int.reduceAdd, Int.reduceSub, Int.reduceMul, Int.reduceEq, hfl, hfl1, hfl2, hfl3, hfl4, hfl5, hfl6, NE, NE9, Nat.add_assoc, j1, j2, j3, j4]
  refine call_of (c3 _ _) ?_
  simp only [↓R1, R2, R3, R4, TY, reduceIte, Nat.reduceEqDiff, Nat.reduceAdd, Nat.reduceMul, Nat.reduceLT, Nat.reduceLeDiff, reduceCtorEq, decide_true, decide_false, Int.reduceLE, Int.reduceLT, Int.reduceToNat, Int.reduceAdd, Int.reduceSub, Int.reduceMul, Int.reduceEq, hfl, hfl1, hfl2, hfl3, hfl4, hfl5, hfl6, NE, NE9, Nat.add_assoc, j1, j2, j3, j4]
  refine call_of (c4 _ _) ?_
  simp only [↓R1, R2, R3, R4, TY, reduceIte, Nat.reduceEqDiff, Nat.reduceAdd, Nat.reduceMul, Nat.reduceLT, Nat.reduceLeDiff, reduceCtorEq, decide_true, decide_false, Int.reduceLE, Int.reduceLT, Int.reduceToNat, Int.reduceAdd, Int.reduceSub, Int.reduceMul, Int.reduceEq, hfl, hfl1, hfl2, hfl3, hfl4, hfl5, hfl6, NE, NE9, Nat.add_assoc, j1, j2, j3, j4]
  refine Ended.back hA ?_ rfl (RB.bool _)
  simp (maxDischargeDepth := 20) only [xt_push, xt_put, xt_refl, Nat.le_refl, Nat.le_add_right, Nat.add_assoc, Nat.reduceAdd]


end
end Go.Proofs.YthclikeipdplpaaDoor.Ab
