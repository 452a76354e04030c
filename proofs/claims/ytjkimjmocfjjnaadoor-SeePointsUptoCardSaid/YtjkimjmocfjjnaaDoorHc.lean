/- The reference's ranges of a point; a box against ranges. -/
import Derived.Test.YtjkimjmocfjjnaaDoorHb
namespace Go.Proofs.YtjkimjmocfjjnaaDoor.Ab
open Go.RowKit
set_option linter.unusedVariables false
set_option linter.unusedSimpArgs false
set_option maxRecDepth 100000

section
variable {G : Gl} {fl : Nat} {A : Hp}

set_option maxHeartbeats 2000000 in
theorem wPointOf {P : Po} {k : Nat} {g0 : Bool} {g1 g2 : List UInt8} {h0 : Bool} {h1 h2 : List UInt8} {okg okh : Bool} {g h : Rat} (hG : G 1 = some tabV) (hp : P.ok k) (rg : Raw G g0 g1 g2 okg g k) (rh : Raw G h0 h1 h2 okh h k) (hk : 1000 * k + 1000 ≤ 5000000000) : Sound Tryd.prog G 34 [poV P, .agg #[.bool g0, .string (S g1), .string (S g2), .bool h0, .string (S h1), .string (S h2)]] fl A (rnV (ptB P g h)) A := by
  refine Sound.of mixed Tryd.func34 Tryd.ntmps34 Tryd.results34 (by kernel_rfl) rfl (by kernel_rfl) (by kernel_rfl) fun hA => ?_
  have hfl : fl ≤ A.next := by have := hA.floor; omega
  have hfl1 : fl ≤ A.next + 1 := by have := hA.floor; omega
  have hfl2 : fl ≤ A.next + 2 := by have := hA.floor; omega
  have hfl3 : fl ≤ A.next + 3 := by have := hA.floor; omega
  have hfl4 : fl ≤ A.next + 4 := by have := hA.floor; omega
  have hfl5 : fl ≤ A.next + 5 := by have := hA.floor; omega
  have hfl6 : fl ≤ A.next + 6 := by have := hA.floor; omega
  have cc := fun fl A => wcosines (G := G) (fl := fl) (A := A) hG hp.2.2 hk
  rw [show csq (sqhi P.e P.f) = cLo P from rfl, show csq (sqlo P.e P.f) = cHi P from rfl, show snl P.e P.f 2 = sLo P from rfl, show snh P.e P.f 2 = sHi P from rfl] at cc
  have cS := c_sp hp
  have sS := s_sp hp
  have p1 := fun fl A => wproduct (G := G) (fl := fl) (A := A) hG cS rg (by omega)
  have ng := fun fl A => gneg (G := G) (fl := fl) (A := A) hG rh.fit rh.sz (by omega)
  have p2 := fun fl A => wproduct (G := G) (fl := fl) (A := A) hG sS (raw_good hG rh.sz.neg (by omega)) (by omega)
  have p3 := fun fl A => wproduct (G := G) (fl := fl) (A := A) hG sS rg (by omega)
  have p4 := fun fl A => wproduct (G := G) (fl := fl) (A := A) hG cS rh (by omega)
  rw [← smlo_one, ← smhi_one] at p1 p3 p4
  rw [smhi_neg, smlo_neg] at p2
  have t1 := cS.mul (sp_one rg.sz)
  have t2 := sS.mul (sp_one rh.sz)
  have t3 := sS.mul (sp_one rg.sz)
  have t4 := cS.mul (sp_one rh.sz)
  have t2n : Sp (-smhi (sLo P) (sHi P) h h) (-smlo (sLo P) (sHi P) h h) (4 * k + 6 + k) := ⟨t2.high.neg, t2.low.neg, by have := t2.le; grind⟩
  have q1 := fun fl A => wplus (G := G) (fl := fl) (A := A) hG t1 t2n (by omega)
  have q3 := fun fl A => wplus (G := G) (fl := fl) (A := A) hG t3 t4 (by omega)
  have u1 : Sp (smlo (cLo P) (cHi P) g g + -smhi (sLo P) (sHi P) h h) (smhi (cLo P) (cHi P) g g + -smlo (sLo P) (sHi P) h h) (20 * k + 20) := ⟨(t1.low.add t2n.low).mono (by omega), (t1.high.add t2n.high).mono (by omega), by have := t1.le; have := t2n.le; grind⟩
  have u3 : Sp (smlo (sLo P) (sHi P) g g + smlo (cLo P) (cHi P) h h) (smhi (sLo P) (sHi P) g g + smhi (cLo P) (cHi P) h h) (20 * k + 20) := ⟨(t3.low.add t4.low).mono (by omega), (t3.high.add t4.high).mono (by omega), by have := t3.le; have := t4.le; grind⟩
  have q2 := fun fl A => wplus (G := G) (fl := fl) (A := A) hG hp.1 u1 (by omega)
  have q4 := fun fl A => wplus (G := G) (fl := fl) (A := A) hG hp.2.1 u3 (by omega)
  have eB : ptB P g h = ⟨P.a + (smlo (cLo P) (cHi P) g g + -smhi (sLo P) (sHi P) h h), P.c + (smlo (sLo P) (sHi P) g g + smlo (cLo P) (cHi P) h h), P.b + (smhi (cLo P) (cHi P) g g + -smlo (sLo P) (sHi P) h h), P.d + (smhi (sLo P) (sHi P) g g + smhi (cLo P) (cHi P) h h)⟩ := by unfold ptB; simp only [Rat.sub_eq_add_neg]
  have hrb := rnV_rb A.next (ptB P g h)
  rw [eB] at hrb ⊢
  simp only [rnV_def, poV_def, prV_def, ratV_def] at cc p1 ng p2 p3 p4 q1 q2 q3 q4 hrb ⊢
  simp only [↓R1, R2, R3, R4, TY, reduceIte, Nat.reduceEqDiff, Nat.reduceAdd, Nat.reduceMul, Nat.reduceLT, Nat.reduceLeDiff, reduceCtorEq, decide_true, decide_false, Int.reduceLE, Int.reduceLT, Int.reduceToNat, Int.reduceAdd, Int.reduceSub, Int.reduceMul, Int.reduceEq, hfl, hfl1, hfl2, hfl3, hfl4, hfl5, hfl6, NE, NE9, Nat.add_assoc, w_2, n_2, n_3]
  refine call_of (cc _ _) ?_
  simp only [↓R1, R2, R3, R4, TY, reduceIte, Nat.reduceEqDiff, Nat.reduceAdd, Nat.reduceMul, Nat.reduceLT, Nat.reduceLeDiff, reduceCtorEq, decide_true, decide_false, Int.reduceLE, Int.reduceLT, Int.reduceToNat, Int.reduceAdd, Int.reduceSub, Int.reduceMul, Int.reduceEq, hfl, hfl1, hfl2, hfl3, hfl4, hfl5, hfl6, NE, NE9, Nat.add_assoc, w_2, n_2, n_3]
  refine call_of (p1 _ _) ?_
  simp only [↓R1, R2, R3, R4, TY, reduceIte, Nat.reduceEqDiff, Nat.reduceAdd, Nat.reduceMul, Nat.reduceLT, Nat.reduceLeDiff, reduceCtorEq, decide_true, decide_false, Int.reduceLE, Int.reduceLT, Int.reduceToNat, Int.reduceAdd, Int.reduceSub, Int.reduceMul, Int.reduceEq, hfl, hfl1, hfl2, hfl3, hfl4, hfl5, hfl6, NE, NE9, Nat.add_assoc, w_2, n_2, n_3]
  refine call_of (ng _ _) ?_
  simp only [↓R1, R2, R3, R4, TY, reduceIte, Nat.reduceEqDiff, Nat.reduceAdd, Nat.reduceMul, Nat.reduceLT, Nat.reduceLeDiff, reduceCtorEq, decide_true, decide_false, Int.reduceLE, Int.reduceLT, Int.reduceToNat, Int.reduceAdd, Int.reduceSub, Int.reduceMul, Int.reduceEq, hfl, hfl1, hfl2, hfl3, hfl4, hfl5, hfl6, NE, NE9, Nat.add_assoc, w_2, n_2, n_3]
  refine call_of (p2 _ _) ?_
  simp only [↓R1, R2, R3, R4, TY, reduceIte, Nat.reduceEqDiff, Nat.reduceAdd, Nat.reduceMul, Nat.reduceLT, Nat.reduceLeDiff, reduceCtorEq, decide_true, decide_false, Int.reduceLE, Int.reduceLT, Int.reduceToNat, Int.reduceAdd, Int.reduceSub, Int.reduceMul, Int.reduceEq, hfl, hfl1, hfl2, hfl3, hfl4, hfl5, hfl6, NE, NE9, Nat.add_assoc, w_2, n_2, n_3]
  refine call_of (q1 _ _) ?_
  simp only [↓R1, R2, R3, R4, TY, reduceIte, Nat.reduceEqDiff, Nat.reduceAdd, Nat.reduceMul, Nat.reduceLT, Nat.reduceLeDiff, reduceCtorEq, decide_true, decide_false, Int.reduceLE, Int.reduceLT, Int.reduceToNat, Int.reduceAdd, Int.reduceSub, Int.reduceMul, Int.reduceEq, hfl, hfl1, hfl2, hfl3, hfl4, hfl5, hfl6, NE, NE9, Nat.add_assoc, w_2, n_2, n_3]
  refine call_of (q2 _ _) ?_
  simp only [↓R1, R2, R3, R4, TY, reduceIte, Nat.reduceEqDiff, Nat.reduceAdd, Nat.reduceMul, Nat.reduceLT, Nat.reduceLeDiff, reduceCtorEq, decide_true, decide_false, Int.reduceLE, Int.reduceLT, Int.reduceToNat, Int.reduceAdd, Int.reduceSub, Int.reduceMul, Int.reduceEq, hfl, hfl1, hfl2, hfl3, hfl4, hfl5, hfl6, NE, NE9, Nat.add_assoc, w_2, n_2, n_3]
  refine call_of (p3 _ _) ?_
  simp only [↓R1, R2, R3, R4, TY, reduceIte, Nat.reduceEqDiff, Nat.reduceAdd, Nat.reduceMul, Nat.reduceLT, Nat.reduceLeDiff, reduceCtorEq, decide_true, decide_false, Int.reduceLE, Int.reduceLT, Int.reduceToNat, Int.reduceAdd, Int.reduceSub, Int.reduceMul, Int.reduceEq, hfl, hfl1, hfl2, hfl3, hfl4, hfl5, hfl6, NE, NE9, Nat.add_assoc, w_2, n_2, n_3]
  refine call_of (p4 _ _) ?_
  simp only [↓R1, R2, R3, R4, TY, reduceIte, Nat.reduceEqDiff, Nat.reduceAdd, Nat.reduceMul, Nat.reduceLT, Nat.reduceLeDiff, reduceCtorEq, decide_true, decide_false, Int.reduceLE, Int.reduceLT, Int.reduceToNat, Int.reduceAdd, Int.reduceSub, Int.reduceMul, Int.reduceEq, hfl, hfl1, hfl2, hfl3, hfl4, hfl5, hfl6, NE, NE9, Nat.add_assoc, w_2, n_2, n_3]
  refine call_of (q3 _ _) ?_
  simp only [↓R1, R2, R3, R4, TY, reduceIte, Nat.reduceEqDiff, Nat.reduceAdd, Nat.reduceMul, Nat.reduceLT, Nat.reduceLeDiff, reduceCtorEq, decide_true, decide_false, Int.reduceLE, Int.reduceLT, Int.reduceToNat, Int.reduceAdd, Int.reduceSub, Int.reduceMul, Int.reduceEq, hfl, hfl1, hfl2, hfl3, hfl4, hfl5, hfl6, NE, NE9, Nat.add_assoc, w_2, n_2, n_3]
  refine call_of (q4 _ _) ?_
  simp only [↓R1, R2, R3, R4, TY, reduceIte, Nat.reduceEqDiff, Nat.reduceAdd, Nat.reduceMul, Nat.reduceLT, Nat.reduceLeDiff, reduceCtorEq, decide_true, decide_false, Int.reduceLE, Int.reduceLT, Int.reduceToNat, Int.reduceAdd, Int.reduceSub, Int.reduceMul, Int.reduceEq, hfl, hfl1, hfl2, hfl3, hfl4, hfl5, hfl6, NE, NE9, Nat.add_assoc, w_2, n_2, n_3]
  rw [floOf_wr (by kernel_rfl)]
  simp only [↓R1, R2, R3, R4, TY, reduceIte, Nat.reduceEqDiff, Nat.reduceAdd, Nat.reduceMul, Nat.reduceLT, Nat.reduceLeDiff, reduceCtorEq, decide_true, decide_false, Int.reduceLE, Int.reduceLT, Int.reduceToNat, Int.reduceAdd, Int.reduceSub, Int.reduceMul, Int.reduceEq, hfl, hfl1, hfl2, hfl3, hfl4, hfl5, hfl6, NE, NE9, Nat.add_assoc, w_2, n_2, n_3]
  refine Ended.back hA ?_ rfl hrb
  simp (maxDischargeDepth := 20) only [xt_push, xt_put, xt_refl, Nat.le_refl, Nat.le_add_right, Nat.add_assoc, Nat.reduceAdd]

set_option maxHeartbeats 2000000 in
theorem wSameVec {g0 : Bool} {g1 g2 : List UInt8} {h0 : Bool} {h1 h2 : List UInt8} {v0 : Bool} {v1 v2 : List UInt8} {w0 : Bool} {w1 w2 : List UInt8} {okg okh okv okw : Bool} {g h : Rat} {k : Nat} (hG : G 1 = some tabV) (rg : Raw G g0 g1 g2 okg g k) (rh : Raw G h0 h1 h2 okh h k) (rv : Raw G v0 v1 v2 okv g k) (rw' : Raw G w0 w1 w2 okw h k) (hk : 2 * k ≤ 10000000000) : Sound Tryd.prog G 32 [.agg #[.bool g0, .string (S g1), .string (S g2), .bool h0, .string (S h1), .string (S h2)], .agg #[.bool v0, .string (S v1), .string (S v2), .bool w0, .string (S w1), .string (S w2)]] fl A (.bool true) A := by
  refine Sound.of mixed Tryd.func32 Tryd.ntmps32 Tryd.results32 (by kernel_rfl) rfl (by kernel_rfl) (by kernel_rfl) fun hA => ?_
  have hfl : fl ≤ A.next := by have := hA.floor; omega
  have hfl1 : fl ≤ A.next + 1 := by have := hA.floor; omega
  have hfl2 : fl ≤ A.next + 2 := by have := hA.floor; omega
  have hfl3 : fl ≤ A.next + 3 := by have := hA.floor; omega
  have hfl4 : fl ≤ A.next + 4 := by have := hA.floor; omega
  have hfl5 : fl ≤ A.next + 5 := by have := hA.floor; omega
  have hfl6 : fl ≤ A.next + 6 := by have := hA.floor; omega
  have c1 := fun fl A => gcmp (G := G) (fl := fl) (A := A) hG rg.fit rv.fit rg.sz rv.sz (by omega)
  have c2 := fun fl A => gcmp (G := G) (fl := fl) (A := A) hG rh.fit rw'.fit rh.sz rw'.sz (by omega)
  have e0 : ∀ q : Rat, rcmp q q = 0 := fun q => by rw [rcmp_zero]
  rw [e0] at c1 c2
  simp only [↓R1, R2, R3, R4, TY, reduceIte, Nat.reduceEqDiff, Nat.reduceAdd, Nat.reduceMul, Nat.reduceLT, Nat.reduceLeDiff, reduceCtorEq, decide_true, decide_false, Int.reduceLE, Int.reduceLT, Int.reduceToNat, Int.reduceAdd, Int.reduceSub, Int.reduceMul, Int.reduceEq, hfl, hfl1, hfl2, hfl3, hfl4, hfl5, hfl6, NE, NE9, Nat.add_assoc, rcmp_lt_iff, rcmp_gt_iff, rsign_gt_iff, rcmp_zero, ex9_0, ex9_1, ex9_2, w_1, w_2, w_3, w_4, n_2, n_3, n_4]
  refine call_of (c1 _ _) ?_
  simp only [↓R1, R2, R3, R4, TY, reduceIte, Nat.reduceEqDiff, Nat.reduceAdd, Nat.reduceMul, Nat.reduceLT, Nat.reduceLeDiff, reduceCtorEq, decide_true, decide_false, Int.reduceLE, Int.reduceLT, Int.reduceToNat, Int.reduceAdd, Int.reduceSub, Int.reduceMul, Int.reduceEq, hfl, hfl1, hfl2, hfl3, hfl4, hfl5, hfl6, NE, NE9, Nat.add_assoc, rcmp_lt_iff, rcmp_gt_iff, rsign_gt_iff, rcmp_zero, ex9_0, ex9_1, ex9_2, w_1, w_2, w_3, w_4, n_2, n_3, n_4]
  refine call_of (c2 _ _) ?_
  simp only [↓R1, R2, R3, R4, TY, reduceIte, Nat.reduceEqDiff, Nat.reduceAdd, Nat.reduceMul, Nat.reduceLT, Nat.reduceLeDiff, reduceCtorEq, decide_true, decide_false, Int.reduceLE, Int.reduceLT, Int.reduceToNat, Int.reduceAdd, Int.reduceSub, Int.reduceMul, Int.reduceEq, hfl, hfl1, hfl2, hfl3, hfl4, hfl5, hfl6, NE, NE9, Nat.add_assoc, rcmp_lt_iff, rcmp_gt_iff, rsign_gt_iff, rcmp_zero, ex9_0, ex9_1, ex9_2, w_1, w_2, w_3, w_4, n_2, n_3, n_4]
  exact Ended.back hA (by simp (maxDischargeDepth := 20) only [xt_push, xt_put, xt_refl, Nat.le_refl, Nat.le_add_right, Nat.add_assoc, Nat.reduceAdd]) rfl (RB.bool _)

set_option maxHeartbeats 2000000 in
theorem wIs {g0 : Bool} {g1 g2 : List UInt8} {h0 : Bool} {h1 h2 : List UInt8} {i0 : Bool} {i1 i2 : List UInt8} {p0 : Bool} {p1 p2 : List UInt8} {v0 : Bool} {v1 v2 : List UInt8} {w0 : Bool} {w1 w2 : List UInt8} {x0 : Bool} {x1 x2 : List UInt8} {y0 : Bool} {y1 y2 : List UInt8} {okg okh oki okp okv okw okx oky : Bool} {a b c d : Rat} {k : Nat} (hG : G 1 = some tabV) (rg : Raw G g0 g1 g2 okg a k) (rh : Raw G h0 h1 h2 okh b k) (ri : Raw G i0 i1 i2 oki c k) (rp : Raw G p0 p1 p2 okp d k) (rv : Raw G v0 v1 v2 okv a k) (rw' : Raw G w0 w1 w2 okw c k) (rx : Raw G x0 x1 x2 okx b k) (ry : Raw G y0 y1 y2 oky d k) (hk : 2 * k ≤ 10000000000) : Sound Tryd.prog G 31 [.agg #[.bool g0, .string (S g1), .string (S g2), .bool h0, .string (S h1), .string (S h2), .bool i0, .string (S i1), .string (S i2), .bool p0, .string (S p1), .string (S p2)], .agg #[.bool v0, .string (S v1), .string (S v2), .bool w0, .string (S w1), .string (S w2), .bool x0, .string (S x1), .string (S x2), .bool y0, .string (S y1), .string (S y2)]] fl A (.bool true) A := by
  refine Sound.of mixed Tryd.func31 Tryd.ntmps31 Tryd.results31 (by kernel_rfl) rfl (by kernel_rfl) (by kernel_rfl) fun hA => ?_
  have hfl : fl ≤ A.next := by have := hA.floor; omega
  have hfl1 : fl ≤ A.next + 1 := by have := hA.floor; omega
  have hfl2 : fl ≤ A.next + 2 := by have := hA.floor; omega
  have hfl3 : fl ≤ A.next + 3 := by have := hA.floor; omega
  have hfl4 : fl ≤ A.next + 4 := by have := hA.floor; omega
  have hfl5 : fl ≤ A.next + 5 := by have := hA.floor; omega
  have hfl6 : fl ≤ A.next + 6 := by have := hA.floor; omega
  have s1 := fun fl A => wSameVec (G := G) (fl := fl) (A := A) hG rg rh rv rx hk
  have s2 := fun fl A => wSameVec (G := G) (fl := fl) (A := A) hG ri rp rw' ry hk
  simp only [↓R1, R2, R3, R4, TY, reduceIte, Nat.reduceEqDiff, Nat.reduceAdd, Nat.reduceMul, Nat.reduceLT, Nat.reduceLeDiff, reduceCtorEq, decide_true, decide_false, Int.reduceLE, Int.reduceLT, Int.reduceToNat, Int.reduceAdd, Int.reduceSub, Int.reduceMul, Int.reduceEq, hfl, hfl1, hfl2, hfl3, hfl4, hfl5, hfl6, NE, NE9, Nat.add_assoc, rcmp_lt_iff, rcmp_gt_iff, rsign_gt_iff, rcmp_zero, ex9_0, ex9_1, ex9_2, w_1, w_2, w_3, w_4, n_2, n_3, n_4]
  refine call_of (s1 _ _) ?_
  simp only [↓R1, R2, R3, R4, TY, reduceIte, Nat.reduceEqDiff, Nat.reduceAdd, Nat.reduceMul, Nat.reduceLT, Nat.reduceLeDiff, reduceCtorEq, decide_true, decide_false, Int.reduceLE, Int.reduceLT, Int.reduceToNat, Int.reduceAdd, Int.reduceSub, Int.reduceMul, Int.reduceEq, hfl, hfl1, hfl2, hfl3, hfl4, hfl5, hfl6, NE, NE9, Nat.add_assoc, rcmp_lt_iff, rcmp_gt_iff, rsign_gt_iff, rcmp_zero, ex9_0, ex9_1, ex9_2, w_1, w_2, w_3, w_4, n_2, n_3, n_4]
  refine call_of (s2 _ _) ?_
  simp only [↓R1, R2, R3, R4, TY, reduceIte, Nat.reduceEqDiff, Nat.reduceAdd, Nat.reduceMul, Nat.reduceLT, Nat.reduceLeDiff, reduceCtorEq, decide_true, decide_false, Int.reduceLE, Int.reduceLT, Int.reduceToNat, Int.reduceAdd, Int.reduceSub, Int.reduceMul, Int.reduceEq, hfl, hfl1, hfl2, hfl3, hfl4, hfl5, hfl6, NE, NE9, Nat.add_assoc, rcmp_lt_iff, rcmp_gt_iff, rsign_gt_iff, rcmp_zero, ex9_0, ex9_1, ex9_2, w_1, w_2, w_3, w_4, n_2, n_3, n_4]
  exact Ended.back hA (by simp (maxDischargeDepth := 20) only [xt_push, xt_put, xt_refl, Nat.le_refl, Nat.le_add_right, Nat.add_assoc, Nat.reduceAdd]) rfl (RB.bool _)

theorem wIsB {B : Bx} {k : Nat} (hG : G 1 = some tabV) (h : B.sz k) (hk : 2 * k ≤ 10000000000) : Sound Tryd.prog G 31 [bxV B, rnV B] fl A (.bool true) A :=
  wIs hG (raw_good hG h.x0 (by omega)) (raw_good hG h.y0 (by omega)) (raw_good hG h.x1 (by omega)) (raw_good hG h.y1 (by omega)) (raw_good hG h.x0 (by omega)) (raw_good hG h.x1 (by omega)) (raw_good hG h.y0 (by omega)) (raw_good hG h.y1 (by omega)) hk
end
end Go.Proofs.YtjkimjmocfjjnaaDoor.Ab
