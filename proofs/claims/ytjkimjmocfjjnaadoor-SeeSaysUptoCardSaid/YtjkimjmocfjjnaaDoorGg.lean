/- The reference's meet of poses. -/
import Derived.Test.YtjkimjmocfjjnaaDoorGd
namespace Go.Proofs.YtjkimjmocfjjnaaDoor.Ab
open Go.RowKit
set_option linter.unusedVariables false
set_option linter.unusedSimpArgs false
set_option maxRecDepth 100000

/-- What has been met after so many spans. -/
def mrow (P Q : Po) : Nat → List Value
  | 0 => [.bool false, .string { data := #[] }, .string { data := #[] }, .bool false, .string { data := #[] }, .string { data := #[] }, .bool false, .string { data := #[] }, .string { data := #[] }, .bool false, .string { data := #[] }, .string { data := #[] }, .bool false, .string { data := #[] }, .string { data := #[] }, .bool false, .string { data := #[] }, .string { data := #[] }]
  | 1 => [.bool (decide ((rmax P.a Q.a).num < 0)), .string (S (nb (rmax P.a Q.a).num.natAbs)), .string (S (nb (rmax P.a Q.a).den)), .bool (decide ((rmin P.b Q.b).num < 0)), .string (S (nb (rmin P.b Q.b).num.natAbs)), .string (S (nb (rmin P.b Q.b).den)), .bool false, .string { data := #[] }, .string { data := #[] }, .bool false, .string { data := #[] }, .string { data := #[] }, .bool false, .string { data := #[] }, .string { data := #[] }, .bool false, .string { data := #[] }, .string { data := #[] }]
  | 2 => [.bool (decide ((rmax P.a Q.a).num < 0)), .string (S (nb (rmax P.a Q.a).num.natAbs)), .string (S (nb (rmax P.a Q.a).den)), .bool (decide ((rmin P.b Q.b).num < 0)), .string (S (nb (rmin P.b Q.b).num.natAbs)), .string (S (nb (rmin P.b Q.b).den)), .bool (decide ((rmax P.c Q.c).num < 0)), .string (S (nb (rmax P.c Q.c).num.natAbs)), .string (S (nb (rmax P.c Q.c).den)), .bool (decide ((rmin P.d Q.d).num < 0)), .string (S (nb (rmin P.d Q.d).num.natAbs)), .string (S (nb (rmin P.d Q.d).den)), .bool false, .string { data := #[] }, .string { data := #[] }, .bool false, .string { data := #[] }, .string { data := #[] }]
  | _ => [.bool (decide ((rmax P.a Q.a).num < 0)), .string (S (nb (rmax P.a Q.a).num.natAbs)), .string (S (nb (rmax P.a Q.a).den)), .bool (decide ((rmin P.b Q.b).num < 0)), .string (S (nb (rmin P.b Q.b).num.natAbs)), .string (S (nb (rmin P.b Q.b).den)), .bool (decide ((rmax P.c Q.c).num < 0)), .string (S (nb (rmax P.c Q.c).num.natAbs)), .string (S (nb (rmax P.c Q.c).den)), .bool (decide ((rmin P.d Q.d).num < 0)), .string (S (nb (rmin P.d Q.d).num.natAbs)), .string (S (nb (rmin P.d Q.d).den)), .bool (decide ((rmax P.e Q.e).num < 0)), .string (S (nb (rmax P.e Q.e).num.natAbs)), .string (S (nb (rmax P.e Q.e).den)), .bool (decide ((rmin P.f Q.f).num < 0)), .string (S (nb (rmin P.f Q.f).num.natAbs)), .string (S (nb (rmin P.f Q.f).den))]
theorem put_push {A : Hp} {b b' : Blk} {i : Nat} (h : i = A.next) : (A.push b).put i b' = A.push b' := by
  subst h
  simp only [Hp.put, Hp.push, Hp.mk.injEq, true_and]
  funext j
  split <;> rfl
theorem rmax_l {p q : Rat} (h : ¬ p < q) : rmax p q = p := by rw [rmax_def]; split <;> grind
theorem rmax_r {p q : Rat} (h : p < q) : rmax p q = q := by rw [rmax_def]; split <;> grind
theorem rmin_l {p q : Rat} (h : ¬ q < p) : rmin p q = p := by rw [rmin_def]; split <;> grind
theorem rmin_r {p q : Rat} (h : q < p) : rmin p q = q := by rw [rmin_def]; split <;> grind

section
variable {G : Gl} {fl : Nat} {A : Hp}

set_option maxHeartbeats 16000000 in
theorem wMeetOf {P Q : Po} {k : Nat} {v : Value} (hG : G 1 = some tabV) (hp : P.ok k) (hq : Q.ok k) (hk : 2 * k ≤ 10000000000) (h1 : neP (meetP P Q) → v = .tuple [poV (meetP P Q), .bool true].toArray) (h0 : ¬ neP (meetP P Q) → v = .tuple [po0, .bool false].toArray) : Sound Tryd.prog G 14 [poV P, poV Q] fl A (v) A := by
  refine Sound.of mixed Tryd.func14 Tryd.ntmps14 Tryd.results14 (by kernel_rfl) rfl (by kernel_rfl) (by simp) fun hA => ?_
  have hfl : fl ≤ A.next := by have := hA.floor; omega
  have hfl1 : fl ≤ A.next + 1 := by have := hA.floor; omega
  have hfl2 : fl ≤ A.next + 2 := by have := hA.floor; omega
  have hfl3 : fl ≤ A.next + 3 := by have := hA.floor; omega
  have hfl4 : fl ≤ A.next + 4 := by have := hA.floor; omega
  have hfl5 : fl ≤ A.next + 5 := by have := hA.floor; omega
  have hfl6 : fl ≤ A.next + 6 := by have := hA.floor; omega
  have hrbP := RB.tuple2 (poV_rb A.next (meetP P Q)) (RB.bool true)
  have hrb0 := RB.tuple2 (po0_rb A.next) (RB.bool false)
  have o1 := fun fl A => qcmp (G := G) (fl := fl) (A := A) hG hq.1.low hp.1.low (by omega)
  have o2 := fun fl A => qcmp (G := G) (fl := fl) (A := A) hG hq.1.high hp.1.high (by omega)
  have o3 := fun fl A => qcmp (G := G) (fl := fl) (A := A) hG (hp.1.low.max hq.1.low) (hp.1.high.min hq.1.high) (by omega)
  have o4 := fun fl A => qcmp (G := G) (fl := fl) (A := A) hG hq.2.1.low hp.2.1.low (by omega)
  have o5 := fun fl A => qcmp (G := G) (fl := fl) (A := A) hG hq.2.1.high hp.2.1.high (by omega)
  have o6 := fun fl A => qcmp (G := G) (fl := fl) (A := A) hG (hp.2.1.low.max hq.2.1.low) (hp.2.1.high.min hq.2.1.high) (by omega)
  have o7 := fun fl A => qcmp (G := G) (fl := fl) (A := A) hG hq.2.2.low hp.2.2.low (by omega)
  have o8 := fun fl A => qcmp (G := G) (fl := fl) (A := A) hG hq.2.2.high hp.2.2.high (by omega)
  have o9 := fun fl A => qcmp (G := G) (fl := fl) (A := A) hG (hp.2.2.low.max hq.2.2.low) (hp.2.2.high.min hq.2.2.high) (by omega)
  simp only [ratV_def] at o1 o2 o3 o4 o5 o6 o7 o8 o9
  simp only [poV_def]
  simp only [↓R1, R2, R3, R4, TY, reduceIte, Nat.reduceEqDiff, Nat.reduceAdd, Nat.reduceMul, Nat.reduceLT, Nat.reduceLeDiff, reduceCtorEq, decide_true, decide_false, Int.reduceLE, Int.reduceLT, Int.reduceToNat, Int.reduceAdd, Int.reduceSub, Int.reduceMul, Int.reduceEq, hfl, hfl1, hfl2, hfl3, hfl4, hfl5, hfl6, NE, NE9, Nat.add_assoc, rcmp_lt_iff, rcmp_gt_iff, rsign_gt_iff, rcmp_zero, ex9_0, ex9_1, ex9_2, w_1, w_2, w_3, w_4, n_2, n_3, n_4]
  have hput : ∀ (c d : List Value), ((((A.push (Blk.row [.bool (decide ((P.a).num < 0)), .string (S (nb (P.a).num.natAbs)), .string (S (nb (P.a).den)), .bool (decide ((P.b).num < 0)), .string (S (nb (P.b).num.natAbs)), .string (S (nb (P.b).den)), .bool (decide ((P.c).num < 0)), .string (S (nb (P.c).num.natAbs)), .string (S (nb (P.c).den)), .bool (decide ((P.d).num < 0)), .string (S (nb (P.d).num.natAbs)), .string (S (nb (P.d).den)), .bool (decide ((P.e).num < 0)), .string (S (nb (P.e).num.natAbs)), .string (S (nb (P.e).den)), .bool (decide ((P.f).num < 0)), .string (S (nb (P.f).num.natAbs)), .string (S (nb (P.f).den))] 0 6)).push (Blk.row [.bool (decide ((Q.a).num < 0)), .string (S (nb (Q.a).num.natAbs)), .string (S (nb (Q.a).den)), .bool (decide ((Q.b).num < 0)), .string (S (nb (Q.b).num.natAbs)), .string (S (nb (Q.b).den)), .bool (decide ((Q.c).num < 0)), .string (S (nb (Q.c).num.natAbs)), .string (S (nb (Q.c).den)), .bool (decide ((Q.d).num < 0)), .string (S (nb (Q.d).num.natAbs)), .string (S (nb (Q.d).den)), .bool (decide ((Q.e).num < 0)), .string (S (nb (Q.e).num.natAbs)), .string (S (nb (Q.e).den)), .bool (decide ((Q.f).num < 0)), .string (S (nb (Q.f).num.natAbs)), .string (S (nb (Q.f).den))] 0 6)).push (Blk.row [.bool false, .string { data := #[] }, .string { data := #[] }, .bool false, .string { data := #[] }, .string { data := #[] }, .bool false, .string { data := #[] }, .string { data := #[] }, .bool false, .string { data := #[] }, .string { data := #[] }, .bool false, .string { data := #[] }, .string { data := #[] }, .bool false, .string { data := #[] }, .string { data := #[] }] 0 6)).push (Blk.row c 0 6)).put (A.next + 3) (Blk.row d 0 6) = (((A.push (Blk.row [.bool (decide ((P.a).num < 0)), .string (S (nb (P.a).num.natAbs)), .string (S (nb (P.a).den)), .bool (decide ((P.b).num < 0)), .string (S (nb (P.b).num.natAbs)), .string (S (nb (P.b).den)), .bool (decide ((P.c).num < 0)), .string (S (nb (P.c).num.natAbs)), .string (S (nb (P.c).den)), .bool (decide ((P.d).num < 0)), .string (S (nb (P.d).num.natAbs)), .string (S (nb (P.d).den)), .bool (decide ((P.e).num < 0)), .string (S (nb (P.e).num.natAbs)), .string (S (nb (P.e).den)), .bool (decide ((P.f).num < 0)), .string (S (nb (P.f).num.natAbs)), .string (S (nb (P.f).den))] 0 6)).push (Blk.row [.bool (decide ((Q.a).num < 0)), .string (S (nb (Q.a).num.natAbs)), .string (S (nb (Q.a).den)), .bool (decide ((Q.b).num < 0)), .string (S (nb (Q.b).num.natAbs)), .string (S (nb (Q.b).den)), .bool (decide ((Q.c).num < 0)), .string (S (nb (Q.c).num.natAbs)), .string (S (nb (Q.c).den)), .bool (decide ((Q.d).num < 0)), .string (S (nb (Q.d).num.natAbs)), .string (S (nb (Q.d).den)), .bool (decide ((Q.e).num < 0)), .string (S (nb (Q.e).num.natAbs)), .string (S (nb (Q.e).den)), .bool (decide ((Q.f).num < 0)), .string (S (nb (Q.f).num.natAbs)), .string (S (nb (Q.f).den))] 0 6)).push (Blk.row [.bool false, .string { data := #[] }, .string { data := #[] }, .bool false, .string { data := #[] }, .string { data := #[] }, .bool false, .string { data := #[] }, .string { data := #[] }, .bool false, .string { data := #[] }, .string { data := #[] }, .bool false, .string { data := #[] }, .string { data := #[] }, .bool false, .string { data := #[] }, .string { data := #[] }] 0 6)).push (Blk.row d 0 6) := fun c d => put_push rfl
  refine range_of 8 3 (fun j τ B => B = (((A.push (Blk.row [.bool (decide ((P.a).num < 0)), .string (S (nb (P.a).num.natAbs)), .string (S (nb (P.a).den)), .bool (decide ((P.b).num < 0)), .string (S (nb (P.b).num.natAbs)), .string (S (nb (P.b).den)), .bool (decide ((P.c).num < 0)), .string (S (nb (P.c).num.natAbs)), .string (S (nb (P.c).den)), .bool (decide ((P.d).num < 0)), .string (S (nb (P.d).num.natAbs)), .string (S (nb (P.d).den)), .bool (decide ((P.e).num < 0)), .string (S (nb (P.e).num.natAbs)), .string (S (nb (P.e).den)), .bool (decide ((P.f).num < 0)), .string (S (nb (P.f).num.natAbs)), .string (S (nb (P.f).den))] 0 6)).push (Blk.row [.bool (decide ((Q.a).num < 0)), .string (S (nb (Q.a).num.natAbs)), .string (S (nb (Q.a).den)), .bool (decide ((Q.b).num < 0)), .string (S (nb (Q.b).num.natAbs)), .string (S (nb (Q.b).den)), .bool (decide ((Q.c).num < 0)), .string (S (nb (Q.c).num.natAbs)), .string (S (nb (Q.c).den)), .bool (decide ((Q.d).num < 0)), .string (S (nb (Q.d).num.natAbs)), .string (S (nb (Q.d).den)), .bool (decide ((Q.e).num < 0)), .string (S (nb (Q.e).num.natAbs)), .string (S (nb (Q.e).den)), .bool (decide ((Q.f).num < 0)), .string (S (nb (Q.f).num.natAbs)), .string (S (nb (Q.f).den))] 0 6)).push (Blk.row [.bool false, .string { data := #[] }, .string { data := #[] }, .bool false, .string { data := #[] }, .string { data := #[] }, .bool false, .string { data := #[] }, .string { data := #[] }, .bool false, .string { data := #[] }, .string { data := #[] }, .bool false, .string { data := #[] }, .string { data := #[] }, .bool false, .string { data := #[] }, .string { data := #[] }] 0 6)).push (Blk.row (mrow P Q j) 0 6) ∧ τ 2 = some (.pointer (some ⟨A.next, 0, some 0⟩)) ∧ τ 3 = some (.pointer (some ⟨A.next + 1, 0, some 0⟩)) ∧ τ 4 = some (.pointer (some ⟨A.next + 2, 0, some 0⟩)) ∧ τ 6 = some (.pointer (some ⟨A.next + 3, 0, some 0⟩)) ∧ (0 < j → rmax P.a Q.a ≤ rmin P.b Q.b) ∧ (1 < j → rmax P.c Q.c ≤ rmin P.d Q.d) ∧ (2 < j → rmax P.e Q.e ≤ rmin P.f Q.f) ∧ τ 8 = some (.int .i64 (j : Nat))) ⟨rfl, rfl, rfl, rfl, rfl, by omega, by omega, by omega, rfl⟩ ?_
  rintro j τ B hj ⟨rfl, t2, t3, t4, t6, m1, m2, m3, t8⟩
  match j, hj, m1, m2, m3, t8 with
  | 0, hj, m1, m2, m3, t8 =>
    have t8' : τ 8 = some (.int .i64 0) := t8
    have z1 := o1
    have z2 := o2
    have z3 := o3
    simp only [mrow]
    by_cases c1 : P.a < Q.a <;> by_cases c2 : Q.b < P.b <;> by_cases c3 : rmin P.b Q.b < rmax P.a Q.a
    · have e1 := eq_true c1
      have e2 := eq_true c2
      have e3 := eq_true c3
      have r1 := rmax_r c1
      have r2 := rmin_r c2
      rw [h0 fun hn => absurd c3 (Rat.not_lt.2 hn.1)]
      rw [r1, r2] at z3 e3
      simp only [↓R1, R2, R3, R4, TY, reduceIte, Nat.reduceEqDiff, Nat.reduceAdd, Nat.reduceMul, Nat.reduceLT, Nat.reduceLeDiff, reduceCtorEq, decide_true, decide_false, Int.reduceLE, Int.reduceLT, Int.reduceToNat, Int.reduceAdd, Int.reduceSub, Int.reduceMul, Int.reduceEq, hfl, hfl1, hfl2, hfl3, hfl4, hfl5, hfl6, NE, NE9, Nat.add_assoc, rcmp_lt_iff, rcmp_gt_iff, rsign_gt_iff, rcmp_zero, ex9_0, ex9_1, ex9_2, w_1, w_2, w_3, w_4, n_2, n_3, n_4, t2, t3, t4, t6, t8', e1, e2, e3]
      rw [floOf_wr (by kernel_rfl)]
      simp only [↓R1, R2, R3, R4, TY, reduceIte, Nat.reduceEqDiff, Nat.reduceAdd, Nat.reduceMul, Nat.reduceLT, Nat.reduceLeDiff, reduceCtorEq, decide_true, decide_false, Int.reduceLE, Int.reduceLT, Int.reduceToNat, Int.reduceAdd, Int.reduceSub, Int.reduceMul, Int.reduceEq, hfl, hfl1, hfl2, hfl3, hfl4, hfl5, hfl6, NE, NE9, Nat.add_assoc, rcmp_lt_iff, rcmp_gt_iff, rsign_gt_iff, rcmp_zero, ex9_0, ex9_1, ex9_2, w_1, w_2, w_3, w_4, n_2, n_3, n_4, t2, t3, t4, t6, t8', e1, e2, e3]
      refine call_of (z1 _ _) ?_
      simp only [↓R1, R2, R3, R4, TY, reduceIte, Nat.reduceEqDiff, Nat.reduceAdd, Nat.reduceMul, Nat.reduceLT, Nat.reduceLeDiff, reduceCtorEq, decide_true, decide_false, Int.reduceLE, Int.reduceLT, Int.reduceToNat, Int.reduceAdd, Int.reduceSub, Int.reduceMul, Int.reduceEq, hfl, hfl1, hfl2, hfl3, hfl4, hfl5, hfl6, NE, NE9, Nat.add_assoc, rcmp_lt_iff, rcmp_gt_iff, rsign_gt_iff, rcmp_zero, ex9_0, ex9_1, ex9_2, w_1, w_2, w_3, w_4, n_2, n_3, n_4, t2, t3, t4, t6, t8', e1, e2, e3]
      rw [floOf_wr (by kernel_rfl)]
      simp only [↓R1, R2, R3, R4, TY, reduceIte, Nat.reduceEqDiff, Nat.reduceAdd, Nat.reduceMul, Nat.reduceLT, Nat.reduceLeDiff, reduceCtorEq, decide_true, decide_false, Int.reduceLE, Int.reduceLT, Int.reduceToNat, Int.reduceAdd, Int.reduceSub, Int.reduceMul, Int.reduceEq, hfl, hfl1, hfl2, hfl3, hfl4, hfl5, hfl6, NE, NE9, Nat.add_assoc, rcmp_lt_iff, rcmp_gt_iff, rsign_gt_iff, rcmp_zero, ex9_0, ex9_1, ex9_2, w_1, w_2, w_3, w_4, n_2, n_3, n_4, t2, t3, t4, t6, t8', e1, e2, e3]
      refine call_of (z2 _ _) ?_
      simp only [↓R1, R2, R3, R4, TY, reduceIte, Nat.reduceEqDiff, Nat.reduceAdd, Nat.reduceMul, Nat.reduceLT, Nat.reduceLeDiff, reduceCtorEq, decide_true, decide_false, Int.reduceLE, Int.reduceLT, Int.reduceToNat, Int.reduceAdd, Int.reduceSub, Int.reduceMul, Int.reduceEq, hfl, hfl1, hfl2, hfl3, hfl4, hfl5, hfl6, NE, NE9, Nat.add_assoc, rcmp_lt_iff, rcmp_gt_iff, rsign_gt_iff, rcmp_zero, ex9_0, ex9_1, ex9_2, w_1, w_2, w_3, w_4, n_2, n_3, n_4, t2, t3, t4, t6, t8', e1, e2, e3]
      rw [floOf_wr (by kernel_rfl)]
      simp only [↓R1, R2, R3, R4, TY, reduceIte, Nat.reduceEqDiff, Nat.reduceAdd, Nat.reduceMul, Nat.reduceLT, Nat.reduceLeDiff, reduceCtorEq, decide_true, decide_false, Int.reduceLE, Int.reduceLT, Int.reduceToNat, Int.reduceAdd, Int.reduceSub, Int.reduceMul, Int.reduceEq, hfl, hfl1, hfl2, hfl3, hfl4, hfl5, hfl6, NE, NE9, Nat.add_assoc, rcmp_lt_iff, rcmp_gt_iff, rsign_gt_iff, rcmp_zero, ex9_0, ex9_1, ex9_2, w_1, w_2, w_3, w_4, n_2, n_3, n_4, t2, t3, t4, t6, t8', e1, e2, e3]
      refine call_of (z3 _ _) ?_
      simp only [↓R1, R2, R3, R4, TY, reduceIte, Nat.reduceEqDiff, Nat.reduceAdd, Nat.reduceMul, Nat.reduceLT, Nat.reduceLeDiff, reduceCtorEq, decide_true, decide_false, Int.reduceLE, Int.reduceLT, Int.reduceToNat, Int.reduceAdd, Int.reduceSub, Int.reduceMul, Int.reduceEq, hfl, hfl1, hfl2, hfl3, hfl4, hfl5, hfl6, NE, NE9, Nat.add_assoc, rcmp_lt_iff, rcmp_gt_iff, rsign_gt_iff, rcmp_zero, ex9_0, ex9_1, ex9_2, w_1, w_2, w_3, w_4, n_2, n_3, n_4, t2, t3, t4, t6, t8', e1, e2, e3]
      exact Ended.back hA (by simp (maxDischargeDepth := 20) only [xt_push, xt_put, xt_refl, Nat.le_refl, Nat.le_add_right, Nat.add_assoc, Nat.reduceAdd]) rfl hrb0
    · have e1 := eq_true c1
      have e2 := eq_true c2
      have e3 := eq_false c3
      have r1 := rmax_r c1
      have r2 := rmin_r c2
      rw [r1, r2] at z3 e3
      simp only [↓R1, R2, R3, R4, TY, reduceIte, Nat.reduceEqDiff, Nat.reduceAdd, Nat.reduceMul, Nat.reduceLT, Nat.reduceLeDiff, reduceCtorEq, decide_true, decide_false, Int.reduceLE, Int.reduceLT, Int.reduceToNat, Int.reduceAdd, Int.reduceSub, Int.reduceMul, Int.reduceEq, hfl, hfl1, hfl2, hfl3, hfl4, hfl5, hfl6, NE, NE9, Nat.add_assoc, rcmp_lt_iff, rcmp_gt_iff, rsign_gt_iff, rcmp_zero, ex9_0, ex9_1, ex9_2, w_1, w_2, w_3, w_4, n_2, n_3, n_4, t2, t3, t4, t6, t8', e1, e2, e3]
      rw [floOf_wr (by kernel_rfl)]
      simp only [↓R1, R2, R3, R4, TY, reduceIte, Nat.reduceEqDiff, Nat.reduceAdd, Nat.reduceMul, Nat.reduceLT, Nat.reduceLeDiff, reduceCtorEq, decide_true, decide_false, Int.reduceLE, Int.reduceLT, Int.reduceToNat, Int.reduceAdd, Int.reduceSub, Int.reduceMul, Int.reduceEq, hfl, hfl1, hfl2, hfl3, hfl4, hfl5, hfl6, NE, NE9, Nat.add_assoc, rcmp_lt_iff, rcmp_gt_iff, rsign_gt_iff, rcmp_zero, ex9_0, ex9_1, ex9_2, w_1, w_2, w_3, w_4, n_2, n_3, n_4, t2, t3, t4, t6, t8', e1, e2, e3]
      refine call_of (z1 _ _) ?_
      simp only [↓R1, R2, R3, R4, TY, reduceIte, Nat.reduceEqDiff, Nat.reduceAdd, Nat.reduceMul, Nat.reduceLT, Nat.reduceLeDiff, reduceCtorEq, decide_true, decide_false, Int.reduceLE, Int.reduceLT, Int.reduceToNat, Int.reduceAdd, Int.reduceSub, Int.reduceMul, Int.reduceEq, hfl, hfl1, hfl2, hfl3, hfl4, hfl5, hfl6, NE, NE9, Nat.add_assoc, rcmp_lt_iff, rcmp_gt_iff, rsign_gt_iff, rcmp_zero, ex9_0, ex9_1, ex9_2, w_1, w_2, w_3, w_4, n_2, n_3, n_4, t2, t3, t4, t6, t8', e1, e2, e3]
      rw [floOf_wr (by kernel_rfl)]
      simp only [↓R1, R2, R3, R4, TY, reduceIte, Nat.reduceEqDiff, Nat.reduceAdd, Nat.reduceMul, Nat.reduceLT, Nat.reduceLeDiff, reduceCtorEq, decide_true, decide_false, Int.reduceLE, Int.reduceLT, Int.reduceToNat, Int.reduceAdd, Int.reduceSub, Int.reduceMul, Int.reduceEq, hfl, hfl1, hfl2, hfl3, hfl4, hfl5, hfl6, NE, NE9, Nat.add_assoc, rcmp_lt_iff, rcmp_gt_iff, rsign_gt_iff, rcmp_zero, ex9_0, ex9_1, ex9_2, w_1, w_2, w_3, w_4, n_2, n_3, n_4, t2, t3, t4, t6, t8', e1, e2, e3]
      refine call_of (z2 _ _) ?_
      simp only [↓R1, R2, R3, R4, TY, reduceIte, Nat.reduceEqDiff, Nat.reduceAdd, Nat.reduceMul, Nat.reduceLT, Nat.reduceLeDiff, reduceCtorEq, decide_true, decide_false, Int.reduceLE, Int.reduceLT, Int.reduceToNat, Int.reduceAdd, Int.reduceSub, Int.reduceMul, Int.reduceEq, hfl, hfl1, hfl2, hfl3, hfl4, hfl5, hfl6, NE, NE9, Nat.add_assoc, rcmp_lt_iff, rcmp_gt_iff, rsign_gt_iff, rcmp_zero, ex9_0, ex9_1, ex9_2, w_1, w_2, w_3, w_4, n_2, n_3, n_4, t2, t3, t4, t6, t8', e1, e2, e3]
      rw [floOf_wr (by kernel_rfl)]
      simp only [↓R1, R2, R3, R4, TY, reduceIte, Nat.reduceEqDiff, Nat.reduceAdd, Nat.reduceMul, Nat.reduceLT, Nat.reduceLeDiff, reduceCtorEq, decide_true, decide_false, Int.reduceLE, Int.reduceLT, Int.reduceToNat, Int.reduceAdd, Int.reduceSub, Int.reduceMul, Int.reduceEq, hfl, hfl1, hfl2, hfl3, hfl4, hfl5, hfl6, NE, NE9, Nat.add_assoc, rcmp_lt_iff, rcmp_gt_iff, rsign_gt_iff, rcmp_zero, ex9_0, ex9_1, ex9_2, w_1, w_2, w_3, w_4, n_2, n_3, n_4, t2, t3, t4, t6, t8', e1, e2, e3]
      refine call_of (z3 _ _) ?_
      simp only [↓R1, R2, R3, R4, TY, reduceIte, Nat.reduceEqDiff, Nat.reduceAdd, Nat.reduceMul, Nat.reduceLT, Nat.reduceLeDiff, reduceCtorEq, decide_true, decide_false, Int.reduceLE, Int.reduceLT, Int.reduceToNat, Int.reduceAdd, Int.reduceSub, Int.reduceMul, Int.reduceEq, hfl, hfl1, hfl2, hfl3, hfl4, hfl5, hfl6, NE, NE9, Nat.add_assoc, rcmp_lt_iff, rcmp_gt_iff, rsign_gt_iff, rcmp_zero, ex9_0, ex9_1, ex9_2, w_1, w_2, w_3, w_4, n_2, n_3, n_4, t2, t3, t4, t6, t8', e1, e2, e3]
      refine range_on t8 (by omega) rfl ⟨?_, t2, t3, t4, t6, ?_, ?_, ?_, rfl⟩
      · simp only [mrow, r1, r2, hput]
      · exact fun h => Rat.not_lt.1 c3
      · exact fun h => absurd h (by omega)
      · exact fun h => absurd h (by omega)
    · have e1 := eq_true c1
      have e2 := eq_false c2
      have e3 := eq_true c3
      have r1 := rmax_r c1
      have r2 := rmin_l c2
      rw [h0 fun hn => absurd c3 (Rat.not_lt.2 hn.1)]
      rw [r1, r2] at z3 e3
      simp only [↓R1, R2, R3, R4, TY, reduceIte, Nat.reduceEqDiff, Nat.reduceAdd, Nat.reduceMul, Nat.reduceLT, Nat.reduceLeDiff, reduceCtorEq, decide_true, decide_false, Int.reduceLE, Int.reduceLT, Int.reduceToNat, Int.reduceAdd, Int.reduceSub, Int.reduceMul, Int.reduceEq, hfl, hfl1, hfl2, hfl3, hfl4, hfl5, hfl6, NE, NE9, Nat.add_assoc, rcmp_lt_iff, rcmp_gt_iff, rsign_gt_iff, rcmp_zero, ex9_0, ex9_1, ex9_2, w_1, w_2, w_3, w_4, n_2, n_3, n_4, t2, t3, t4, t6, t8', e1, e2, e3]
      rw [floOf_wr (by kernel_rfl)]
      simp only [↓R1, R2, R3, R4, TY, reduceIte, Nat.reduceEqDiff, Nat.reduceAdd, Nat.reduceMul, Nat.reduceLT, Nat.reduceLeDiff, reduceCtorEq, decide_true, decide_false, Int.reduceLE, Int.reduceLT, Int.reduceToNat, Int.reduceAdd, Int.reduceSub, Int.reduceMul, Int.reduceEq, hfl, hfl1, hfl2, hfl3, hfl4, hfl5, hfl6, NE, NE9, Nat.add_assoc, rcmp_lt_iff, rcmp_gt_iff, rsign_gt_iff, rcmp_zero, ex9_0, ex9_1, ex9_2, w_1, w_2, w_3, w_4, n_2, n_3, n_4, t2, t3, t4, t6, t8', e1, e2, e3]
      refine call_of (z1 _ _) ?_
      simp only [↓R1, R2, R3, R4, TY, reduceIte, Nat.reduceEqDiff, Nat.reduceAdd, Nat.reduceMul, Nat.reduceLT, Nat.reduceLeDiff, reduceCtorEq, decide_true, decide_false, Int.reduceLE, Int.reduceLT, Int.reduceToNat, Int.reduceAdd, Int.reduceSub, Int.reduceMul, Int.reduceEq, hfl, hfl1, hfl2, hfl3, hfl4, hfl5, hfl6, NE, NE9, Nat.add_assoc, rcmp_lt_iff, rcmp_gt_iff, rsign_gt_iff, rcmp_zero, ex9_0, ex9_1, ex9_2, w_1, w_2, w_3, w_4, n_2, n_3, n_4, t2, t3, t4, t6, t8', e1, e2, e3]
      rw [floOf_wr (by kernel_rfl)]
      simp only [↓R1, R2, R3, R4, TY, reduceIte, Nat.reduceEqDiff, Nat.reduceAdd, Nat.reduceMul, Nat.reduceLT, Nat.reduceLeDiff, reduceCtorEq, decide_true, decide_false, Int.reduceLE, Int.reduceLT, Int.reduceToNat, Int.reduceAdd, Int.reduceSub, Int.reduceMul, Int.reduceEq, hfl, hfl1, hfl2, hfl3, hfl4, hfl5, hfl6, NE, NE9, Nat.add_assoc, rcmp_lt_iff, rcmp_gt_iff, rsign_gt_iff, rcmp_zero, ex9_0, ex9_1, ex9_2, w_1, w_2, w_3, w_4, n_2, n_3, n_4, t2, t3, t4, t6, t8', e1, e2, e3]
      refine call_of (z2 _ _) ?_
      simp only [↓R1, R2, R3, R4, TY, reduceIte, Nat.reduceEqDiff, Nat.reduceAdd, Nat.reduceMul, Nat.reduceLT, Nat.reduceLeDiff, reduceCtorEq, decide_true, decide_false, Int.reduceLE, Int.reduceLT, Int.reduceToNat, Int.reduceAdd, Int.reduceSub, Int.reduceMul, Int.reduceEq, hfl, hfl1, hfl2, hfl3, hfl4, hfl5, hfl6, NE, NE9, Nat.add_assoc, rcmp_lt_iff, rcmp_gt_iff, rsign_gt_iff, rcmp_zero, ex9_0, ex9_1, ex9_2, w_1, w_2, w_3, w_4, n_2, n_3, n_4, t2, t3, t4, t6, t8', e1, e2, e3]
      refine call_of (z3 _ _) ?_
      simp only [↓R1, R2, R3, R4, TY, reduceIte, Nat.reduceEqDiff, Nat.reduceAdd, Nat.reduceMul, Nat.reduceLT, Nat.reduceLeDiff, reduceCtorEq, decide_true, decide_false, Int.reduceLE, Int.reduceLT, Int.reduceToNat, Int.reduceAdd, Int.reduceSub, Int.reduceMul, Int.reduceEq, hfl, hfl1, hfl2, hfl3, hfl4, hfl5, hfl6, NE, NE9, Nat.add_assoc, rcmp_lt_iff, rcmp_gt_iff, rsign_gt_iff, rcmp_zero, ex9_0, ex9_1, ex9_2, w_1, w_2, w_3, w_4, n_2, n_3, n_4, t2, t3, t4, t6, t8', e1, e2, e3]
      exact Ended.back hA (by simp (maxDischargeDepth := 20) only [xt_push, xt_put, xt_refl, Nat.le_refl, Nat.le_add_right, Nat.add_assoc, Nat.reduceAdd]) rfl hrb0
    · have e1 := eq_true c1
      have e2 := eq_false c2
      have e3 := eq_false c3
      have r1 := rmax_r c1
      have r2 := rmin_l c2
      rw [r1, r2] at z3 e3
      simp only [↓R1, R2, R3, R4, TY, reduceIte, Nat.reduceEqDiff, Nat.reduceAdd, Nat.reduceMul, Nat.reduceLT, Nat.reduceLeDiff, reduceCtorEq, decide_true, decide_false, Int.reduceLE, Int.reduceLT, Int.reduceToNat, Int.reduceAdd, Int.reduceSub, Int.reduceMul, Int.reduceEq, hfl, hfl1, hfl2, hfl3, hfl4, hfl5, hfl6, NE, NE9, Nat.add_assoc, rcmp_lt_iff, rcmp_gt_iff, rsign_gt_iff, rcmp_zero, ex9_0, ex9_1, ex9_2, w_1, w_2, w_3, w_4, n_2, n_3, n_4, t2, t3, t4, t6, t8', e1, e2, e3]
      rw [floOf_wr (by kernel_rfl)]
      simp only [↓R1, R2, R3, R4, TY, reduceIte, Nat.reduceEqDiff, Nat.reduceAdd, Nat.reduceMul, Nat.reduceLT, Nat.reduceLeDiff, reduceCtorEq, decide_true, decide_false, Int.reduceLE, Int.reduceLT, Int.reduceToNat, Int.reduceAdd, Int.reduceSub, Int.reduceMul, Int.reduceEq, hfl, hfl1, hfl2, hfl3, hfl4, hfl5, hfl6, NE, NE9, Nat.add_assoc, rcmp_lt_iff, rcmp_gt_iff, rsign_gt_iff, rcmp_zero, ex9_0, ex9_1, ex9_2, w_1, w_2, w_3, w_4, n_2, n_3, n_4, t2, t3, t4, t6, t8', e1, e2, e3]
      refine call_of (z1 _ _) ?_
      simp only [↓R1, R2, R3, R4, TY, reduceIte, Nat.reduceEqDiff, Nat.reduceAdd, Nat.reduceMul, Nat.reduceLT, Nat.reduceLeDiff, reduceCtorEq, decide_true, decide_false, Int.reduceLE, Int.reduceLT, Int.reduceToNat, Int.reduceAdd, Int.reduceSub, Int.reduceMul, Int.reduceEq, hfl, hfl1, hfl2, hfl3, hfl4, hfl5, hfl6, NE, NE9, Nat.add_assoc, rcmp_lt_iff, rcmp_gt_iff, rsign_gt_iff, rcmp_zero, ex9_0, ex9_1, ex9_2, w_1, w_2, w_3, w_4, n_2, n_3, n_4, t2, t3, t4, t6, t8', e1, e2, e3]
      rw [floOf_wr (by kernel_rfl)]
      simp only [↓R1, R2, R3, R4, TY, reduceIte, Nat.reduceEqDiff, Nat.reduceAdd, Nat.reduceMul, Nat.reduceLT, Nat.reduceLeDiff, reduceCtorEq, decide_true, decide_false, Int.reduceLE, Int.reduceLT, Int.reduceToNat, Int.reduceAdd, Int.reduceSub, Int.reduceMul, Int.reduceEq, hfl, hfl1, hfl2, hfl3, hfl4, hfl5, hfl6, NE, NE9, Nat.add_assoc, rcmp_lt_iff, rcmp_gt_iff, rsign_gt_iff, rcmp_zero, ex9_0, ex9_1, ex9_2, w_1, w_2, w_3, w_4, n_2, n_3, n_4, t2, t3, t4, t6, t8', e1, e2, e3]
      refine call_of (z2 _ _) ?_
      simp only [↓R1, R2, R3, R4, TY, reduceIte, Nat.reduceEqDiff, Nat.reduceAdd, Nat.reduceMul, Nat.reduceLT, Nat.reduceLeDiff, reduceCtorEq, decide_true, decide_false, Int.reduceLE, Int.reduceLT, Int.reduceToNat, Int.reduceAdd, Int.reduceSub, Int.reduceMul, Int.reduceEq, hfl, hfl1, hfl2, hfl3, hfl4, hfl5, hfl6, NE, NE9, Nat.add_assoc, rcmp_lt_iff, rcmp_gt_iff, rsign_gt_iff, rcmp_zero, ex9_0, ex9_1, ex9_2, w_1, w_2, w_3, w_4, n_2, n_3, n_4, t2, t3, t4, t6, t8', e1, e2, e3]
      refine call_of (z3 _ _) ?_
      simp only [↓R1, R2, R3, R4, TY, reduceIte, Nat.reduceEqDiff, Nat.reduceAdd, Nat.reduceMul, Nat.reduceLT, Nat.reduceLeDiff, reduceCtorEq, decide_true, decide_false, Int.reduceLE, Int.reduceLT, Int.reduceToNat, Int.reduceAdd, Int.reduceSub, Int.reduceMul, Int.reduceEq, hfl, hfl1, hfl2, hfl3, hfl4, hfl5, hfl6, NE, NE9, Nat.add_assoc, rcmp_lt_iff, rcmp_gt_iff, rsign_gt_iff, rcmp_zero, ex9_0, ex9_1, ex9_2, w_1, w_2, w_3, w_4, n_2, n_3, n_4, t2, t3, t4, t6, t8', e1, e2, e3]
      refine range_on t8 (by omega) rfl ⟨?_, t2, t3, t4, t6, ?_, ?_, ?_, rfl⟩
      · simp only [mrow, r1, r2, hput]
      · exact fun h => Rat.not_lt.1 c3
      · exact fun h => absurd h (by omega)
      · exact fun h => absurd h (by omega)
    · have e1 := eq_false c1
      have e2 := eq_true c2
      have e3 := eq_true c3
      have r1 := rmax_l c1
      have r2 := rmin_r c2
      rw [h0 fun hn => absurd c3 (Rat.not_lt.2 hn.1)]
      rw [r1, r2] at z3 e3
      simp only [↓R1, R2, R3, R4, TY, reduceIte, Nat.reduceEqDiff, Nat.reduceAdd, Nat.reduceMul, Nat.reduceLT, Nat.reduceLeDiff, reduceCtorEq, decide_true, decide_false, Int.reduceLE, Int.reduceLT, Int.reduceToNat, Int.reduceAdd, Int.reduceSub, Int.reduceMul, Int.reduceEq, hfl, hfl1, hfl2, hfl3, hfl4, hfl5, hfl6, NE, NE9, Nat.add_assoc, rcmp_lt_iff, rcmp_gt_iff, rsign_gt_iff, rcmp_zero, ex9_0, ex9_1, ex9_2, w_1, w_2, w_3, w_4, n_2, n_3, n_4, t2, t3, t4, t6, t8', e1, e2, e3]
      rw [floOf_wr (by kernel_rfl)]
      simp only [↓R1, R2, R3, R4, TY, reduceIte, Nat.reduceEqDiff, Nat.reduceAdd, Nat.reduceMul, Nat.reduceLT, Nat.reduceLeDiff, reduceCtorEq, decide_true, decide_false, Int.reduceLE, Int.reduceLT, Int.reduceToNat, Int.reduceAdd, Int.reduceSub, Int.reduceMul, Int.reduceEq, hfl, hfl1, hfl2, hfl3, hfl4, hfl5, hfl6, NE, NE9, Nat.add_assoc, rcmp_lt_iff, rcmp_gt_iff, rsign_gt_iff, rcmp_zero, ex9_0, ex9_1, ex9_2, w_1, w_2, w_3, w_4, n_2, n_3, n_4, t2, t3, t4, t6, t8', e1, e2, e3]
      refine call_of (z1 _ _) ?_
      simp only [↓R1, R2, R3, R4, TY, reduceIte, Nat.reduceEqDiff, Nat.reduceAdd, Nat.reduceMul, Nat.reduceLT, Nat.reduceLeDiff, reduceCtorEq, decide_true, decide_false, Int.reduceLE, Int.reduceLT, Int.reduceToNat, Int.reduceAdd, Int.reduceSub, Int.reduceMul, Int.reduceEq, hfl, hfl1, hfl2, hfl3, hfl4, hfl5, hfl6, NE, NE9, Nat.add_assoc, rcmp_lt_iff, rcmp_gt_iff, rsign_gt_iff, rcmp_zero, ex9_0, ex9_1, ex9_2, w_1, w_2, w_3, w_4, n_2, n_3, n_4, t2, t3, t4, t6, t8', e1, e2, e3]
      refine call_of (z2 _ _) ?_
      simp only [↓R1, R2, R3, R4, TY, reduceIte, Nat.reduceEqDiff, Nat.reduceAdd, Nat.reduceMul, Nat.reduceLT, Nat.reduceLeDiff, reduceCtorEq, decide_true, decide_false, Int.reduceLE, Int.reduceLT, Int.reduceToNat, Int.reduceAdd, Int.reduceSub, Int.reduceMul, Int.reduceEq, hfl, hfl1, hfl2, hfl3, hfl4, hfl5, hfl6, NE, NE9, Nat.add_assoc, rcmp_lt_iff, rcmp_gt_iff, rsign_gt_iff, rcmp_zero, ex9_0, ex9_1, ex9_2, w_1, w_2, w_3, w_4, n_2, n_3, n_4, t2, t3, t4, t6, t8', e1, e2, e3]
      rw [floOf_wr (by kernel_rfl)]
      simp only [↓R1, R2, R3, R4, TY, reduceIte, Nat.reduceEqDiff, Nat.reduceAdd, Nat.reduceMul, Nat.reduceLT, Nat.reduceLeDiff, reduceCtorEq, decide_true, decide_false, Int.reduceLE, Int.reduceLT, Int.reduceToNat, Int.reduceAdd, Int.reduceSub, Int.reduceMul, Int.reduceEq, hfl, hfl1, hfl2, hfl3, hfl4, hfl5, hfl6, NE, NE9, Nat.add_assoc, rcmp_lt_iff, rcmp_gt_iff, rsign_gt_iff, rcmp_zero, ex9_0, ex9_1, ex9_2, w_1, w_2, w_3, w_4, n_2, n_3, n_4, t2, t3, t4, t6, t8', e1, e2, e3]
      refine call_of (z3 _ _) ?_
      simp only [↓R1, R2, R3, R4, TY, reduceIte, Nat.reduceEqDiff, Nat.reduceAdd, Nat.reduceMul, Nat.reduceLT, Nat.reduceLeDiff, reduceCtorEq, decide_true, decide_false, Int.reduceLE, Int.reduceLT, Int.reduceToNat, Int.reduceAdd, Int.reduceSub, Int.reduceMul, Int.reduceEq, hfl, hfl1, hfl2, hfl3, hfl4, hfl5, hfl6, NE, NE9, Nat.add_assoc, rcmp_lt_iff, rcmp_gt_iff, rsign_gt_iff, rcmp_zero, ex9_0, ex9_1, ex9_2, w_1, w_2, w_3, w_4, n_2, n_3, n_4, t2, t3, t4, t6, t8', e1, e2, e3]
      exact Ended.back hA (by simp (maxDischargeDepth := 20) only [xt_push, xt_put, xt_refl, Nat.le_refl, Nat.le_add_right, Nat.add_assoc, Nat.reduceAdd]) rfl hrb0
    · have e1 := eq_false c1
      have e2 := eq_true c2
      have e3 := eq_false c3
      have r1 := rmax_l c1
      have r2 := rmin_r c2
      rw [r1, r2] at z3 e3
      simp only [↓R1, R2, R3, R4, TY, reduceIte, Nat.reduceEqDiff, Nat.reduceAdd, Nat.reduceMul, Nat.reduceLT, Nat.reduceLeDiff, reduceCtorEq, decide_true, decide_false, Int.reduceLE, Int.reduceLT, Int.reduceToNat, Int.reduceAdd, Int.reduceSub, Int.reduceMul, Int.reduceEq, hfl, hfl1, hfl2, hfl3, hfl4, hfl5, hfl6, NE, NE9, Nat.add_assoc, rcmp_lt_iff, rcmp_gt_iff, rsign_gt_iff, rcmp_zero, ex9_0, ex9_1, ex9_2, w_1, w_2, w_3, w_4, n_2, n_3, n_4, t2, t3, t4, t6, t8', e1, e2, e3]
      rw [floOf_wr (by kernel_rfl)]
      simp only [↓R1, R2, R3, R4, TY, reduceIte, Nat.reduceEqDiff, Nat.reduceAdd, Nat.reduceMul, Nat.reduceLT, Nat.reduceLeDiff, reduceCtorEq, decide_true, decide_false, Int.reduceLE, Int.reduceLT, Int.reduceToNat, Int.reduceAdd, Int.reduceSub, Int.reduceMul, Int.reduceEq, hfl, hfl1, hfl2, hfl3, hfl4, hfl5, hfl6, NE, NE9, Nat.add_assoc, rcmp_lt_iff, rcmp_gt_iff, rsign_gt_iff, rcmp_zero, ex9_0, ex9_1, ex9_2, w_1, w_2, w_3, w_4, n_2, n_3, n_4, t2, t3, t4, t6, t8', e1, e2, e3]
      refine call_of (z1 _ _) ?_
      simp only [↓R1, R2, R3, R4, TY, reduceIte, Nat.reduceEqDiff, Nat.reduceAdd, Nat.reduceMul, Nat.reduceLT, Nat.reduceLeDiff, reduceCtorEq, decide_true, decide_false, Int.reduceLE, Int.reduceLT, Int.reduceToNat, Int.reduceAdd, Int.reduceSub, Int.reduceMul, Int.reduceEq, hfl, hfl1, hfl2, hfl3, hfl4, hfl5, hfl6, NE, NE9, Nat.add_assoc, rcmp_lt_iff, rcmp_gt_iff, rsign_gt_iff, rcmp_zero, ex9_0, ex9_1, ex9_2, w_1, w_2, w_3, w_4, n_2, n_3, n_4, t2, t3, t4, t6, t8', e1, e2, e3]
      refine call_of (z2 _ _) ?_
      simp only [↓R1, R2, R3, R4, TY, reduceIte, Nat.reduceEqDiff, Nat.reduceAdd, Nat.reduceMul, Nat.reduceLT, Nat.reduceLeDiff, reduceCtorEq, decide_true, decide_false, Int.reduceLE, Int.reduceLT, Int.reduceToNat, Int.reduceAdd, Int.reduceSub, Int.reduceMul, Int.reduceEq, hfl, hfl1, hfl2, hfl3, hfl4, hfl5, hfl6, NE, NE9, Nat.add_assoc, rcmp_lt_iff, rcmp_gt_iff, rsign_gt_iff, rcmp_zero, ex9_0, ex9_1, ex9_2, w_1, w_2, w_3, w_4, n_2, n_3, n_4, t2, t3, t4, t6, t8', e1, e2, e3]
      rw [floOf_wr (by kernel_rfl)]
      simp only [↓R1, R2, R3, R4, TY, reduceIte, Nat.reduceEqDiff, Nat.reduceAdd, Nat.reduceMul, Nat.reduceLT, Nat.reduceLeDiff, reduceCtorEq, decide_true, decide_false, Int.reduceLE, Int.reduceLT, Int.reduceToNat, Int.reduceAdd, Int.reduceSub, Int.reduceMul, Int.reduceEq, hfl, hfl1, hfl2, hfl3, hfl4, hfl5, hfl6, NE, NE9, Nat.add_assoc, rcmp_lt_iff, rcmp_gt_iff, rsign_gt_iff, rcmp_zero, ex9_0, ex9_1, ex9_2, w_1, w_2, w_3, w_4, n_2, n_3, n_4, t2, t3, t4, t6, t8', e1, e2, e3]
      refine call_of (z3 _ _) ?_
      simp only [↓R1, R2, R3, R4, TY, reduceIte, Nat.reduceEqDiff, Nat.reduceAdd, Nat.reduceMul, Nat.reduceLT, Nat.reduceLeDiff, reduceCtorEq, decide_true, decide_false, Int.reduceLE, Int.reduceLT, Int.reduceToNat, Int.reduceAdd, Int.reduceSub, Int.reduceMul, Int.reduceEq, hfl, hfl1, hfl2, hfl3, hfl4, hfl5, hfl6, NE, NE9, Nat.add_assoc, rcmp_lt_iff, rcmp_gt_iff, rsign_gt_iff, rcmp_zero, ex9_0, ex9_1, ex9_2, w_1, w_2, w_3, w_4, n_2, n_3, n_4, t2, t3, t4, t6, t8', e1, e2, e3]
      refine range_on t8 (by omega) rfl ⟨?_, t2, t3, t4, t6, ?_, ?_, ?_, rfl⟩
      · simp only [mrow, r1, r2, hput]
      · exact fun h => Rat.not_lt.1 c3
      · exact fun h => absurd h (by omega)
      · exact fun h => absurd h (by omega)
    · have e1 := eq_false c1
      have e2 := eq_false c2
      have e3 := eq_true c3
      have r1 := rmax_l c1
      have r2 := rmin_l c2
      rw [h0 fun hn => absurd c3 (Rat.not_lt.2 hn.1)]
      rw [r1, r2] at z3 e3
      simp only [↓R1, R2, R3, R4, TY, reduceIte, Nat.reduceEqDiff, Nat.reduceAdd, Nat.reduceMul, Nat.reduceLT, Nat.reduceLeDiff, reduceCtorEq, decide_true, decide_false, Int.reduceLE, Int.reduceLT, Int.reduceToNat, Int.reduceAdd, Int.reduceSub, Int.reduceMul, Int.reduceEq, hfl, hfl1, hfl2, hfl3, hfl4, hfl5, hfl6, NE, NE9, Nat.add_assoc, rcmp_lt_iff, rcmp_gt_iff, rsign_gt_iff, rcmp_zero, ex9_0, ex9_1, ex9_2, w_1, w_2, w_3, w_4, n_2, n_3, n_4, t2, t3, t4, t6, t8', e1, e2, e3]
      rw [floOf_wr (by kernel_rfl)]
      simp only [↓R1, R2, R3, R4, TY, reduceIte, Nat.reduceEqDiff, Nat.reduceAdd, Nat.reduceMul, Nat.reduceLT, Nat.reduceLeDiff, reduceCtorEq, decide_true, decide_false, Int.reduceLE, Int.reduceLT, Int.reduceToNat, Int.reduceAdd, Int.reduceSub, Int.reduceMul, Int.reduceEq, hfl, hfl1, hfl2, hfl3, hfl4, hfl5, hfl6, NE, NE9, Nat.add_assoc, rcmp_lt_iff, rcmp_gt_iff, rsign_gt_iff, rcmp_zero, ex9_0, ex9_1, ex9_2, w_1, w_2, w_3, w_4, n_2, n_3, n_4, t2, t3, t4, t6, t8', e1, e2, e3]
      refine call_of (z1 _ _) ?_
      simp only [↓R1, R2, R3, R4, TY, reduceIte, Nat.reduceEqDiff, Nat.reduceAdd, Nat.reduceMul, Nat.reduceLT, Nat.reduceLeDiff, reduceCtorEq, decide_true, decide_false, Int.reduceLE, Int.reduceLT, Int.reduceToNat, Int.reduceAdd, Int.reduceSub, Int.reduceMul, Int.reduceEq, hfl, hfl1, hfl2, hfl3, hfl4, hfl5, hfl6, NE, NE9, Nat.add_assoc, rcmp_lt_iff, rcmp_gt_iff, rsign_gt_iff, rcmp_zero, ex9_0, ex9_1, ex9_2, w_1, w_2, w_3, w_4, n_2, n_3, n_4, t2, t3, t4, t6, t8', e1, e2, e3]
      refine call_of (z2 _ _) ?_
      simp only [↓R1, R2, R3, R4, TY, reduceIte, Nat.reduceEqDiff, Nat.reduceAdd, Nat.reduceMul, Nat.reduceLT, Nat.reduceLeDiff, reduceCtorEq, decide_true, decide_false, Int.reduceLE, Int.reduceLT, Int.reduceToNat, Int.reduceAdd, Int.reduceSub, Int.reduceMul, Int.reduceEq, hfl, hfl1, hfl2, hfl3, hfl4, hfl5, hfl6, NE, NE9, Nat.add_assoc, rcmp_lt_iff, rcmp_gt_iff, rsign_gt_iff, rcmp_zero, ex9_0, ex9_1, ex9_2, w_1, w_2, w_3, w_4, n_2, n_3, n_4, t2, t3, t4, t6, t8', e1, e2, e3]
      refine call_of (z3 _ _) ?_
      simp only [↓R1, R2, R3, R4, TY, reduceIte, Nat.reduceEqDiff, Nat.reduceAdd, Nat.reduceMul, Nat.reduceLT, Nat.reduceLeDiff, reduceCtorEq, decide_true, decide_false, Int.reduceLE, Int.reduceLT, Int.reduceToNat, Int.reduceAdd, Int.reduceSub, Int.reduceMul, Int.reduceEq, hfl, hfl1, hfl2, hfl3, hfl4, hfl5, hfl6, NE, NE9, Nat.add_assoc, rcmp_lt_iff, rcmp_gt_iff, rsign_gt_iff, rcmp_zero, ex9_0, ex9_1, ex9_2, w_1, w_2, w_3, w_4, n_2, n_3, n_4, t2, t3, t4, t6, t8', e1, e2, e3]
      exact Ended.back hA (by simp (maxDischargeDepth := 20) only [xt_push, xt_put, xt_refl, Nat.le_refl, Nat.le_add_right, Nat.add_assoc, Nat.reduceAdd]) rfl hrb0
    · have e1 := eq_false c1
      have e2 := eq_false c2
      have e3 := eq_false c3
      have r1 := rmax_l c1
      have r2 := rmin_l c2
      rw [r1, r2] at z3 e3
      simp only [↓R1, R2, R3, R4, TY, reduceIte, Nat.reduceEqDiff, Nat.reduceAdd, Nat.reduceMul, Nat.reduceLT, Nat.reduceLeDiff, reduceCtorEq, decide_true, decide_false, Int.reduceLE, Int.reduceLT, Int.reduceToNat, Int.reduceAdd, Int.reduceSub, Int.reduceMul, Int.reduceEq, hfl, hfl1, hfl2, hfl3, hfl4, hfl5, hfl6, NE, NE9, Nat.add_assoc, rcmp_lt_iff, rcmp_gt_iff, rsign_gt_iff, rcmp_zero, ex9_0, ex9_1, ex9_2, w_1, w_2, w_3, w_4, n_2, n_3, n_4, t2, t3, t4, t6, t8', e1, e2, e3]
      rw [floOf_wr (by kernel_rfl)]
      simp only [↓R1, R2, R3, R4, TY, reduceIte, Nat.reduceEqDiff, Nat.reduceAdd, Nat.reduceMul, Nat.reduceLT, Nat.reduceLeDiff, reduceCtorEq, decide_true, decide_false, Int.reduceLE, Int.reduceLT, Int.reduceToNat, Int.reduceAdd, Int.reduceSub, Int.reduceMul, Int.reduceEq, hfl, hfl1, hfl2, hfl3, hfl4, hfl5, hfl6, NE, NE9, Nat.add_assoc, rcmp_lt_iff, rcmp_gt_iff, rsign_gt_iff, rcmp_zero, ex9_0, ex9_1, ex9_2, w_1, w_2, w_3, w_4, n_2, n_3, n_4, t2, t3, t4, t6, t8', e1, e2, e3]
      refine call_of (z1 _ _) ?_
      simp only [↓R1, R2, R3, R4, TY, reduceIte, Nat.reduceEqDiff, Nat.reduceAdd, Nat.reduceMul, Nat.reduceLT, Nat.reduceLeDiff, reduceCtorEq, decide_true, decide_false, Int.reduceLE, Int.reduceLT, Int.reduceToNat, Int.reduceAdd, Int.reduceSub, Int.reduceMul, Int.reduceEq, hfl, hfl1, hfl2, hfl3, hfl4, hfl5, hfl6, NE, NE9, Nat.add_assoc, rcmp_lt_iff, rcmp_gt_iff, rsign_gt_iff, rcmp_zero, ex9_0, ex9_1, ex9_2, w_1, w_2, w_3, w_4, n_2, n_3, n_4, t2, t3, t4, t6, t8', e1, e2, e3]
      refine call_of (z2 _ _) ?_
      simp only [↓R1, R2, R3, R4, TY, reduceIte, Nat.reduceEqDiff, Nat.reduceAdd, Nat.reduceMul, Nat.reduceLT, Nat.reduceLeDiff, reduceCtorEq, decide_true, decide_false, Int.reduceLE, Int.reduceLT, Int.reduceToNat, Int.reduceAdd, Int.reduceSub, Int.reduceMul, Int.reduceEq, hfl, hfl1, hfl2, hfl3, hfl4, hfl5, hfl6, NE, NE9, Nat.add_assoc, rcmp_lt_iff, rcmp_gt_iff, rsign_gt_iff, rcmp_zero, ex9_0, ex9_1, ex9_2, w_1, w_2, w_3, w_4, n_2, n_3, n_4, t2, t3, t4, t6, t8', e1, e2, e3]
      refine call_of (z3 _ _) ?_
      simp only [↓R1, R2, R3, R4, TY, reduceIte, Nat.reduceEqDiff, Nat.reduceAdd, Nat.reduceMul, Nat.reduceLT, Nat.reduceLeDiff, reduceCtorEq, decide_true, decide_false, Int.reduceLE, Int.reduceLT, Int.reduceToNat, Int.reduceAdd, Int.reduceSub, Int.reduceMul, Int.reduceEq, hfl, hfl1, hfl2, hfl3, hfl4, hfl5, hfl6, NE, NE9, Nat.add_assoc, rcmp_lt_iff, rcmp_gt_iff, rsign_gt_iff, rcmp_zero, ex9_0, ex9_1, ex9_2, w_1, w_2, w_3, w_4, n_2, n_3, n_4, t2, t3, t4, t6, t8', e1, e2, e3]
      refine range_on t8 (by omega) rfl ⟨?_, t2, t3, t4, t6, ?_, ?_, ?_, rfl⟩
      · simp only [mrow, r1, r2, hput]
      · exact fun h => Rat.not_lt.1 c3
      · exact fun h => absurd h (by omega)
      · exact fun h => absurd h (by omega)
  | 1, hj, m1, m2, m3, t8 =>
    have t8' : τ 8 = some (.int .i64 1) := t8
    have z1 := o4
    have z2 := o5
    have z3 := o6
    simp only [mrow]
    by_cases c1 : P.c < Q.c <;> by_cases c2 : Q.d < P.d <;> by_cases c3 : rmin P.d Q.d < rmax P.c Q.c
    · have e1 := eq_true c1
      have e2 := eq_true c2
      have e3 := eq_true c3
      have r1 := rmax_r c1
      have r2 := rmin_r c2
      rw [h0 fun hn => absurd c3 (Rat.not_lt.2 hn.2.1)]
      rw [r1, r2] at z3 e3
      simp only [↓R1, R2, R3, R4, TY, reduceIte, Nat.reduceEqDiff, Nat.reduceAdd, Nat.reduceMul, Nat.reduceLT, Nat.reduceLeDiff, reduceCtorEq, decide_true, decide_false, Int.reduceLE, Int.reduceLT, Int.reduceToNat, Int.reduceAdd, Int.reduceSub, Int.reduceMul, Int.reduceEq, hfl, hfl1, hfl2, hfl3, hfl4, hfl5, hfl6, NE, NE9, Nat.add_assoc, rcmp_lt_iff, rcmp_gt_iff, rsign_gt_iff, rcmp_zero, ex9_0, ex9_1, ex9_2, w_1, w_2, w_3, w_4, n_2, n_3, n_4, t2, t3, t4, t6, t8', e1, e2, e3]
      rw [floOf_wr (by kernel_rfl)]
      simp only [↓R1, R2, R3, R4, TY, reduceIte, Nat.reduceEqDiff, Nat.reduceAdd, Nat.reduceMul, Nat.reduceLT, Nat.reduceLeDiff, reduceCtorEq, decide_true, decide_false, Int.reduceLE, Int.reduceLT, Int.reduceToNat, Int.reduceAdd, Int.reduceSub, Int.reduceMul, Int.reduceEq, hfl, hfl1, hfl2, hfl3, hfl4, hfl5, hfl6, NE, NE9, Nat.add_assoc, rcmp_lt_iff, rcmp_gt_iff, rsign_gt_iff, rcmp_zero, ex9_0, ex9_1, ex9_2, w_1, w_2, w_3, w_4, n_2, n_3, n_4, t2, t3, t4, t6, t8', e1, e2, e3]
      refine call_of (z1 _ _) ?_
      simp only [↓R1, R2, R3, R4, TY, reduceIte, Nat.reduceEqDiff, Nat.reduceAdd, Nat.reduceMul, Nat.reduceLT, Nat.reduceLeDiff, reduceCtorEq, decide_true, decide_false, Int.reduceLE, Int.reduceLT, Int.reduceToNat, Int.reduceAdd, Int.reduceSub, Int.reduceMul, Int.reduceEq, hfl, hfl1, hfl2, hfl3, hfl4, hfl5, hfl6, NE, NE9, Nat.add_assoc, rcmp_lt_iff, rcmp_gt_iff, rsign_gt_iff, rcmp_zero, ex9_0, ex9_1, ex9_2, w_1, w_2, w_3, w_4, n_2, n_3, n_4, t2, t3, t4, t6, t8', e1, e2, e3]
      rw [floOf_wr (by kernel_rfl)]
      simp only [↓R1, R2, R3, R4, TY, reduceIte, Nat.reduceEqDiff, Nat.reduceAdd, Nat.reduceMul, Nat.reduceLT, Nat.reduceLeDiff, reduceCtorEq, decide_true, decide_false, Int.reduceLE, Int.reduceLT, Int.reduceToNat, Int.reduceAdd, Int.reduceSub, Int.reduceMul, Int.reduceEq, hfl, hfl1, hfl2, hfl3, hfl4, hfl5, hfl6, NE, NE9, Nat.add_assoc, rcmp_lt_iff, rcmp_gt_iff, rsign_gt_iff, rcmp_zero, ex9_0, ex9_1, ex9_2, w_1, w_2, w_3, w_4, n_2, n_3, n_4, t2, t3, t4, t6, t8', e1, e2, e3]
      refine call_of (z2 _ _) ?_
      simp only [↓R1, R2, R3, R4, TY, reduceIte, Nat.reduceEqDiff, Nat.reduceAdd, Nat.reduceMul, Nat.reduceLT, Nat.reduceLeDiff, reduceCtorEq, decide_true, decide_false, Int.reduceLE, Int.reduceLT, Int.reduceToNat, Int.reduceAdd, Int.reduceSub, Int.reduceMul, Int.reduceEq, hfl, hfl1, hfl2, hfl3, hfl4, hfl5, hfl6, NE, NE9, Nat.add_assoc, rcmp_lt_iff, rcmp_gt_iff, rsign_gt_iff, rcmp_zero, ex9_0, ex9_1, ex9_2, w_1, w_2, w_3, w_4, n_2, n_3, n_4, t2, t3, t4, t6, t8', e1, e2, e3]
      rw [floOf_wr (by kernel_rfl)]
      simp only [↓R1, R2, R3, R4, TY, reduceIte, Nat.reduceEqDiff, Nat.reduceAdd, Nat.reduceMul, Nat.reduceLT, Nat.reduceLeDiff, reduceCtorEq, decide_true, decide_false, Int.reduceLE, Int.reduceLT, Int.reduceToNat, Int.reduceAdd, Int.reduceSub, Int.reduceMul, Int.reduceEq, hfl, hfl1, hfl2, hfl3, hfl4, hfl5, hfl6, NE, NE9, Nat.add_assoc, rcmp_lt_iff, rcmp_gt_iff, rsign_gt_iff, rcmp_zero, ex9_0, ex9_1, ex9_2, w_1, w_2, w_3, w_4, n_2, n_3, n_4, t2, t3, t4, t6, t8', e1, e2, e3]
      refine call_of (z3 _ _) ?_
      simp only [↓R1, R2, R3, R4, TY, reduceIte, Nat.reduceEqDiff, Nat.reduceAdd, Nat.reduceMul, Nat.reduceLT, Nat.reduceLeDiff, reduceCtorEq, decide_true, decide_false, Int.reduceLE, Int.reduceLT, Int.reduceToNat, Int.reduceAdd, Int.reduceSub, Int.reduceMul, Int.reduceEq, hfl, hfl1, hfl2, hfl3, hfl4, hfl5, hfl6, NE, NE9, Nat.add_assoc, rcmp_lt_iff, rcmp_gt_iff, rsign_gt_iff, rcmp_zero, ex9_0, ex9_1, ex9_2, w_1, w_2, w_3, w_4, n_2, n_3, n_4, t2, t3, t4, t6, t8', e1, e2, e3]
      exact Ended.back hA (by simp (maxDischargeDepth := 20) only [xt_push, xt_put, xt_refl, Nat.le_refl, Nat.le_add_right, Nat.add_assoc, Nat.reduceAdd]) rfl hrb0
    · have e1 := eq_true c1
      have e2 := eq_true c2
      have e3 := eq_false c3
      have r1 := rmax_r c1
      have r2 := rmin_r c2
      rw [r1, r2] at z3 e3
      simp only [↓R1, R2, R3, R4, TY, reduceIte, Nat.reduceEqDiff, Nat.reduceAdd, Nat.reduceMul, Nat.reduceLT, Nat.reduceLeDiff, reduceCtorEq, decide_true, decide_false, Int.reduceLE, Int.reduceLT, Int.reduceToNat, Int.reduceAdd, Int.reduceSub, Int.reduceMul, Int.reduceEq, hfl, hfl1, hfl2, hfl3, hfl4, hfl5, hfl6, NE, NE9, Nat.add_assoc, rcmp_lt_iff, rcmp_gt_iff, rsign_gt_iff, rcmp_zero, ex9_0, ex9_1, ex9_2, w_1, w_2, w_3, w_4, n_2, n_3, n_4, t2, t3, t4, t6, t8', e1, e2, e3]
      rw [floOf_wr (by kernel_rfl)]
      simp only [↓R1, R2, R3, R4, TY, reduceIte, Nat.reduceEqDiff, Nat.reduceAdd, Nat.reduceMul, Nat.reduceLT, Nat.reduceLeDiff, reduceCtorEq, decide_true, decide_false, Int.reduceLE, Int.reduceLT, Int.reduceToNat, Int.reduceAdd, Int.reduceSub, Int.reduceMul, Int.reduceEq, hfl, hfl1, hfl2, hfl3, hfl4, hfl5, hfl6, NE, NE9, Nat.add_assoc, rcmp_lt_iff, rcmp_gt_iff, rsign_gt_iff, rcmp_zero, ex9_0, ex9_1, ex9_2, w_1, w_2, w_3, w_4, n_2, n_3, n_4, t2, t3, t4, t6, t8', e1, e2, e3]
      refine call_of (z1 _ _) ?_
      simp only [↓R1, R2, R3, R4, TY, reduceIte, Nat.reduceEqDiff, Nat.reduceAdd, Nat.reduceMul, Nat.reduceLT, Nat.reduceLeDiff, reduceCtorEq, decide_true, decide_false, Int.reduceLE, Int.reduceLT, Int.reduceToNat, Int.reduceAdd, Int.reduceSub, Int.reduceMul, Int.reduceEq, hfl, hfl1, hfl2, hfl3, hfl4, hfl5, hfl6, NE, NE9, Nat.add_assoc, rcmp_lt_iff, rcmp_gt_iff, rsign_gt_iff, rcmp_zero, ex9_0, ex9_1, ex9_2, w_1, w_2, w_3, w_4, n_2, n_3, n_4, t2, t3, t4, t6, t8', e1, e2, e3]
      rw [floOf_wr (by kernel_rfl)]
      simp only [↓R1, R2, R3, R4, TY, reduceIte, Nat.reduceEqDiff, Nat.reduceAdd, Nat.reduceMul, Nat.reduceLT, Nat.reduceLeDiff, reduceCtorEq, decide_true, decide_false, Int.reduceLE, Int.reduceLT, Int.reduceToNat, Int.reduceAdd, Int.reduceSub, Int.reduceMul, Int.reduceEq, hfl, hfl1, hfl2, hfl3, hfl4, hfl5, hfl6, NE, NE9, Nat.add_assoc, rcmp_lt_iff, rcmp_gt_iff, rsign_gt_iff, rcmp_zero, ex9_0, ex9_1, ex9_2, w_1, w_2, w_3, w_4, n_2, n_3, n_4, t2, t3, t4, t6, t8', e1, e2, e3]
      refine call_of (z2 _ _) ?_
      simp only [↓R1, R2, R3, R4, TY, reduceIte, Nat.reduceEqDiff, Nat.reduceAdd, Nat.reduceMul, Nat.reduceLT, Nat.reduceLeDiff, reduceCtorEq, decide_true, decide_false, Int.reduceLE, Int.reduceLT, Int.reduceToNat, Int.reduceAdd, Int.reduceSub, Int.reduceMul, Int.reduceEq, hfl, hfl1, hfl2, hfl3, hfl4, hfl5, hfl6, NE, NE9, Nat.add_assoc, rcmp_lt_iff, rcmp_gt_iff, rsign_gt_iff, rcmp_zero, ex9_0, ex9_1, ex9_2, w_1, w_2, w_3, w_4, n_2, n_3, n_4, t2, t3, t4, t6, t8', e1, e2, e3]
      rw [floOf_wr (by kernel_rfl)]
      simp only [↓R1, R2, R3, R4, TY, reduceIte, Nat.reduceEqDiff, Nat.reduceAdd, Nat.reduceMul, Nat.reduceLT, Nat.reduceLeDiff, reduceCtorEq, decide_true, decide_false, Int.reduceLE, Int.reduceLT, Int.reduceToNat, Int.reduceAdd, Int.reduceSub, Int.reduceMul, Int.reduceEq, hfl, hfl1, hfl2, hfl3, hfl4, hfl5, hfl6, NE, NE9, Nat.add_assoc, rcmp_lt_iff, rcmp_gt_iff, rsign_gt_iff, rcmp_zero, ex9_0, ex9_1, ex9_2, w_1, w_2, w_3, w_4, n_2, n_3, n_4, t2, t3, t4, t6, t8', e1, e2, e3]
      refine call_of (z3 _ _) ?_
      simp only [↓R1, R2, R3, R4, TY, reduceIte, Nat.reduceEqDiff, Nat.reduceAdd, Nat.reduceMul, Nat.reduceLT, Nat.reduceLeDiff, reduceCtorEq, decide_true, decide_false, Int.reduceLE, Int.reduceLT, Int.reduceToNat, Int.reduceAdd, Int.reduceSub, Int.reduceMul, Int.reduceEq, hfl, hfl1, hfl2, hfl3, hfl4, hfl5, hfl6, NE, NE9, Nat.add_assoc, rcmp_lt_iff, rcmp_gt_iff, rsign_gt_iff, rcmp_zero, ex9_0, ex9_1, ex9_2, w_1, w_2, w_3, w_4, n_2, n_3, n_4, t2, t3, t4, t6, t8', e1, e2, e3]
      refine range_on t8 (by omega) rfl ⟨?_, t2, t3, t4, t6, ?_, ?_, ?_, rfl⟩
      · simp only [mrow, r1, r2, hput]
      · exact fun h => m1 (by omega)
      · exact fun h => Rat.not_lt.1 c3
      · exact fun h => absurd h (by omega)
    · have e1 := eq_true c1
      have e2 := eq_false c2
      have e3 := eq_true c3
      have r1 := rmax_r c1
      have r2 := rmin_l c2
      rw [h0 fun hn => absurd c3 (Rat.not_lt.2 hn.2.1)]
      rw [r1, r2] at z3 e3
      simp only [↓R1, R2, R3, R4, TY, reduceIte, Nat.reduceEqDiff, Nat.reduceAdd, Nat.reduceMul, Nat.reduceLT, Nat.reduceLeDiff, reduceCtorEq, decide_true, decide_false, Int.reduceLE, Int.reduceLT, Int.reduceToNat, Int.reduceAdd, Int.reduceSub, Int.reduceMul, Int.reduceEq, hfl, hfl1, hfl2, hfl3, hfl4, hfl5, hfl6, NE, NE9, Nat.add_assoc, rcmp_lt_iff, rcmp_gt_iff, rsign_gt_iff, rcmp_zero, ex9_0, ex9_1, ex9_2, w_1, w_2, w_3, w_4, n_2, n_3, n_4, t2, t3, t4, t6, t8', e1, e2, e3]
      rw [floOf_wr (by kernel_rfl)]
      simp only [↓R1, R2, R3, R4, TY, reduceIte, Nat.reduceEqDiff, Nat.reduceAdd, Nat.reduceMul, Nat.reduceLT, Nat.reduceLeDiff, reduceCtorEq, decide_true, decide_false, Int.reduceLE, Int.reduceLT, Int.reduceToNat, Int.reduceAdd, Int.reduceSub, Int.reduceMul, Int.reduceEq, hfl, hfl1, hfl2, hfl3, hfl4, hfl5, hfl6, NE, NE9, Nat.add_assoc, rcmp_lt_iff, rcmp_gt_iff, rsign_gt_iff, rcmp_zero, ex9_0, ex9_1, ex9_2, w_1, w_2, w_3, w_4, n_2, n_3, n_4, t2, t3, t4, t6, t8', e1, e2, e3]
      refine call_of (z1 _ _) ?_
      simp only [↓R1, R2, R3, R4, TY, reduceIte, Nat.reduceEqDiff, Nat.reduceAdd, Nat.reduceMul, Nat.reduceLT, Nat.reduceLeDiff, reduceCtorEq, decide_true, decide_false, Int.reduceLE, Int.reduceLT, Int.reduceToNat, Int.reduceAdd, Int.reduceSub, Int.reduceMul, Int.reduceEq, hfl, hfl1, hfl2, hfl3, hfl4, hfl5, hfl6, NE, NE9, Nat.add_assoc, rcmp_lt_iff, rcmp_gt_iff, rsign_gt_iff, rcmp_zero, ex9_0, ex9_1, ex9_2, w_1, w_2, w_3, w_4, n_2, n_3, n_4, t2, t3, t4, t6, t8', e1, e2, e3]
      rw [floOf_wr (by kernel_rfl)]
      simp only [↓R1, R2, R3, R4, TY, reduceIte, Nat.reduceEqDiff, Nat.reduceAdd, Nat.reduceMul, Nat.reduceLT, Nat.reduceLeDiff, reduceCtorEq, decide_true, decide_false, Int.reduceLE, Int.reduceLT, Int.reduceToNat, Int.reduceAdd, Int.reduceSub, Int.reduceMul, Int.reduceEq, hfl, hfl1, hfl2, hfl3, hfl4, hfl5, hfl6, NE, NE9, Nat.add_assoc, rcmp_lt_iff, rcmp_gt_iff, rsign_gt_iff, rcmp_zero, ex9_0, ex9_1, ex9_2, w_1, w_2, w_3, w_4, n_2, n_3, n_4, t2, t3, t4, t6, t8', e1, e2, e3]
      refine call_of (z2 _ _) ?_
      simp only [↓R1, R2, R3, R4, TY, reduceIte, Nat.reduceEqDiff, Nat.reduceAdd, Nat.reduceMul, Nat.reduceLT, Nat.reduceLeDiff, reduceCtorEq, decide_true, decide_false, Int.reduceLE, Int.reduceLT, Int.reduceToNat, Int.reduceAdd, Int.reduceSub, Int.reduceMul, Int.reduceEq, hfl, hfl1, hfl2, hfl3, hfl4, hfl5, hfl6, NE, NE9, Nat.add_assoc, rcmp_lt_iff, rcmp_gt_iff, rsign_gt_iff, rcmp_zero, ex9_0, ex9_1, ex9_2, w_1, w_2, w_3, w_4, n_2, n_3, n_4, t2, t3, t4, t6, t8', e1, e2, e3]
      refine call_of (z3 _ _) ?_
      simp only [↓R1, R2, R3, R4, TY, reduceIte, Nat.reduceEqDiff, Nat.reduceAdd, Nat.reduceMul, Nat.reduceLT, Nat.reduceLeDiff, reduceCtorEq, decide_true, decide_false, Int.reduceLE, Int.reduceLT, Int.reduceToNat, Int.reduceAdd, Int.reduceSub, Int.reduceMul, Int.reduceEq, hfl, hfl1, hfl2, hfl3, hfl4, hfl5, hfl6, NE, NE9, Nat.add_assoc, rcmp_lt_iff, rcmp_gt_iff, rsign_gt_iff, rcmp_zero, ex9_0, ex9_1, ex9_2, w_1, w_2, w_3, w_4, n_2, n_3, n_4, t2, t3, t4, t6, t8', e1, e2, e3]
      exact Ended.back hA (by simp (maxDischargeDepth := 20) only [xt_push, xt_put, xt_refl, Nat.le_refl, Nat.le_add_right, Nat.add_assoc, Nat.reduceAdd]) rfl hrb0
    · have e1 := eq_true c1
      have e2 := eq_false c2
      have e3 := eq_false c3
      have r1 := rmax_r c1
      have r2 := rmin_l c2
      rw [r1, r2] at z3 e3
      simp only [↓R1, R2, R3, R4, TY, reduceIte, Nat.reduceEqDiff, Nat.reduceAdd, Nat.reduceMul, Nat.reduceLT, Nat.reduceLeDiff, reduceCtorEq, decide_true, decide_false, Int.reduceLE, Int.reduceLT, Int.reduceToNat, Int.reduceAdd, Int.reduceSub, Int.reduceMul, Int.reduceEq, hfl, hfl1, hfl2, hfl3, hfl4, hfl5, hfl6, NE, NE9, Nat.add_assoc, rcmp_lt_iff, rcmp_gt_iff, rsign_gt_iff, rcmp_zero, ex9_0, ex9_1, ex9_2, w_1, w_2, w_3, w_4, n_2, n_3, n_4, t2, t3, t4, t6, t8', e1, e2, e3]
      rw [floOf_wr (by kernel_rfl)]
      simp only [↓R1, R2, R3, R4, TY, reduceIte, Nat.reduceEqDiff, Nat.reduceAdd, Nat.reduceMul, Nat.reduceLT, Nat.reduceLeDiff, reduceCtorEq, decide_true, decide_false, Int.reduceLE, Int.reduceLT, Int.reduceToNat, Int.reduceAdd, Int.reduceSub, Int.reduceMul, Int.reduceEq, hfl, hfl1, hfl2, hfl3, hfl4, hfl5, hfl6, NE, NE9, Nat.add_assoc, rcmp_lt_iff, rcmp_gt_iff, rsign_gt_iff, rcmp_zero, ex9_0, ex9_1, ex9_2, w_1, w_2, w_3, w_4, n_2, n_3, n_4, t2, t3, t4, t6, t8', e1, e2, e3]
      refine call_of (z1 _ _) ?_
      simp only [↓R1, R2, R3, R4, TY, reduceIte, Nat.reduceEqDiff, Nat.reduceAdd, Nat.reduceMul, Nat.reduceLT, Nat.reduceLeDiff, reduceCtorEq, decide_true, decide_false, Int.reduceLE, Int.reduceLT, Int.reduceToNat, Int.reduceAdd, Int.reduceSub, Int.reduceMul, Int.reduceEq, hfl, hfl1, hfl2, hfl3, hfl4, hfl5, hfl6, NE, NE9, Nat.add_assoc, rcmp_lt_iff, rcmp_gt_iff, rsign_gt_iff, rcmp_zero, ex9_0, ex9_1, ex9_2, w_1, w_2, w_3, w_4, n_2, n_3, n_4, t2, t3, t4, t6, t8', e1, e2, e3]
      rw [floOf_wr (by kernel_rfl)]
      simp only [↓R1, R2, R3, R4, TY, reduceIte, Nat.reduceEqDiff, Nat.reduceAdd, Nat.reduceMul, Nat.reduceLT, Nat.reduceLeDiff, reduceCtorEq, decide_true, decide_false, Int.reduceLE, Int.reduceLT, Int.reduceToNat, Int.reduceAdd, Int.reduceSub, Int.reduceMul, Int.reduceEq, hfl, hfl1, hfl2, hfl3, hfl4, hfl5, hfl6, NE, NE9, Nat.add_assoc, rcmp_lt_iff, rcmp_gt_iff, rsign_gt_iff, rcmp_zero, ex9_0, ex9_1, ex9_2, w_1, w_2, w_3, w_4, n_2, n_3, n_4, t2, t3, t4, t6, t8', e1, e2, e3]
      refine call_of (z2 _ _) ?_
      simp only [↓R1, R2, R3, R4, TY, reduceIte, Nat.reduceEqDiff, Nat.reduceAdd, Nat.reduceMul, Nat.reduceLT, Nat.reduceLeDiff, reduceCtorEq, decide_true, decide_false, Int.reduceLE, Int.reduceLT, Int.reduceToNat, Int.reduceAdd, Int.reduceSub, Int.reduceMul, Int.reduceEq, hfl, hfl1, hfl2, hfl3, hfl4, hfl5, hfl6, NE, NE9, Nat.add_assoc, rcmp_lt_iff, rcmp_gt_iff, rsign_gt_iff, rcmp_zero, ex9_0, ex9_1, ex9_2, w_1, w_2, w_3, w_4, n_2, n_3, n_4, t2, t3, t4, t6, t8', e1, e2, e3]
      refine call_of (z3 _ _) ?_
      simp only [↓R1, R2, R3, R4, TY, reduceIte, Nat.reduceEqDiff, Nat.reduceAdd, Nat.reduceMul, Nat.reduceLT, Nat.reduceLeDiff, reduceCtorEq, decide_true, decide_false, Int.reduceLE, Int.reduceLT, Int.reduceToNat, Int.reduceAdd, Int.reduceSub, Int.reduceMul, Int.reduceEq, hfl, hfl1, hfl2, hfl3, hfl4, hfl5, hfl6, NE, NE9, Nat.add_assoc, rcmp_lt_iff, rcmp_gt_iff, rsign_gt_iff, rcmp_zero, ex9_0, ex9_1, ex9_2, w_1, w_2, w_3, w_4, n_2, n_3, n_4, t2, t3, t4, t6, t8', e1, e2, e3]
      refine range_on t8 (by omega) rfl ⟨?_, t2, t3, t4, t6, ?_, ?_, ?_, rfl⟩
      · simp only [mrow, r1, r2, hput]
      · exact fun h => m1 (by omega)
      · exact fun h => Rat.not_lt.1 c3
      · exact fun h => absurd h (by omega)
    · have e1 := eq_false c1
      have e2 := eq_true c2
      have e3 := eq_true c3
      have r1 := rmax_l c1
      have r2 := rmin_r c2
      rw [h0 fun hn => absurd c3 (Rat.not_lt.2 hn.2.1)]
      rw [r1, r2] at z3 e3
      simp only [↓R1, R2, R3, R4, TY, reduceIte, Nat.reduceEqDiff, Nat.reduceAdd, Nat.reduceMul, Nat.reduceLT, Nat.reduceLeDiff, reduceCtorEq, decide_true, decide_false, Int.reduceLE, Int.reduceLT, Int.reduceToNat, Int.reduceAdd, Int.reduceSub, Int.reduceMul, Int.reduceEq, hfl, hfl1, hfl2, hfl3, hfl4, hfl5, hfl6, NE, NE9, Nat.add_assoc, rcmp_lt_iff, rcmp_gt_iff, rsign_gt_iff, rcmp_zero, ex9_0, ex9_1, ex9_2, w_1, w_2, w_3, w_4, n_2, n_3, n_4, t2, t3, t4, t6, t8', e1, e2, e3]
      rw [floOf_wr (by kernel_rfl)]
      simp only [↓R1, R2, R3, R4, TY, reduceIte, Nat.reduceEqDiff, Nat.reduceAdd, Nat.reduceMul, Nat.reduceLT, Nat.reduceLeDiff, reduceCtorEq, decide_true, decide_false, Int.reduceLE, Int.reduceLT, Int.reduceToNat, Int.reduceAdd, Int.reduceSub, Int.reduceMul, Int.reduceEq, hfl, hfl1, hfl2, hfl3, hfl4, hfl5, hfl6, NE, NE9, Nat.add_assoc, rcmp_lt_iff, rcmp_gt_iff, rsign_gt_iff, rcmp_zero, ex9_0, ex9_1, ex9_2, w_1, w_2, w_3, w_4, n_2, n_3, n_4, t2, t3, t4, t6, t8', e1, e2, e3]
      refine call_of (z1 _ _) ?_
      simp only [↓R1, R2, R3, R4, TY, reduceIte, Nat.reduceEqDiff, Nat.reduceAdd, Nat.reduceMul, Nat.reduceLT, Nat.reduceLeDiff, reduceCtorEq, decide_true, decide_false, Int.reduceLE, Int.reduceLT, Int.reduceToNat, Int.reduceAdd, Int.reduceSub, Int.reduceMul, Int.reduceEq, hfl, hfl1, hfl2, hfl3, hfl4, hfl5, hfl6, NE, NE9, Nat.add_assoc, rcmp_lt_iff, rcmp_gt_iff, rsign_gt_iff, rcmp_zero, ex9_0, ex9_1, ex9_2, w_1, w_2, w_3, w_4, n_2, n_3, n_4, t2, t3, t4, t6, t8', e1, e2, e3]
      refine call_of (z2 _ _) ?_
      simp only [↓R1, R2, R3, R4, TY, reduceIte, Nat.reduceEqDiff, Nat.reduceAdd, Nat.reduceMul, Nat.reduceLT, Nat.reduceLeDiff, reduceCtorEq, decide_true, decide_false, Int.reduceLE, Int.reduceLT, Int.reduceToNat, Int.reduceAdd, Int.reduceSub, Int.reduceMul, Int.reduceEq, hfl, hfl1, hfl2, hfl3, hfl4, hfl5, hfl6, NE, NE9, Nat.add_assoc, rcmp_lt_iff, rcmp_gt_iff, rsign_gt_iff, rcmp_zero, ex9_0, ex9_1, ex9_2, w_1, w_2, w_3, w_4, n_2, n_3, n_4, t2, t3, t4, t6, t8', e1, e2, e3]
      rw [floOf_wr (by kernel_rfl)]
      simp only [↓R1, R2, R3, R4, TY, reduceIte, Nat.reduceEqDiff, Nat.reduceAdd, Nat.reduceMul, Nat.reduceLT, Nat.reduceLeDiff, reduceCtorEq, decide_true, decide_false, Int.reduceLE, Int.reduceLT, Int.reduceToNat, Int.reduceAdd, Int.reduceSub, Int.reduceMul, Int.reduceEq, hfl, hfl1, hfl2, hfl3, hfl4, hfl5, hfl6, NE, NE9, Nat.add_assoc, rcmp_lt_iff, rcmp_gt_iff, rsign_gt_iff, rcmp_zero, ex9_0, ex9_1, ex9_2, w_1, w_2, w_3, w_4, n_2, n_3, n_4, t2, t3, t4, t6, t8', e1, e2, e3]
      refine call_of (z3 _ _) ?_
      simp only [↓R1, R2, R3, R4, TY, reduceIte, Nat.reduceEqDiff, Nat.reduceAdd, Nat.reduceMul, Nat.reduceLT, Nat.reduceLeDiff, reduceCtorEq, decide_true, decide_false, Int.reduceLE, Int.reduceLT, Int.reduceToNat, Int.reduceAdd, Int.reduceSub, Int.reduceMul, Int.reduceEq, hfl, hfl1, hfl2, hfl3, hfl4, hfl5, hfl6, NE, NE9, Nat.add_assoc, rcmp_lt_iff, rcmp_gt_iff, rsign_gt_iff, rcmp_zero, ex9_0, ex9_1, ex9_2, w_1, w_2, w_3, w_4, n_2, n_3, n_4, t2, t3, t4, t6, t8', e1, e2, e3]
      exact Ended.back hA (by simp (maxDischargeDepth := 20) only [xt_push, xt_put, xt_refl, Nat.le_refl, Nat.le_add_right, Nat.add_assoc, Nat.reduceAdd]) rfl hrb0
    · have e1 := eq_false c1
      have e2 := eq_true c2
      have e3 := eq_false c3
      have r1 := rmax_l c1
      have r2 := rmin_r c2
      rw [r1, r2] at z3 e3
      simp only [↓R1, R2, R3, R4, TY, reduceIte, Nat.reduceEqDiff, Nat.reduceAdd, Nat.reduceMul, Nat.reduceLT, Nat.reduceLeDiff, reduceCtorEq, decide_true, decide_false, Int.reduceLE, Int.reduceLT, Int.reduceToNat, Int.reduceAdd, Int.reduceSub, Int.reduceMul, Int.reduceEq, hfl, hfl1, hfl2, hfl3, hfl4, hfl5, hfl6, NE, NE9, Nat.add_assoc, rcmp_lt_iff, rcmp_gt_iff, rsign_gt_iff, rcmp_zero, ex9_0, ex9_1, ex9_2, w_1, w_2, w_3, w_4, n_2, n_3, n_4, t2, t3, t4, t6, t8', e1, e2, e3]
      rw [floOf_wr (by kernel_rfl)]
      simp only [↓R1, R2, R3, R4, TY, reduceIte, Nat.reduceEqDiff, Nat.reduceAdd, Nat.reduceMul, Nat.reduceLT, Nat.reduceLeDiff, reduceCtorEq, decide_true, decide_false, Int.reduceLE, Int.reduceLT, Int.reduceToNat, Int.reduceAdd, Int.reduceSub, Int.reduceMul, Int.reduceEq, hfl, hfl1, hfl2, hfl3, hfl4, hfl5, hfl6, NE, NE9, Nat.add_assoc, rcmp_lt_iff, rcmp_gt_iff, rsign_gt_iff, rcmp_zero, ex9_0, ex9_1, ex9_2, w_1, w_2, w_3, w_4, n_2, n_3, n_4, t2, t3, t4, t6, t8', e1, e2, e3]
      refine call_of (z1 _ _) ?_
      simp only [↓R1, R2, R3, R4, TY, reduceIte, Nat.reduceEqDiff, Nat.reduceAdd, Nat.reduceMul, Nat.reduceLT, Nat.reduceLeDiff, reduceCtorEq, decide_true, decide_false, Int.reduceLE, Int.reduceLT, Int.reduceToNat, Int.reduceAdd, Int.reduceSub, Int.reduceMul, Int.reduceEq, hfl, hfl1, hfl2, hfl3, hfl4, hfl5, hfl6, NE, NE9, Nat.add_assoc, rcmp_lt_iff, rcmp_gt_iff, rsign_gt_iff, rcmp_zero, ex9_0, ex9_1, ex9_2, w_1, w_2, w_3, w_4, n_2, n_3, n_4, t2, t3, t4, t6, t8', e1, e2, e3]
      refine call_of (z2 _ _) ?_
      simp only [↓R1, R2, R3, R4, TY, reduceIte, Nat.reduceEqDiff, Nat.reduceAdd, Nat.reduceMul, Nat.reduceLT, Nat.reduceLeDiff, reduceCtorEq, decide_true, decide_false, Int.reduceLE, Int.reduceLT, Int.reduceToNat, Int.reduceAdd, Int.reduceSub, Int.reduceMul, Int.reduceEq, hfl, hfl1, hfl2, hfl3, hfl4, hfl5, hfl6, NE, NE9, Nat.add_assoc, rcmp_lt_iff, rcmp_gt_iff, rsign_gt_iff, rcmp_zero, ex9_0, ex9_1, ex9_2, w_1, w_2, w_3, w_4, n_2, n_3, n_4, t2, t3, t4, t6, t8', e1, e2, e3]
      rw [floOf_wr (by kernel_rfl)]
      simp only [↓R1, R2, R3, R4, TY, reduceIte, Nat.reduceEqDiff, Nat.reduceAdd, Nat.reduceMul, Nat.reduceLT, Nat.reduceLeDiff, reduceCtorEq, decide_true, decide_false, Int.reduceLE, Int.reduceLT, Int.reduceToNat, Int.reduceAdd, Int.reduceSub, Int.reduceMul, Int.reduceEq, hfl, hfl1, hfl2, hfl3, hfl4, hfl5, hfl6, NE, NE9, Nat.add_assoc, rcmp_lt_iff, rcmp_gt_iff, rsign_gt_iff, rcmp_zero, ex9_0, ex9_1, ex9_2, w_1, w_2, w_3, w_4, n_2, n_3, n_4, t2, t3, t4, t6, t8', e1, e2, e3]
      refine call_of (z3 _ _) ?_
      simp only [↓R1, R2, R3, R4, TY, reduceIte, Nat.reduceEqDiff, Nat.reduceAdd, Nat.reduceMul, Nat.reduceLT, Nat.reduceLeDiff, reduceCtorEq, decide_true, decide_false, Int.reduceLE, Int.reduceLT, Int.reduceToNat, Int.reduceAdd, Int.reduceSub, Int.reduceMul, Int.reduceEq, hfl, hfl1, hfl2, hfl3, hfl4, hfl5, hfl6, NE, NE9, Nat.add_assoc, rcmp_lt_iff, rcmp_gt_iff, rsign_gt_iff, rcmp_zero, ex9_0, ex9_1, ex9_2, w_1, w_2, w_3, w_4, n_2, n_3, n_4, t2, t3, t4, t6, t8', e1, e2, e3]
      refine range_on t8 (by omega) rfl ⟨?_, t2, t3, t4, t6, ?_, ?_, ?_, rfl⟩
      · simp only [mrow, r1, r2, hput]
      · exact fun h => m1 (by omega)
      · exact fun h => Rat.not_lt.1 c3
      · exact fun h => absurd h (by omega)
    · have e1 := eq_false c1
      have e2 := eq_false c2
      have e3 := eq_true c3
      have r1 := rmax_l c1
      have r2 := rmin_l c2
      rw [h0 fun hn => absurd c3 (Rat.not_lt.2 hn.2.1)]
      rw [r1, r2] at z3 e3
      simp only [↓R1, R2, R3, R4, TY, reduceIte, Nat.reduceEqDiff, Nat.reduceAdd, Nat.reduceMul, Nat.reduceLT, Nat.reduceLeDiff, reduceCtorEq, decide_true, decide_false, Int.reduceLE, Int.reduceLT, Int.reduceToNat, Int.reduceAdd, Int.reduceSub, Int.reduceMul, Int.reduceEq, hfl, hfl1, hfl2, hfl3, hfl4, hfl5, hfl6, NE, NE9, Nat.add_assoc, rcmp_lt_iff, rcmp_gt_iff, rsign_gt_iff, rcmp_zero, ex9_0, ex9_1, ex9_2, w_1, w_2, w_3, w_4, n_2, n_3, n_4, t2, t3, t4, t6, t8', e1, e2, e3]
      rw [floOf_wr (by kernel_rfl)]
      simp only [↓R1, R2, R3, R4, TY, reduceIte, Nat.reduceEqDiff, Nat.reduceAdd, Nat.reduceMul, Nat.reduceLT, Nat.reduceLeDiff, reduceCtorEq, decide_true, decide_false, Int.reduceLE, Int.reduceLT, Int.reduceToNat, Int.reduceAdd, Int.reduceSub, Int.reduceMul, Int.reduceEq, hfl, hfl1, hfl2, hfl3, hfl4, hfl5, hfl6, NE, NE9, Nat.add_assoc, rcmp_lt_iff, rcmp_gt_iff, rsign_gt_iff, rcmp_zero, ex9_0, ex9_1, ex9_2, w_1, w_2, w_3, w_4, n_2, n_3, n_4, t2, t3, t4, t6, t8', e1, e2, e3]
      refine call_of (z1 _ _) ?_
      simp only [↓R1, R2, R3, R4, TY, reduceIte, Nat.reduceEqDiff, Nat.reduceAdd, Nat.reduceMul, Nat.reduceLT, Nat.reduceLeDiff, reduceCtorEq, decide_true, decide_false, Int.reduceLE, Int.reduceLT, Int.reduceToNat, Int.reduceAdd, Int.reduceSub, Int.reduceMul, Int.reduceEq, hfl, hfl1, hfl2, hfl3, hfl4, hfl5, hfl6, NE, NE9, Nat.add_assoc, rcmp_lt_iff, rcmp_gt_iff, rsign_gt_iff, rcmp_zero, ex9_0, ex9_1, ex9_2, w_1, w_2, w_3, w_4, n_2, n_3, n_4, t2, t3, t4, t6, t8', e1, e2, e3]
      refine call_of (z2 _ _) ?_
      simp only [↓R1, R2, R3, R4, TY, reduceIte, Nat.reduceEqDiff, Nat.reduceAdd, Nat.reduceMul, Nat.reduceLT, Nat.reduceLeDiff, reduceCtorEq, decide_true, decide_false, Int.reduceLE, Int.reduceLT, Int.reduceToNat, Int.reduceAdd, Int.reduceSub, Int.reduceMul, Int.reduceEq, hfl, hfl1, hfl2, hfl3, hfl4, hfl5, hfl6, NE, NE9, Nat.add_assoc, rcmp_lt_iff, rcmp_gt_iff, rsign_gt_iff, rcmp_zero, ex9_0, ex9_1, ex9_2, w_1, w_2, w_3, w_4, n_2, n_3, n_4, t2, t3, t4, t6, t8', e1, e2, e3]
      refine call_of (z3 _ _) ?_
      simp only [↓R1, R2, R3, R4, TY, reduceIte, Nat.reduceEqDiff, Nat.reduceAdd, Nat.reduceMul, Nat.reduceLT, Nat.reduceLeDiff, reduceCtorEq, decide_true, decide_false, Int.reduceLE, Int.reduceLT, Int.reduceToNat, Int.reduceAdd, Int.reduceSub, Int.reduceMul, Int.reduceEq, hfl, hfl1, hfl2, hfl3, hfl4, hfl5, hfl6, NE, NE9, Nat.add_assoc, rcmp_lt_iff, rcmp_gt_iff, rsign_gt_iff, rcmp_zero, ex9_0, ex9_1, ex9_2, w_1, w_2, w_3, w_4, n_2, n_3, n_4, t2, t3, t4, t6, t8', e1, e2, e3]
      exact Ended.back hA (by simp (maxDischargeDepth := 20) only [xt_push, xt_put, xt_refl, Nat.le_refl, Nat.le_add_right, Nat.add_assoc, Nat.reduceAdd]) rfl hrb0
    · have e1 := eq_false c1
      have e2 := eq_false c2
      have e3 := eq_false c3
      have r1 := rmax_l c1
      have r2 := rmin_l c2
      rw [r1, r2] at z3 e3
      simp only [↓R1, R2, R3, R4, TY, reduceIte, Nat.reduceEqDiff, Nat.reduceAdd, Nat.reduceMul, Nat.reduceLT, Nat.reduceLeDiff, reduceCtorEq, decide_true, decide_false, Int.reduceLE, Int.reduceLT, Int.reduceToNat, Int.reduceAdd, Int.reduceSub, Int.reduceMul, Int.reduceEq, hfl, hfl1, hfl2, hfl3, hfl4, hfl5, hfl6, NE, NE9, Nat.add_assoc, rcmp_lt_iff, rcmp_gt_iff, rsign_gt_iff, rcmp_zero, ex9_0, ex9_1, ex9_2, w_1, w_2, w_3, w_4, n_2, n_3, n_4, t2, t3, t4, t6, t8', e1, e2, e3]
      rw [floOf_wr (by kernel_rfl)]
      simp only [↓R1, R2, R3, R4, TY, reduceIte, Nat.reduceEqDiff, Nat.reduceAdd, Nat.reduceMul, Nat.reduceLT, Nat.reduceLeDiff, reduceCtorEq, decide_true, decide_false, Int.reduceLE, Int.reduceLT, Int.reduceToNat, Int.reduceAdd, Int.reduceSub, Int.reduceMul, Int.reduceEq, hfl, hfl1, hfl2, hfl3, hfl4, hfl5, hfl6, NE, NE9, Nat.add_assoc, rcmp_lt_iff, rcmp_gt_iff, rsign_gt_iff, rcmp_zero, ex9_0, ex9_1, ex9_2, w_1, w_2, w_3, w_4, n_2, n_3, n_4, t2, t3, t4, t6, t8', e1, e2, e3]
      refine call_of (z1 _ _) ?_
      simp only [↓R1, R2, R3, R4, TY, reduceIte, Nat.reduceEqDiff, Nat.reduceAdd, Nat.reduceMul, Nat.reduceLT, Nat.reduceLeDiff, reduceCtorEq, decide_true, decide_false, Int.reduceLE, Int.reduceLT, Int.reduceToNat, Int.reduceAdd, Int.reduceSub, Int.reduceMul, Int.reduceEq, hfl, hfl1, hfl2, hfl3, hfl4, hfl5, hfl6, NE, NE9, Nat.add_assoc, rcmp_lt_iff, rcmp_gt_iff, rsign_gt_iff, rcmp_zero, ex9_0, ex9_1, ex9_2, w_1, w_2, w_3, w_4, n_2, n_3, n_4, t2, t3, t4, t6, t8', e1, e2, e3]
      refine call_of (z2 _ _) ?_
      simp only [↓R1, R2, R3, R4, TY, reduceIte, Nat.reduceEqDiff, Nat.reduceAdd, Nat.reduceMul, Nat.reduceLT, Nat.reduceLeDiff, reduceCtorEq, decide_true, decide_false, Int.reduceLE, Int.reduceLT, Int.reduceToNat, Int.reduceAdd, Int.reduceSub, Int.reduceMul, Int.reduceEq, hfl, hfl1, hfl2, hfl3, hfl4, hfl5, hfl6, NE, NE9, Nat.add_assoc, rcmp_lt_iff, rcmp_gt_iff, rsign_gt_iff, rcmp_zero, ex9_0, ex9_1, ex9_2, w_1, w_2, w_3, w_4, n_2, n_3, n_4, t2, t3, t4, t6, t8', e1, e2, e3]
      refine call_of (z3 _ _) ?_
      simp only [↓R1, R2, R3, R4, TY, reduceIte, Nat.reduceEqDiff, Nat.reduceAdd, Nat.reduceMul, Nat.reduceLT, Nat.reduceLeDiff, reduceCtorEq, decide_true, decide_false, Int.reduceLE, Int.reduceLT, Int.reduceToNat, Int.reduceAdd, Int.reduceSub, Int.reduceMul, Int.reduceEq, hfl, hfl1, hfl2, hfl3, hfl4, hfl5, hfl6, NE, NE9, Nat.add_assoc, rcmp_lt_iff, rcmp_gt_iff, rsign_gt_iff, rcmp_zero, ex9_0, ex9_1, ex9_2, w_1, w_2, w_3, w_4, n_2, n_3, n_4, t2, t3, t4, t6, t8', e1, e2, e3]
      refine range_on t8 (by omega) rfl ⟨?_, t2, t3, t4, t6, ?_, ?_, ?_, rfl⟩
      · simp only [mrow, r1, r2, hput]
      · exact fun h => m1 (by omega)
      · exact fun h => Rat.not_lt.1 c3
      · exact fun h => absurd h (by omega)
  | 2, hj, m1, m2, m3, t8 =>
    have t8' : τ 8 = some (.int .i64 2) := t8
    have z1 := o7
    have z2 := o8
    have z3 := o9
    simp only [mrow]
    by_cases c1 : P.e < Q.e <;> by_cases c2 : Q.f < P.f <;> by_cases c3 : rmin P.f Q.f < rmax P.e Q.e
    · have e1 := eq_true c1
      have e2 := eq_true c2
      have e3 := eq_true c3
      have r1 := rmax_r c1
      have r2 := rmin_r c2
      rw [h0 fun hn => absurd c3 (Rat.not_lt.2 hn.2.2)]
      rw [r1, r2] at z3 e3
      simp only [↓R1, R2, R3, R4, TY, reduceIte, Nat.reduceEqDiff, Nat.reduceAdd, Nat.reduceMul, Nat.reduceLT, Nat.reduceLeDiff, reduceCtorEq, decide_true, decide_false, Int.reduceLE, Int.reduceLT, Int.reduceToNat, Int.reduceAdd, Int.reduceSub, Int.reduceMul, Int.reduceEq, hfl, hfl1, hfl2, hfl3, hfl4, hfl5, hfl6, NE, NE9, Nat.add_assoc, rcmp_lt_iff, rcmp_gt_iff, rsign_gt_iff, rcmp_zero, ex9_0, ex9_1, ex9_2, w_1, w_2, w_3, w_4, n_2, n_3, n_4, t2, t3, t4, t6, t8', e1, e2, e3]
      rw [floOf_wr (by kernel_rfl)]
      simp only [↓R1, R2, R3, R4, TY, reduceIte, Nat.reduceEqDiff, Nat.reduceAdd, Nat.reduceMul, Nat.reduceLT, Nat.reduceLeDiff, reduceCtorEq, decide_true, decide_false, Int.reduceLE, Int.reduceLT, Int.reduceToNat, Int.reduceAdd, Int.reduceSub, Int.reduceMul, Int.reduceEq, hfl, hfl1, hfl2, hfl3, hfl4, hfl5, hfl6, NE, NE9, Nat.add_assoc, rcmp_lt_iff, rcmp_gt_iff, rsign_gt_iff, rcmp_zero, ex9_0, ex9_1, ex9_2, w_1, w_2, w_3, w_4, n_2, n_3, n_4, t2, t3, t4, t6, t8', e1, e2, e3]
      refine call_of (z1 _ _) ?_
      simp only [↓R1, R2, R3, R4, TY, reduceIte, Nat.reduceEqDiff, Nat.reduceAdd, Nat.reduceMul, Nat.reduceLT, Nat.reduceLeDiff, reduceCtorEq, decide_true, decide_false, Int.reduceLE, Int.reduceLT, Int.reduceToNat, Int.reduceAdd, Int.reduceSub, Int.reduceMul, Int.reduceEq, hfl, hfl1, hfl2, hfl3, hfl4, hfl5, hfl6, NE, NE9, Nat.add_assoc, rcmp_lt_iff, rcmp_gt_iff, rsign_gt_iff, rcmp_zero, ex9_0, ex9_1, ex9_2, w_1, w_2, w_3, w_4, n_2, n_3, n_4, t2, t3, t4, t6, t8', e1, e2, e3]
      rw [floOf_wr (by kernel_rfl)]
      simp only [↓R1, R2, R3, R4, TY, reduceIte, Nat.reduceEqDiff, Nat.reduceAdd, Nat.reduceMul, Nat.reduceLT, Nat.reduceLeDiff, reduceCtorEq, decide_true, decide_false, Int.reduceLE, Int.reduceLT, Int.reduceToNat, Int.reduceAdd, Int.reduceSub, Int.reduceMul, Int.reduceEq, hfl, hfl1, hfl2, hfl3, hfl4, hfl5, hfl6, NE, NE9, Nat.add_assoc, rcmp_lt_iff, rcmp_gt_iff, rsign_gt_iff, rcmp_zero, ex9_0, ex9_1, ex9_2, w_1, w_2, w_3, w_4, n_2, n_3, n_4, t2, t3, t4, t6, t8', e1, e2, e3]
      refine call_of (z2 _ _) ?_
      simp only [↓R1, R2, R3, R4, TY, reduceIte, Nat.reduceEqDiff, Nat.reduceAdd, Nat.reduceMul, Nat.reduceLT, Nat.reduceLeDiff, reduceCtorEq, decide_true, decide_false, Int.reduceLE, Int.reduceLT, Int.reduceToNat, Int.reduceAdd, Int.reduceSub, Int.reduceMul, Int.reduceEq, hfl, hfl1, hfl2, hfl3, hfl4, hfl5, hfl6, NE, NE9, Nat.add_assoc, rcmp_lt_iff, rcmp_gt_iff, rsign_gt_iff, rcmp_zero, ex9_0, ex9_1, ex9_2, w_1, w_2, w_3, w_4, n_2, n_3, n_4, t2, t3, t4, t6, t8', e1, e2, e3]
      rw [floOf_wr (by kernel_rfl)]
      simp only [↓R1, R2, R3, R4, TY, reduceIte, Nat.reduceEqDiff, Nat.reduceAdd, Nat.reduceMul, Nat.reduceLT, Nat.reduceLeDiff, reduceCtorEq, decide_true, decide_false, Int.reduceLE, Int.reduceLT, Int.reduceToNat, Int.reduceAdd, Int.reduceSub, Int.reduceMul, Int.reduceEq, hfl, hfl1, hfl2, hfl3, hfl4, hfl5, hfl6, NE, NE9, Nat.add_assoc, rcmp_lt_iff, rcmp_gt_iff, rsign_gt_iff, rcmp_zero, ex9_0, ex9_1, ex9_2, w_1, w_2, w_3, w_4, n_2, n_3, n_4, t2, t3, t4, t6, t8', e1, e2, e3]
      refine call_of (z3 _ _) ?_
      simp only [↓R1, R2, R3, R4, TY, reduceIte, Nat.reduceEqDiff, Nat.reduceAdd, Nat.reduceMul, Nat.reduceLT, Nat.reduceLeDiff, reduceCtorEq, decide_true, decide_false, Int.reduceLE, Int.reduceLT, Int.reduceToNat, Int.reduceAdd, Int.reduceSub, Int.reduceMul, Int.reduceEq, hfl, hfl1, hfl2, hfl3, hfl4, hfl5, hfl6, NE, NE9, Nat.add_assoc, rcmp_lt_iff, rcmp_gt_iff, rsign_gt_iff, rcmp_zero, ex9_0, ex9_1, ex9_2, w_1, w_2, w_3, w_4, n_2, n_3, n_4, t2, t3, t4, t6, t8', e1, e2, e3]
      exact Ended.back hA (by simp (maxDischargeDepth := 20) only [xt_push, xt_put, xt_refl, Nat.le_refl, Nat.le_add_right, Nat.add_assoc, Nat.reduceAdd]) rfl hrb0
    · have e1 := eq_true c1
      have e2 := eq_true c2
      have e3 := eq_false c3
      have r1 := rmax_r c1
      have r2 := rmin_r c2
      rw [r1, r2] at z3 e3
      simp only [↓R1, R2, R3, R4, TY, reduceIte, Nat.reduceEqDiff, Nat.reduceAdd, Nat.reduceMul, Nat.reduceLT, Nat.reduceLeDiff, reduceCtorEq, decide_true, decide_false, Int.reduceLE, Int.reduceLT, Int.reduceToNat, Int.reduceAdd, Int.reduceSub, Int.reduceMul, Int.reduceEq, hfl, hfl1, hfl2, hfl3, hfl4, hfl5, hfl6, NE, NE9, Nat.add_assoc, rcmp_lt_iff, rcmp_gt_iff, rsign_gt_iff, rcmp_zero, ex9_0, ex9_1, ex9_2, w_1, w_2, w_3, w_4, n_2, n_3, n_4, t2, t3, t4, t6, t8', e1, e2, e3]
      rw [floOf_wr (by kernel_rfl)]
      simp only [↓R1, R2, R3, R4, TY, reduceIte, Nat.reduceEqDiff, Nat.reduceAdd, Nat.reduceMul, Nat.reduceLT, Nat.reduceLeDiff, reduceCtorEq, decide_true, decide_false, Int.reduceLE, Int.reduceLT, Int.reduceToNat, Int.reduceAdd, Int.reduceSub, Int.reduceMul, Int.reduceEq, hfl, hfl1, hfl2, hfl3, hfl4, hfl5, hfl6, NE, NE9, Nat.add_assoc, rcmp_lt_iff, rcmp_gt_iff, rsign_gt_iff, rcmp_zero, ex9_0, ex9_1, ex9_2, w_1, w_2, w_3, w_4, n_2, n_3, n_4, t2, t3, t4, t6, t8', e1, e2, e3]
      refine call_of (z1 _ _) ?_
      simp only [↓R1, R2, R3, R4, TY, reduceIte, Nat.reduceEqDiff, Nat.reduceAdd, Nat.reduceMul, Nat.reduceLT, Nat.reduceLeDiff, reduceCtorEq, decide_true, decide_false, Int.reduceLE, Int.reduceLT, Int.reduceToNat, Int.reduceAdd, Int.reduceSub, Int.reduceMul, Int.reduceEq, hfl, hfl1, hfl2, hfl3, hfl4, hfl5, hfl6, NE, NE9, Nat.add_assoc, rcmp_lt_iff, rcmp_gt_iff, rsign_gt_iff, rcmp_zero, ex9_0, ex9_1, ex9_2, w_1, w_2, w_3, w_4, n_2, n_3, n_4, t2, t3, t4, t6, t8', e1, e2, e3]
      rw [floOf_wr (by kernel_rfl)]
      simp only [↓R1, R2, R3, R4, TY, reduceIte, Nat.reduceEqDiff, Nat.reduceAdd, Nat.reduceMul, Nat.reduceLT, Nat.reduceLeDiff, reduceCtorEq, decide_true, decide_false, Int.reduceLE, Int.reduceLT, Int.reduceToNat, Int.reduceAdd, Int.reduceSub, Int.reduceMul, Int.reduceEq, hfl, hfl1, hfl2, hfl3, hfl4, hfl5, hfl6, NE, NE9, Nat.add_assoc, rcmp_lt_iff, rcmp_gt_iff, rsign_gt_iff, rcmp_zero, ex9_0, ex9_1, ex9_2, w_1, w_2, w_3, w_4, n_2, n_3, n_4, t2, t3, t4, t6, t8', e1, e2, e3]
      refine call_of (z2 _ _) ?_
      simp only [↓R1, R2, R3, R4, TY, reduceIte, Nat.reduceEqDiff, Nat.reduceAdd, Nat.reduceMul, Nat.reduceLT, Nat.reduceLeDiff, reduceCtorEq, decide_true, decide_false, Int.reduceLE, Int.reduceLT, Int.reduceToNat, Int.reduceAdd, Int.reduceSub, Int.reduceMul, Int.reduceEq, hfl, hfl1, hfl2, hfl3, hfl4, hfl5, hfl6, NE, NE9, Nat.add_assoc, rcmp_lt_iff, rcmp_gt_iff, rsign_gt_iff, rcmp_zero, ex9_0, ex9_1, ex9_2, w_1, w_2, w_3, w_4, n_2, n_3, n_4, t2, t3, t4, t6, t8', e1, e2, e3]
      rw [floOf_wr (by kernel_rfl)]
      simp only [↓R1, R2, R3, R4, TY, reduceIte, Nat.reduceEqDiff, Nat.reduceAdd, Nat.reduceMul, Nat.reduceLT, Nat.reduceLeDiff, reduceCtorEq, decide_true, decide_false, Int.reduceLE, Int.reduceLT, Int.reduceToNat, Int.reduceAdd, Int.reduceSub, Int.reduceMul, Int.reduceEq, hfl, hfl1, hfl2, hfl3, hfl4, hfl5, hfl6, NE, NE9, Nat.add_assoc, rcmp_lt_iff, rcmp_gt_iff, rsign_gt_iff, rcmp_zero, ex9_0, ex9_1, ex9_2, w_1, w_2, w_3, w_4, n_2, n_3, n_4, t2, t3, t4, t6, t8', e1, e2, e3]
      refine call_of (z3 _ _) ?_
      simp only [↓R1, R2, R3, R4, TY, reduceIte, Nat.reduceEqDiff, Nat.reduceAdd, Nat.reduceMul, Nat.reduceLT, Nat.reduceLeDiff, reduceCtorEq, decide_true, decide_false, Int.reduceLE, Int.reduceLT, Int.reduceToNat, Int.reduceAdd, Int.reduceSub, Int.reduceMul, Int.reduceEq, hfl, hfl1, hfl2, hfl3, hfl4, hfl5, hfl6, NE, NE9, Nat.add_assoc, rcmp_lt_iff, rcmp_gt_iff, rsign_gt_iff, rcmp_zero, ex9_0, ex9_1, ex9_2, w_1, w_2, w_3, w_4, n_2, n_3, n_4, t2, t3, t4, t6, t8', e1, e2, e3]
      refine range_on t8 (by omega) rfl ⟨?_, t2, t3, t4, t6, ?_, ?_, ?_, rfl⟩
      · simp only [mrow, r1, r2, hput]
      · exact fun h => m1 (by omega)
      · exact fun h => m2 (by omega)
      · exact fun h => Rat.not_lt.1 c3
    · have e1 := eq_true c1
      have e2 := eq_false c2
      have e3 := eq_true c3
      have r1 := rmax_r c1
      have r2 := rmin_l c2
      rw [h0 fun hn => absurd c3 (Rat.not_lt.2 hn.2.2)]
      rw [r1, r2] at z3 e3
      simp only [↓R1, R2, R3, R4, TY, reduceIte, Nat.reduceEqDiff, Nat.reduceAdd, Nat.reduceMul, Nat.reduceLT, Nat.reduceLeDiff, reduceCtorEq, decide_true, decide_false, Int.reduceLE, Int.reduceLT, Int.reduceToNat, Int.reduceAdd, Int.reduceSub, Int.reduceMul, Int.reduceEq, hfl, hfl1, hfl2, hfl3, hfl4, hfl5, hfl6, NE, NE9, Nat.add_assoc, rcmp_lt_iff, rcmp_gt_iff, rsign_gt_iff, rcmp_zero, ex9_0, ex9_1, ex9_2, w_1, w_2, w_3, w_4, n_2, n_3, n_4, t2, t3, t4, t6, t8', e1, e2, e3]
      rw [floOf_wr (by kernel_rfl)]
      simp only [↓R1, R2, R3, R4, TY, reduceIte, Nat.reduceEqDiff, Nat.reduceAdd, Nat.reduceMul, Nat.reduceLT, Nat.reduceLeDiff, reduceCtorEq, decide_true, decide_false, Int.reduceLE, Int.reduceLT, Int.reduceToNat, Int.reduceAdd, Int.reduceSub, Int.reduceMul, Int.reduceEq, hfl, hfl1, hfl2, hfl3, hfl4, hfl5, hfl6, NE, NE9, Nat.add_assoc, rcmp_lt_iff, rcmp_gt_iff, rsign_gt_iff, rcmp_zero, ex9_0, ex9_1, ex9_2, w_1, w_2, w_3, w_4, n_2, n_3, n_4, t2, t3, t4, t6, t8', e1, e2, e3]
      refine call_of (z1 _ _) ?_
      simp only [↓R1, R2, R3, R4, TY, reduceIte, Nat.reduceEqDiff, Nat.reduceAdd, Nat.reduceMul, Nat.reduceLT, Nat.reduceLeDiff, reduceCtorEq, decide_true, decide_false, Int.reduceLE, Int.reduceLT, Int.reduceToNat, Int.reduceAdd, Int.reduceSub, Int.reduceMul, Int.reduceEq, hfl, hfl1, hfl2, hfl3, hfl4, hfl5, hfl6, NE, NE9, Nat.add_assoc, rcmp_lt_iff, rcmp_gt_iff, rsign_gt_iff, rcmp_zero, ex9_0, ex9_1, ex9_2, w_1, w_2, w_3, w_4, n_2, n_3, n_4, t2, t3, t4, t6, t8', e1, e2, e3]
      rw [floOf_wr (by kernel_rfl)]
      simp only [↓R1, R2, R3, R4, TY, reduceIte, Nat.reduceEqDiff, Nat.reduceAdd, Nat.reduceMul, Nat.reduceLT, Nat.reduceLeDiff, reduceCtorEq, decide_true, decide_false, Int.reduceLE, Int.reduceLT, Int.reduceToNat, Int.reduceAdd, Int.reduceSub, Int.reduceMul, Int.reduceEq, hfl, hfl1, hfl2, hfl3, hfl4, hfl5, hfl6, NE, NE9, Nat.add_assoc, rcmp_lt_iff, rcmp_gt_iff, rsign_gt_iff, rcmp_zero, ex9_0, ex9_1, ex9_2, w_1, w_2, w_3, w_4, n_2, n_3, n_4, t2, t3, t4, t6, t8', e1, e2, e3]
      refine call_of (z2 _ _) ?_
      simp only [↓R1, R2, R3, R4, TY, reduceIte, Nat.reduceEqDiff, Nat.reduceAdd, Nat.reduceMul, Nat.reduceLT, Nat.reduceLeDiff, reduceCtorEq, decide_true, decide_false, Int.reduceLE, Int.reduceLT, Int.reduceToNat, Int.reduceAdd, Int.reduceSub, Int.reduceMul, Int.reduceEq, hfl, hfl1, hfl2, hfl3, hfl4, hfl5, hfl6, NE, NE9, Nat.add_assoc, rcmp_lt_iff, rcmp_gt_iff, rsign_gt_iff, rcmp_zero, ex9_0, ex9_1, ex9_2, w_1, w_2, w_3, w_4, n_2, n_3, n_4, t2, t3, t4, t6, t8', e1, e2, e3]
      refine call_of (z3 _ _) ?_
      simp only [↓R1, R2, R3, R4, TY, reduceIte, Nat.reduceEqDiff, Nat.reduceAdd, Nat.reduceMul, Nat.reduceLT, Nat.reduceLeDiff, reduceCtorEq, decide_true, decide_false, Int.reduceLE, Int.reduceLT, Int.reduceToNat, Int.reduceAdd, Int.reduceSub, Int.reduceMul, Int.reduceEq, hfl, hfl1, hfl2, hfl3, hfl4, hfl5, hfl6, NE, NE9, Nat.add_assoc, rcmp_lt_iff, rcmp_gt_iff, rsign_gt_iff, rcmp_zero, ex9_0, ex9_1, ex9_2, w_1, w_2, w_3, w_4, n_2, n_3, n_4, t2, t3, t4, t6, t8', e1, e2, e3]
      exact Ended.back hA (by simp (maxDischargeDepth := 20) only [xt_push, xt_put, xt_refl, Nat.le_refl, Nat.le_add_right, Nat.add_assoc, Nat.reduceAdd]) rfl hrb0
    · have e1 := eq_true c1
      have e2 := eq_false c2
      have e3 := eq_false c3
      have r1 := rmax_r c1
      have r2 := rmin_l c2
      rw [r1, r2] at z3 e3
      simp only [↓R1, R2, R3, R4, TY, reduceIte, Nat.reduceEqDiff, Nat.reduceAdd, Nat.reduceMul, Nat.reduceLT, Nat.reduceLeDiff, reduceCtorEq, decide_true, decide_false, Int.reduceLE, Int.reduceLT, Int.reduceToNat, Int.reduceAdd, Int.reduceSub, Int.reduceMul, Int.reduceEq, hfl, hfl1, hfl2, hfl3, hfl4, hfl5, hfl6, NE, NE9, Nat.add_assoc, rcmp_lt_iff, rcmp_gt_iff, rsign_gt_iff, rcmp_zero, ex9_0, ex9_1, ex9_2, w_1, w_2, w_3, w_4, n_2, n_3, n_4, t2, t3, t4, t6, t8', e1, e2, e3]
      rw [floOf_wr (by kernel_rfl)]
      simp only [↓R1, R2, R3, R4, TY, reduceIte, Nat.reduceEqDiff, Nat.reduceAdd, Nat.reduceMul, Nat.reduceLT, Nat.reduceLeDiff, reduceCtorEq, decide_true, decide_false, Int.reduceLE, Int.reduceLT, Int.reduceToNat, Int.reduceAdd, Int.reduceSub, Int.reduceMul, Int.reduceEq, hfl, hfl1, hfl2, hfl3, hfl4, hfl5, hfl6, NE, NE9, Nat.add_assoc, rcmp_lt_iff, rcmp_gt_iff, rsign_gt_iff, rcmp_zero, ex9_0, ex9_1, ex9_2, w_1, w_2, w_3, w_4, n_2, n_3, n_4, t2, t3, t4, t6, t8', e1, e2, e3]
      refine call_of (z1 _ _) ?_
      simp only [↓R1, R2, R3, R4, TY, reduceIte, Nat.reduceEqDiff, Nat.reduceAdd, Nat.reduceMul, Nat.reduceLT, Nat.reduceLeDiff, reduceCtorEq, decide_true, decide_false, Int.reduceLE, Int.reduceLT, Int.reduceToNat, Int.reduceAdd, Int.reduceSub, Int.reduceMul, Int.reduceEq, hfl, hfl1, hfl2, hfl3, hfl4, hfl5, hfl6, NE, NE9, Nat.add_assoc, rcmp_lt_iff, rcmp_gt_iff, rsign_gt_iff, rcmp_zero, ex9_0, ex9_1, ex9_2, w_1, w_2, w_3, w_4, n_2, n_3, n_4, t2, t3, t4, t6, t8', e1, e2, e3]
      rw [floOf_wr (by kernel_rfl)]
      simp only [↓R1, R2, R3, R4, TY, reduceIte, Nat.reduceEqDiff, Nat.reduceAdd, Nat.reduceMul, Nat.reduceLT, Nat.reduceLeDiff, reduceCtorEq, decide_true, decide_false, Int.reduceLE, Int.reduceLT, Int.reduceToNat, Int.reduceAdd, Int.reduceSub, Int.reduceMul, Int.reduceEq, hfl, hfl1, hfl2, hfl3, hfl4, hfl5, hfl6, NE, NE9, Nat.add_assoc, rcmp_lt_iff, rcmp_gt_iff, rsign_gt_iff, rcmp_zero, ex9_0, ex9_1, ex9_2, w_1, w_2, w_3, w_4, n_2, n_3, n_4, t2, t3, t4, t6, t8', e1, e2, e3]
      refine call_of (z2 _ _) ?_
      simp only [↓R1, R2, R3, R4, TY, reduceIte, Nat.reduceEqDiff, Nat.reduceAdd, Nat.reduceMul, Nat.reduceLT, Nat.reduceLeDiff, reduceCtorEq, decide_true, decide_false, Int.reduceLE, Int.reduceLT, Int.reduceToNat, Int.reduceAdd, Int.reduceSub, Int.reduceMul, Int.reduceEq, hfl, hfl1, hfl2, hfl3, hfl4, hfl5, hfl6, NE, NE9, Nat.add_assoc, rcmp_lt_iff, rcmp_gt_iff, rsign_gt_iff, rcmp_zero, ex9_0, ex9_1, ex9_2, w_1, w_2, w_3, w_4, n_2, n_3, n_4, t2, t3, t4, t6, t8', e1, e2, e3]
      refine call_of (z3 _ _) ?_
      simp only [↓R1, R2, R3, R4, TY, reduceIte, Nat.reduceEqDiff, Nat.reduceAdd, Nat.reduceMul, Nat.reduceLT, Nat.reduceLeDiff, reduceCtorEq, decide_true, decide_false, Int.reduceLE, Int.reduceLT, Int.reduceToNat, Int.reduceAdd, Int.reduceSub, Int.reduceMul, Int.reduceEq, hfl, hfl1, hfl2, hfl3, hfl4, hfl5, hfl6, NE, NE9, Nat.add_assoc, rcmp_lt_iff, rcmp_gt_iff, rsign_gt_iff, rcmp_zero, ex9_0, ex9_1, ex9_2, w_1, w_2, w_3, w_4, n_2, n_3, n_4, t2, t3, t4, t6, t8', e1, e2, e3]
      refine range_on t8 (by omega) rfl ⟨?_, t2, t3, t4, t6, ?_, ?_, ?_, rfl⟩
      · simp only [mrow, r1, r2, hput]
      · exact fun h => m1 (by omega)
      · exact fun h => m2 (by omega)
      · exact fun h => Rat.not_lt.1 c3
    · have e1 := eq_false c1
      have e2 := eq_true c2
      have e3 := eq_true c3
      have r1 := rmax_l c1
      have r2 := rmin_r c2
      rw [h0 fun hn => absurd c3 (Rat.not_lt.2 hn.2.2)]
      rw [r1, r2] at z3 e3
      simp only [↓R1, R2, R3, R4, TY, reduceIte, Nat.reduceEqDiff, Nat.reduceAdd, Nat.reduceMul, Nat.reduceLT, Nat.reduceLeDiff, reduceCtorEq, decide_true, decide_false, Int.reduceLE, Int.reduceLT, Int.reduceToNat, Int.reduceAdd, Int.reduceSub, Int.reduceMul, Int.reduceEq, hfl, hfl1, hfl2, hfl3, hfl4, hfl5, hfl6, NE, NE9, Nat.add_assoc, rcmp_lt_iff, rcmp_gt_iff, rsign_gt_iff, rcmp_zero, ex9_0, ex9_1, ex9_2, w_1, w_2, w_3, w_4, n_2, n_3, n_4, t2, t3, t4, t6, t8', e1, e2, e3]
      rw [floOf_wr (by kernel_rfl)]
      simp only [↓R1, R2, R3, R4, TY, reduceIte, Nat.reduceEqDiff, Nat.reduceAdd, Nat.reduceMul, Nat.reduceLT, Nat.reduceLeDiff, reduceCtorEq, decide_true, decide_false, Int.reduceLE, Int.reduceLT, Int.reduceToNat, Int.reduceAdd, Int.reduceSub, Int.reduceMul, Int.reduceEq, hfl, hfl1, hfl2, hfl3, hfl4, hfl5, hfl6, NE, NE9, Nat.add_assoc, rcmp_lt_iff, rcmp_gt_iff, rsign_gt_iff, rcmp_zero, ex9_0, ex9_1, ex9_2, w_1, w_2, w_3, w_4, n_2, n_3, n_4, t2, t3, t4, t6, t8', e1, e2, e3]
      refine call_of (z1 _ _) ?_
      simp only [↓R1, R2, R3, R4, TY, reduceIte, Nat.reduceEqDiff, Nat.reduceAdd, Nat.reduceMul, Nat.reduceLT, Nat.reduceLeDiff, reduceCtorEq, decide_true, decide_false, Int.reduceLE, Int.reduceLT, Int.reduceToNat, Int.reduceAdd, Int.reduceSub, Int.reduceMul, Int.reduceEq, hfl, hfl1, hfl2, hfl3, hfl4, hfl5, hfl6, NE, NE9, Nat.add_assoc, rcmp_lt_iff, rcmp_gt_iff, rsign_gt_iff, rcmp_zero, ex9_0, ex9_1, ex9_2, w_1, w_2, w_3, w_4, n_2, n_3, n_4, t2, t3, t4, t6, t8', e1, e2, e3]
      refine call_of (z2 _ _) ?_
      simp only [↓R1, R2, R3, R4, TY, reduceIte, Nat.reduceEqDiff, Nat.reduceAdd, Nat.reduceMul, Nat.reduceLT, Nat.reduceLeDiff, reduceCtorEq, decide_true, decide_false, Int.reduceLE, Int.reduceLT, Int.reduceToNat, Int.reduceAdd, Int.reduceSub, Int.reduceMul, Int.reduceEq, hfl, hfl1, hfl2, hfl3, hfl4, hfl5, hfl6, NE, NE9, Nat.add_assoc, rcmp_lt_iff, rcmp_gt_iff, rsign_gt_iff, rcmp_zero, ex9_0, ex9_1, ex9_2, w_1, w_2, w_3, w_4, n_2, n_3, n_4, t2, t3, t4, t6, t8', e1, e2, e3]
      rw [floOf_wr (by kernel_rfl)]
      simp only [↓R1, R2, R3, R4, TY, reduceIte, Nat.reduceEqDiff, Nat.reduceAdd, Nat.reduceMul, Nat.reduceLT, Nat.reduceLeDiff, reduceCtorEq, decide_true, decide_false, Int.reduceLE, Int.reduceLT, Int.reduceToNat, Int.reduceAdd, Int.reduceSub, Int.reduceMul, Int.reduceEq, hfl, hfl1, hfl2, hfl3, hfl4, hfl5, hfl6, NE, NE9, Nat.add_assoc, rcmp_lt_iff, rcmp_gt_iff, rsign_gt_iff, rcmp_zero, ex9_0, ex9_1, ex9_2, w_1, w_2, w_3, w_4, n_2, n_3, n_4, t2, t3, t4, t6, t8', e1, e2, e3]
      refine call_of (z3 _ _) ?_
      simp only [↓R1, R2, R3, R4, TY, reduceIte, Nat.reduceEqDiff, Nat.reduceAdd, Nat.reduceMul, Nat.reduceLT, Nat.reduceLeDiff, reduceCtorEq, decide_true, decide_false, Int.reduceLE, Int.reduceLT, Int.reduceToNat, Int.reduceAdd, Int.reduceSub, Int.reduceMul, Int.reduceEq, hfl, hfl1, hfl2, hfl3, hfl4, hfl5, hfl6, NE, NE9, Nat.add_assoc, rcmp_lt_iff, rcmp_gt_iff, rsign_gt_iff, rcmp_zero, ex9_0, ex9_1, ex9_2, w_1, w_2, w_3, w_4, n_2, n_3, n_4, t2, t3, t4, t6, t8', e1, e2, e3]
      exact Ended.back hA (by simp (maxDischargeDepth := 20) only [xt_push, xt_put, xt_refl, Nat.le_refl, Nat.le_add_right, Nat.add_assoc, Nat.reduceAdd]) rfl hrb0
    · have e1 := eq_false c1
      have e2 := eq_true c2
      have e3 := eq_false c3
      have r1 := rmax_l c1
      have r2 := rmin_r c2
      rw [r1, r2] at z3 e3
      simp only [↓R1, R2, R3, R4, TY, reduceIte, Nat.reduceEqDiff, Nat.reduceAdd, Nat.reduceMul, Nat.reduceLT, Nat.reduceLeDiff, reduceCtorEq, decide_true, decide_false, Int.reduceLE, Int.reduceLT, Int.reduceToNat, Int.reduceAdd, Int.reduceSub, Int.reduceMul, Int.reduceEq, hfl, hfl1, hfl2, hfl3, hfl4, hfl5, hfl6, NE, NE9, Nat.add_assoc, rcmp_lt_iff, rcmp_gt_iff, rsign_gt_iff, rcmp_zero, ex9_0, ex9_1, ex9_2, w_1, w_2, w_3, w_4, n_2, n_3, n_4, t2, t3, t4, t6, t8', e1, e2, e3]
      rw [floOf_wr (by kernel_rfl)]
      simp only [↓R1, R2, R3, R4, TY, reduceIte, Nat.reduceEqDiff, Nat.reduceAdd, Nat.reduceMul, Nat.reduceLT, Nat.reduceLeDiff, reduceCtorEq, decide_true, decide_false, Int.reduceLE, Int.reduceLT, Int.reduceToNat, Int.reduceAdd, Int.reduceSub, Int.reduceMul, Int.reduceEq, hfl, hfl1, hfl2, hfl3, hfl4, hfl5, hfl6, NE, NE9, Nat.add_assoc, rcmp_lt_iff, rcmp_gt_iff, rsign_gt_iff, rcmp_zero, ex9_0, ex9_1, ex9_2, w_1, w_2, w_3, w_4, n_2, n_3, n_4, t2, t3, t4, t6, t8', e1, e2, e3]
      refine call_of (z1 _ _) ?_
      simp only [↓R1, R2, R3, R4, TY, reduceIte, Nat.reduceEqDiff, Nat.reduceAdd, Nat.reduceMul, Nat.reduceLT, Nat.reduceLeDiff, reduceCtorEq, decide_true, decide_false, Int.reduceLE, Int.reduceLT, Int.reduceToNat, Int.reduceAdd, Int.reduceSub, Int.reduceMul, Int.reduceEq, hfl, hfl1, hfl2, hfl3, hfl4, hfl5, hfl6, NE, NE9, Nat.add_assoc, rcmp_lt_iff, rcmp_gt_iff, rsign_gt_iff, rcmp_zero, ex9_0, ex9_1, ex9_2, w_1, w_2, w_3, w_4, n_2, n_3, n_4, t2, t3, t4, t6, t8', e1, e2, e3]
      refine call_of (z2 _ _) ?_
      simp only [↓R1, R2, R3, R4, TY, reduceIte, Nat.reduceEqDiff, Nat.reduceAdd, Nat.reduceMul, Nat.reduceLT, Nat.reduceLeDiff, reduceCtorEq, decide_true, decide_false, Int.reduceLE, Int.reduceLT, Int.reduceToNat, Int.reduceAdd, Int.reduceSub, Int.reduceMul, Int.reduceEq, hfl, hfl1, hfl2, hfl3, hfl4, hfl5, hfl6, NE, NE9, Nat.add_assoc, rcmp_lt_iff, rcmp_gt_iff, rsign_gt_iff, rcmp_zero, ex9_0, ex9_1, ex9_2, w_1, w_2, w_3, w_4, n_2, n_3, n_4, t2, t3, t4, t6, t8', e1, e2, e3]
      rw [floOf_wr (by kernel_rfl)]
      simp only [↓R1, R2, R3, R4, TY, reduceIte, Nat.reduceEqDiff, Nat.reduceAdd, Nat.reduceMul, Nat.reduceLT, Nat.reduceLeDiff, reduceCtorEq, decide_true, decide_false, Int.reduceLE, Int.reduceLT, Int.reduceToNat, Int.reduceAdd, Int.reduceSub, Int.reduceMul, Int.reduceEq, hfl, hfl1, hfl2, hfl3, hfl4, hfl5, hfl6, NE, NE9, Nat.add_assoc, rcmp_lt_iff, rcmp_gt_iff, rsign_gt_iff, rcmp_zero, ex9_0, ex9_1, ex9_2, w_1, w_2, w_3, w_4, n_2, n_3, n_4, t2, t3, t4, t6, t8', e1, e2, e3]
      refine call_of (z3 _ _) ?_
      simp only [↓R1, R2, R3, R4, TY, reduceIte, Nat.reduceEqDiff, Nat.reduceAdd, Nat.reduceMul, Nat.reduceLT, Nat.reduceLeDiff, reduceCtorEq, decide_true, decide_false, Int.reduceLE, Int.reduceLT, Int.reduceToNat, Int.reduceAdd, Int.reduceSub, Int.reduceMul, Int.reduceEq, hfl, hfl1, hfl2, hfl3, hfl4, hfl5, hfl6, NE, NE9, Nat.add_assoc, rcmp_lt_iff, rcmp_gt_iff, rsign_gt_iff, rcmp_zero, ex9_0, ex9_1, ex9_2, w_1, w_2, w_3, w_4, n_2, n_3, n_4, t2, t3, t4, t6, t8', e1, e2, e3]
      refine range_on t8 (by omega) rfl ⟨?_, t2, t3, t4, t6, ?_, ?_, ?_, rfl⟩
      · simp only [mrow, r1, r2, hput]
      · exact fun h => m1 (by omega)
      · exact fun h => m2 (by omega)
      · exact fun h => Rat.not_lt.1 c3
    · have e1 := eq_false c1
      have e2 := eq_false c2
      have e3 := eq_true c3
      have r1 := rmax_l c1
      have r2 := rmin_l c2
      rw [h0 fun hn => absurd c3 (Rat.not_lt.2 hn.2.2)]
      rw [r1, r2] at z3 e3
      simp only [↓R1, R2, R3, R4, TY, reduceIte, Nat.reduceEqDiff, Nat.reduceAdd, Nat.reduceMul, Nat.reduceLT, Nat.reduceLeDiff, reduceCtorEq, decide_true, decide_false, Int.reduceLE, Int.reduceLT, Int.reduceToNat, Int.reduceAdd, Int.reduceSub, Int.reduceMul, Int.reduceEq, hfl, hfl1, hfl2, hfl3, hfl4, hfl5, hfl6, NE, NE9, Nat.add_assoc, rcmp_lt_iff, rcmp_gt_iff, rsign_gt_iff, rcmp_zero, ex9_0, ex9_1, ex9_2, w_1, w_2, w_3, w_4, n_2, n_3, n_4, t2, t3, t4, t6, t8', e1, e2, e3]
      rw [floOf_wr (by kernel_rfl)]
      simp only [↓R1, R2, R3, R4, TY, reduceIte, Nat.reduceEqDiff, Nat.reduceAdd, Nat.reduceMul, Nat.reduceLT, Nat.reduceLeDiff, reduceCtorEq, decide_true, decide_false, Int.reduceLE, Int.reduceLT, Int.reduceToNat, Int.reduceAdd, Int.reduceSub, Int.reduceMul, Int.reduceEq, hfl, hfl1, hfl2, hfl3, hfl4, hfl5, hfl6, NE, NE9, Nat.add_assoc, rcmp_lt_iff, rcmp_gt_iff, rsign_gt_iff, rcmp_zero, ex9_0, ex9_1, ex9_2, w_1, w_2, w_3, w_4, n_2, n_3, n_4, t2, t3, t4, t6, t8', e1, e2, e3]
      refine call_of (z1 _ _) ?_
      simp only [↓R1, R2, R3, R4, TY, reduceIte, Nat.reduceEqDiff, Nat.reduceAdd, Nat.reduceMul, Nat.reduceLT, Nat.reduceLeDiff, reduceCtorEq, decide_true, decide_false, Int.reduceLE, Int.reduceLT, Int.reduceToNat, Int.reduceAdd, Int.reduceSub, Int.reduceMul, Int.reduceEq, hfl, hfl1, hfl2, hfl3, hfl4, hfl5, hfl6, NE, NE9, Nat.add_assoc, rcmp_lt_iff, rcmp_gt_iff, rsign_gt_iff, rcmp_zero, ex9_0, ex9_1, ex9_2, w_1, w_2, w_3, w_4, n_2, n_3, n_4, t2, t3, t4, t6, t8', e1, e2, e3]
      refine call_of (z2 _ _) ?_
      simp only [↓R1, R2, R3, R4, TY, reduceIte, Nat.reduceEqDiff, Nat.reduceAdd, Nat.reduceMul, Nat.reduceLT, Nat.reduceLeDiff, reduceCtorEq, decide_true, decide_false, Int.reduceLE, Int.reduceLT, Int.reduceToNat, Int.reduceAdd, Int.reduceSub, Int.reduceMul, Int.reduceEq, hfl, hfl1, hfl2, hfl3, hfl4, hfl5, hfl6, NE, NE9, Nat.add_assoc, rcmp_lt_iff, rcmp_gt_iff, rsign_gt_iff, rcmp_zero, ex9_0, ex9_1, ex9_2, w_1, w_2, w_3, w_4, n_2, n_3, n_4, t2, t3, t4, t6, t8', e1, e2, e3]
      refine call_of (z3 _ _) ?_
      simp only [↓R1, R2, R3, R4, TY, reduceIte, Nat.reduceEqDiff, Nat.reduceAdd, Nat.reduceMul, Nat.reduceLT, Nat.reduceLeDiff, reduceCtorEq, decide_true, decide_false, Int.reduceLE, Int.reduceLT, Int.reduceToNat, Int.reduceAdd, Int.reduceSub, Int.reduceMul, Int.reduceEq, hfl, hfl1, hfl2, hfl3, hfl4, hfl5, hfl6, NE, NE9, Nat.add_assoc, rcmp_lt_iff, rcmp_gt_iff, rsign_gt_iff, rcmp_zero, ex9_0, ex9_1, ex9_2, w_1, w_2, w_3, w_4, n_2, n_3, n_4, t2, t3, t4, t6, t8', e1, e2, e3]
      exact Ended.back hA (by simp (maxDischargeDepth := 20) only [xt_push, xt_put, xt_refl, Nat.le_refl, Nat.le_add_right, Nat.add_assoc, Nat.reduceAdd]) rfl hrb0
    · have e1 := eq_false c1
      have e2 := eq_false c2
      have e3 := eq_false c3
      have r1 := rmax_l c1
      have r2 := rmin_l c2
      rw [r1, r2] at z3 e3
      simp only [↓R1, R2, R3, R4, TY, reduceIte, Nat.reduceEqDiff, Nat.reduceAdd, Nat.reduceMul, Nat.reduceLT, Nat.reduceLeDiff, reduceCtorEq, decide_true, decide_false, Int.reduceLE, Int.reduceLT, Int.reduceToNat, Int.reduceAdd, Int.reduceSub, Int.reduceMul, Int.reduceEq, hfl, hfl1, hfl2, hfl3, hfl4, hfl5, hfl6, NE, NE9, Nat.add_assoc, rcmp_lt_iff, rcmp_gt_iff, rsign_gt_iff, rcmp_zero, ex9_0, ex9_1, ex9_2, w_1, w_2, w_3, w_4, n_2, n_3, n_4, t2, t3, t4, t6, t8', e1, e2, e3]
      rw [floOf_wr (by kernel_rfl)]
      simp only [↓R1, R2, R3, R4, TY, reduceIte, Nat.reduceEqDiff, Nat.reduceAdd, Nat.reduceMul, Nat.reduceLT, Nat.reduceLeDiff, reduceCtorEq, decide_true, decide_false, Int.reduceLE, Int.reduceLT, Int.reduceToNat, Int.reduceAdd, Int.reduceSub, Int.reduceMul, Int.reduceEq, hfl, hfl1, hfl2, hfl3, hfl4, hfl5, hfl6, NE, NE9, Nat.add_assoc, rcmp_lt_iff, rcmp_gt_iff, rsign_gt_iff, rcmp_zero, ex9_0, ex9_1, ex9_2, w_1, w_2, w_3, w_4, n_2, n_3, n_4, t2, t3, t4, t6, t8', e1, e2, e3]
      refine call_of (z1 _ _) ?_
      simp only [↓R1, R2, R3, R4, TY, reduceIte, Nat.reduceEqDiff, Nat.reduceAdd, Nat.reduceMul, Nat.reduceLT, Nat.reduceLeDiff, reduceCtorEq, decide_true, decide_false, Int.reduceLE, Int.reduceLT, Int.reduceToNat, Int.reduceAdd, Int.reduceSub, Int.reduceMul, Int.reduceEq, hfl, hfl1, hfl2, hfl3, hfl4, hfl5, hfl6, NE, NE9, Nat.add_assoc, rcmp_lt_iff, rcmp_gt_iff, rsign_gt_iff, rcmp_zero, ex9_0, ex9_1, ex9_2, w_1, w_2, w_3, w_4, n_2, n_3, n_4, t2, t3, t4, t6, t8', e1, e2, e3]
      refine call_of (z2 _ _) ?_
      simp only [↓R1, R2, R3, R4, TY, reduceIte, Nat.reduceEqDiff, Nat.reduceAdd, Nat.reduceMul, Nat.reduceLT, Nat.reduceLeDiff, reduceCtorEq, decide_true, decide_false, Int.reduceLE, Int.reduceLT, Int.reduceToNat, Int.reduceAdd, Int.reduceSub, Int.reduceMul, Int.reduceEq, hfl, hfl1, hfl2, hfl3, hfl4, hfl5, hfl6, NE, NE9, Nat.add_assoc, rcmp_lt_iff, rcmp_gt_iff, rsign_gt_iff, rcmp_zero, ex9_0, ex9_1, ex9_2, w_1, w_2, w_3, w_4, n_2, n_3, n_4, t2, t3, t4, t6, t8', e1, e2, e3]
      refine call_of (z3 _ _) ?_
      simp only [↓R1, R2, R3, R4, TY, reduceIte, Nat.reduceEqDiff, Nat.reduceAdd, Nat.reduceMul, Nat.reduceLT, Nat.reduceLeDiff, reduceCtorEq, decide_true, decide_false, Int.reduceLE, Int.reduceLT, Int.reduceToNat, Int.reduceAdd, Int.reduceSub, Int.reduceMul, Int.reduceEq, hfl, hfl1, hfl2, hfl3, hfl4, hfl5, hfl6, NE, NE9, Nat.add_assoc, rcmp_lt_iff, rcmp_gt_iff, rsign_gt_iff, rcmp_zero, ex9_0, ex9_1, ex9_2, w_1, w_2, w_3, w_4, n_2, n_3, n_4, t2, t3, t4, t6, t8', e1, e2, e3]
      refine range_on t8 (by omega) rfl ⟨?_, t2, t3, t4, t6, ?_, ?_, ?_, rfl⟩
      · simp only [mrow, r1, r2, hput]
      · exact fun h => m1 (by omega)
      · exact fun h => m2 (by omega)
      · exact fun h => Rat.not_lt.1 c3
  | 3, hj, m1, m2, m3, t8 =>
    have t8' : τ 8 = some (.int .i64 3) := t8
    rw [h1 ⟨m1 (by omega), m2 (by omega), m3 (by omega)⟩]
    simp only [mrow]
    simp only [↓R1, R2, R3, R4, TY, reduceIte, Nat.reduceEqDiff, Nat.reduceAdd, Nat.reduceMul, Nat.reduceLT, Nat.reduceLeDiff, reduceCtorEq, decide_true, decide_false, Int.reduceLE, Int.reduceLT, Int.reduceToNat, Int.reduceAdd, Int.reduceSub, Int.reduceMul, Int.reduceEq, hfl, hfl1, hfl2, hfl3, hfl4, hfl5, hfl6, NE, NE9, Nat.add_assoc, rcmp_lt_iff, rcmp_gt_iff, rsign_gt_iff, rcmp_zero, ex9_0, ex9_1, ex9_2, w_1, w_2, w_3, w_4, n_2, n_3, n_4, t2, t3, t4, t6, t8']
    exact Ended.back hA (by simp (maxDischargeDepth := 20) only [xt_push, xt_put, xt_refl, Nat.le_refl, Nat.le_add_right, Nat.add_assoc, Nat.reduceAdd]) rfl hrbP
  | n + 4, hj, _, _, _, _ => exact absurd hj (by omega)

end
end Go.Proofs.YtjkimjmocfjjnaaDoor.Ab
