/- Distances of polygons: beyond, Meet. -/
import Derived.Test.YthclikeipdplpaaDoorYn
namespace Go.Proofs.YthclikeipdplpaaDoor.Ab
open Go.RowKit
set_option linter.unusedVariables false
set_option linter.unusedSimpArgs false
set_option maxRecDepth 100000

section
variable {G : Gl} {fl : Nat} {A : Hp}

set_option maxHeartbeats 8000000 in
theorem beyond_ok {va vb : Value} {a b : List V2} {k : Nat} (hG : G 1 = some tabV) (ha : Sl A 6 va (a.map vC)) (hb : Sl A 6 vb (b.map vC)) (za : Lz a k) (zb : Lz b k) (hk : k ≤ 500) (la : a.length ≤ 100000) (lb : b.length ≤ 100000) :
    Sound Tryd.prog G 65 [va, vb] fl A (.tuple [bvec a b, .bool (bidx a b).isSome].toArray) A := by
  refine Sound.of mixed Tryd.func65 Tryd.ntmps65 Tryd.results65 (by kernel_rfl) rfl (by kernel_rfl) (by simp) fun hA => ?_
  obtain ⟨oa, ca, rfl⟩ := ha.len
  obtain ⟨ob, cb, rfl⟩ := hb.len
  rw [List.length_map] at ha hb
  rw [List.length_map, List.length_map]
  have hfl : fl ≤ A.next := by have := hA.floor; omega
  have hfl1 : fl ≤ A.next + 1 := by have := hA.floor; omega
  have hfl2 : fl ≤ A.next + 2 := by have := hA.floor; omega
  have hfl3 : fl ≤ A.next + 3 := by have := hA.floor; omega
  have hfl4 : fl ≤ A.next + 4 := by have := hA.floor; omega
  have hfl5 : fl ≤ A.next + 5 := by have := hA.floor; omega
  have hfl6 : fl ≤ A.next + 6 := by have := hA.floor; omega
  simp only [↓R1, R2, R3, R4, TY, reduceIte, Nat.reduceEqDiff, Nat.reduceAdd, Nat.reduceMul, Nat.reduceLT, Nat.reduceLeDiff, reduceCtorEq, decide_true, decide_false, Int.reduceLE, Int.reduceLT, Int.reduceToNat, Int.reduceAdd, Int.reduceSub, Int.reduceMul, Int.reduceEq, hfl, hfl1, hfl2, hfl3, hfl4, hfl5, hfl6, NE, NE9, Nat.add_assoc]
  generalize hD : Hp.push _ _ = D
  have hxD : Xt A.next A D := by
    rw [← hD]
    simp (maxDischargeDepth := 20) only [xt_push, xt_put, xt_refl, Nat.le_refl, Nat.le_add_right, Nat.add_assoc, Nat.reduceAdd]
  have hDn : D.next = A.next + 1 := by rw [← hD]; rfl
  have hD0 : D.blk A.next = some (.row [.bool false, .string { data := #[] }, .string { data := #[] }, .bool false, .string { data := #[] }, .string { data := #[] }] 0 6) := by
    rw [← hD]; exact push_at rfl
  clear hD
  refine range_of 15 a.length (fun i τ C => Xt A.next A C ∧ A.next < C.next ∧ C.blk A.next = some (.row [.bool false, .string { data := #[] }, .string { data := #[] }, .bool false, .string { data := #[] }, .string { data := #[] }] 0 6) ∧
    τ 0 = some (.slice oa a.length ca) ∧ τ 1 = some (.slice ob b.length cb) ∧ τ 4 = some (.pointer (some ⟨A.next, 0, some 0⟩)) ∧ τ 13 = some (.slice oa a.length ca) ∧ τ 14 = some (.int .i64 (a.length : Nat)) ∧ τ 15 = some (.int .i64 (i : Nat)) ∧
    ∀ i', i' < i → beyN a b i' b.length = false) ?_ ?_
  · exact ⟨hxD, by omega, hD0, rfl, rfl, rfl, rfl, rfl, rfl, fun i' h => absurd h (by omega)⟩
  rintro i τ C hi ⟨hx, hn, hC0, q0, q1, q4, q13, q14, q15, hno⟩
  have hflC : fl ≤ C.next := Nat.le_trans hA.floor hx.next
  simp only [↓R1, R2, R3, R4, TY, reduceIte, Nat.reduceEqDiff, Nat.reduceAdd, Nat.reduceMul, Nat.reduceLT, Nat.reduceLeDiff, reduceCtorEq, decide_true, decide_false, Int.reduceLE, Int.reduceLT, Int.reduceToNat, Int.reduceAdd, Int.reduceSub, Int.reduceMul, Int.reduceEq, q0, q1, q4, q13, q14, q15]
  refine ⟨fun hlt => ?_, fun hlt => ?_⟩
  rotate_left
  · have hbn : bidx a b = none := bidx_none fun i' h' => hno i' (by omega)
    rw [hbn, bvec_none hbn]
    simp only [↓R1, R2, R3, R4, TY, reduceIte, Nat.reduceEqDiff, Nat.reduceAdd, Nat.reduceMul, Nat.reduceLT, Nat.reduceLeDiff, reduceCtorEq, decide_true, decide_false, Int.reduceLE, Int.reduceLT, Int.reduceToNat, Int.reduceAdd, Int.reduceSub, Int.reduceMul, Int.reduceEq, q0, q1, q4, hC0, hflC, hfl, hfl, hfl1, hfl2, hfl3, hfl4, hfl5, hfl6, NE, NE9, Nat.add_assoc]
    refine Ended.back hA ?_ rfl (tup_rb (vZ_rb _) (RB.bool _))
    simp (maxDischargeDepth := 20) only [xt_push, xt_put, hx, hx.next, Nat.le_refl, Nat.le_add_right]
  have hlt' : i < a.length := by omega
  obtain ⟨aa, rfl, -⟩ := ha.at (G := G) (i := i) (by simpa using hlt')
  have haC := ha.xt hA hx
  have hac : aa.block < C.next := Nat.lt_of_lt_of_le (ha.lt hA) hx.next
  have hac1 : aa.block < C.next + 1 := Nat.lt_succ_of_lt hac
  have nec : (aa.block = C.next) = False := eq_false (by omega)
  have l1 : (i + 1) % a.length < a.length := mod_lt' hlt' _
  obtain ⟨g0, g1, g2, g3, g4, g5⟩ := vec_get (G := G) haC hlt'
  obtain ⟨u0, u1, u2, u3, u4, u5⟩ := vec_get (G := G) haC l1
  have w1 : IntKind.i64.wrap (((i : Nat) : Int) + 1) = ((i + 1 : Nat) : Int) := wrapI (by omega)
  have n0 : (((a.length : Nat) : Int) = 0) = False := eq_false (by omega)
  have hi63 : i < 9223372036854775807 := by omega
  have z1 := za.at l1
  have z2 := za.at hlt'
  have zn := rz_nrm za hlt'
  have sb := fun fl A => vsub (G := G) (fl := fl) (A := A) hG z1.1 z1.2 z2.1 z2.2 (by omega)
  have ng := fun fl A => qneg (G := G) (fl := fl) (A := A) hG (z1.sub z2).1 (by omega)
  have en2 : -((pget a ((i + 1) % a.length)).1 - (pget a i).1) = (nrm a i).2 := rfl
  have en1 : (pget a ((i + 1) % a.length)).2 - (pget a i).2 = (nrm a i).1 := rfl
  rw [en2] at ng
  rw [en1] at sb
  generalize hn1 : (nrm a i).1 = N1 at *
  generalize hn2 : (nrm a i).2 = N2 at *
  simp only [prV_def] at sb
  simp only [ratV_def] at ng
  simp only [↓R1, R2, R3, R4, TY, reduceIte, Nat.reduceEqDiff, Nat.reduceAdd, Nat.reduceMul, Nat.reduceLT, Nat.reduceLeDiff, reduceCtorEq, decide_true, decide_false, Int.reduceLE, Int.reduceLT, Int.reduceToNat, Int.reduceAdd, Int.reduceSub, Int.reduceMul, Int.reduceEq, q0, q1, q4, q13, q14, q15, hlt, g0, g1, g2, g3, g4, g5, u0, u1, u2, u3, u4, u5, hac, hac1, nec, hflC, w1, tmod_nat, n0, l1, NE]
  refine call_of (sb _ _) ?_
  simp only [↓R1, R2, R3, R4, TY, reduceIte, Nat.reduceEqDiff, Nat.reduceAdd, Nat.reduceMul, Nat.reduceLT, Nat.reduceLeDiff, reduceCtorEq, decide_true, decide_false, Int.reduceLE, Int.reduceLT, Int.reduceToNat, Int.reduceAdd, Int.reduceSub, Int.reduceMul, Int.reduceEq, q0, q1, q4, q13, q14, q15, hflC, hfl, hfl1, hfl2, hfl3, hfl4, hfl5, hfl6, NE, NE9, Nat.add_assoc]
  rw [floOf_wr (by kernel_rfl)]
  simp only [↓R1, R2, R3, R4, TY, reduceIte, Nat.reduceEqDiff, Nat.reduceAdd, Nat.reduceMul, Nat.reduceLT, Nat.reduceLeDiff, reduceCtorEq, decide_true, decide_false, Int.reduceLE, Int.reduceLT, Int.reduceToNat, Int.reduceAdd, Int.reduceSub, Int.reduceMul, Int.reduceEq, q0, q1, q4, q13, q14, q15, hflC, hfl, hfl1, hfl2, hfl3, hfl4, hfl5, hfl6, NE, NE9, Nat.add_assoc]
  refine call_of (ng _ _) ?_
  simp only [↓R1, R2, R3, R4, TY, reduceIte, Nat.reduceEqDiff, Nat.reduceAdd, Nat.reduceMul, Nat.reduceLT, Nat.reduceLeDiff, reduceCtorEq, decide_true, decide_false, Int.reduceLE, Int.reduceLT, Int.reduceToNat, Int.reduceAdd, Int.reduceSub, Int.reduceMul, Int.reduceEq, q0, q1, q4, q13, q14, q15, hflC, hfl, hfl1, hfl2, hfl3, hfl4, hfl5, hfl6, NE, NE9, Nat.add_assoc]
  rw [floOf_wr (by kernel_rfl)]
  simp only [↓R1, R2, R3, R4, TY, reduceIte, Nat.reduceEqDiff, Nat.reduceAdd, Nat.reduceMul, Nat.reduceLT, Nat.reduceLeDiff, reduceCtorEq, decide_true, decide_false, Int.reduceLE, Int.reduceLT, Int.reduceToNat, Int.reduceAdd, Int.reduceSub, Int.reduceMul, Int.reduceEq, q0, q1, q4, q13, q14, q15, hflC, hfl, hfl1, hfl2, hfl3, hfl4, hfl5, hfl6, NE, NE9, Nat.add_assoc]
  generalize hE : Hp.put _ _ _ = E
  have hxE : Xt A.next A E := by
    rw [← hE]
    simp (maxDischargeDepth := 20) only [xt_push, xt_put, hx, hx.next, le_add]
  have hEn : E.next = C.next + 3 := by rw [← hE]; rfl
  have hE0 : E.blk A.next = some (.row [.bool false, .string { data := #[] }, .string { data := #[] }, .bool false, .string { data := #[] }, .string { data := #[] }] 0 6) := by
    have f1 : (A.next = C.next) = False := eq_false (by omega)
    have f2 : (A.next = C.next + 1) = False := eq_false (by omega)
    have f3 : (A.next = C.next + 1 + 1) = False := eq_false (by omega)
    rw [← hE]; simp only [Hp.put_blk, Hp.push_blk, Hp.push_next, Hp.put_next, f1, f2, f3, if_false]
    exact hC0
  have kp : ∀ j, E.get G ⟨C.next, j, some 0⟩ = (vC (pget a i))[j]? := fun j => by
    have f2 : (C.next = C.next + 1) = False := eq_false (by omega)
    have f3 : (C.next = C.next + 1 + 1) = False := eq_false (by omega)
    rw [← hE]; simp [Hp.get, Hp.put_blk, Hp.push_blk, f2, f3, vC_def]
  have kn : ∀ j, E.get G ⟨C.next + 2, j, some 0⟩ = ([.bool (decide (N1.num < 0)), .string (S (nb N1.num.natAbs)), .string (S (nb N1.den)), .bool (decide (N2.num < 0)), .string (S (nb N2.num.natAbs)), .string (S (nb N2.den))] : List Value)[j]? := fun j => by
    rw [← hE]; simp [Hp.get, Hp.put_blk]
  clear hE
  refine range_of 38 b.length (fun j τ F => Xt A.next A F ∧ C.next + 3 ≤ F.next ∧ F.blk A.next = some (.row [.bool false, .string { data := #[] }, .string { data := #[] }, .bool false, .string { data := #[] }, .string { data := #[] }] 0 6) ∧
    (∀ j, F.get G ⟨C.next, j, some 0⟩ = (vC (pget a i))[j]?) ∧ (∀ j, F.get G ⟨C.next + 2, j, some 0⟩ = ([.bool (decide (N1.num < 0)), .string (S (nb N1.num.natAbs)), .string (S (nb N1.den)), .bool (decide (N2.num < 0)), .string (S (nb N2.num.natAbs)), .string (S (nb N2.den))] : List Value)[j]?) ∧
    τ 0 = some (.slice (some aa) a.length ca) ∧ τ 1 = some (.slice ob b.length cb) ∧ τ 4 = some (.pointer (some ⟨A.next, 0, some 0⟩)) ∧ τ 7 = some (.pointer (some ⟨C.next, 0, some 0⟩)) ∧ τ 9 = some (.pointer (some ⟨C.next + 2, 0, some 0⟩)) ∧ τ 10 = some (.bool (beyN a b i j)) ∧
    τ 13 = some (.slice (some aa) a.length ca) ∧ τ 14 = some (.int .i64 (a.length : Nat)) ∧ τ 15 = some (.int .i64 (i : Nat)) ∧ τ 36 = some (.slice ob b.length cb) ∧ τ 37 = some (.int .i64 (b.length : Nat)) ∧ τ 38 = some (.int .i64 (j : Nat))) ?_ ?_
  · exact ⟨hxE, by omega, hE0, kp, kn, q0, q1, q4, rfl, rfl, rfl, q13, q14, q15, rfl, rfl, rfl⟩
  rintro j τ' F hj ⟨hx2, hn3, hF0, kp, kn, r0, r1, r4, r7, r9, r10, r13, r14, r15, r36, r37, r38⟩
  have hflF : fl ≤ F.next := Nat.le_trans hA.floor hx2.next
  have f1 : C.next < F.next := by omega
  have f2 : C.next + 2 < F.next := by omega
  have f3 : A.next < F.next := by omega
  have ne1 : (C.next = F.next) = False := eq_false (by omega)
  have ne2 : (C.next + 2 = F.next) = False := eq_false (by omega)
  have ne3 : (A.next = F.next) = False := eq_false (by omega)
  simp only [↓R1, R2, R3, R4, TY, reduceIte, Nat.reduceEqDiff, Nat.reduceAdd, Nat.reduceMul, Nat.reduceLT, Nat.reduceLeDiff, reduceCtorEq, decide_true, decide_false, Int.reduceLE, Int.reduceLT, Int.reduceToNat, Int.reduceAdd, Int.reduceSub, Int.reduceMul, Int.reduceEq, r0, r1, r4, r7, r9, r10, r13, r14, r15, r36, r37, r38]
  refine ⟨fun hjt => ?_, fun hjt => ?_⟩
  rotate_left
  · have e : j = b.length := by omega
    subst e
    cases hB : beyN a b i b.length with
    | true =>
      have hbs := bidx_some hlt' hB hno
      have hrb := bvec_rb A.next a b
      rw [hbs, bvec_some hbs, hn1, hn2]
      rw [bvec_some hbs, hn1, hn2] at hrb
      rw [prV_def] at hrb ⊢
      simp only [↓R1, R2, R3, R4, TY, reduceIte, Nat.reduceEqDiff, Nat.reduceAdd, Nat.reduceMul, Nat.reduceLT, Nat.reduceLeDiff, reduceCtorEq, decide_true, decide_false, Int.reduceLE, Int.reduceLT, Int.reduceToNat, Int.reduceAdd, Int.reduceSub, Int.reduceMul, Int.reduceEq, r0, r1, r4, r7, r9, r10, hB, kn, f2, hF0, hfl, hflF, hfl, hfl1, hfl2, hfl3, hfl4, hfl5, hfl6, NE, NE9, Nat.add_assoc]
      refine Ended.back hA ?_ rfl (tup_rb hrb (RB.bool _))
      simp (maxDischargeDepth := 20) only [xt_push, xt_put, hx2, hx2.next, Nat.le_refl, Nat.le_add_right]
    | false =>
      simp only [↓R1, R2, R3, R4, TY, reduceIte, Nat.reduceEqDiff, Nat.reduceAdd, Nat.reduceMul, Nat.reduceLT, Nat.reduceLeDiff, reduceCtorEq, decide_true, decide_false, Int.reduceLE, Int.reduceLT, Int.reduceToNat, Int.reduceAdd, Int.reduceSub, Int.reduceMul, Int.reduceEq, r0, r1, r4, r7, r9, r10, hB, r13, r14, r15, hi63]
      refine range_on q15 hlt' rfl ⟨hx2, by omega, hF0, r0, r1, r4, r13, r14, rfl, fun i' h' => ?_⟩
      by_cases e : i' = i
      · subst e; exact hB
      · exact hno i' (by omega)
  have hjt' : j < b.length := by omega
  obtain ⟨ab, rfl, -⟩ := hb.at (G := G) (i := j) (by simpa using hjt')
  have hbF := hb.xt hA hx2
  have hbc : ab.block < F.next := Nat.lt_of_lt_of_le (hb.lt hA) hx2.next
  obtain ⟨v0, v1, v2, v3, v4, v5⟩ := vec_get (G := G) hbF hjt'
  have hj63 : j < 9223372036854775807 := by omega
  have z3 := zb.at hjt'
  have s2 := fun fl A => vsub (G := G) (fl := fl) (A := A) hG z3.1 z3.2 z2.1 z2.2 (by omega)
  have zs := z3.sub z2
  have d2 := fun fl A => vdot (G := G) (fl := fl) (A := A) hG zn.1 zn.2 zs.1 zs.2 (by omega)
  have g2 := fun fl A => qsign (G := G) (fl := fl) (A := A) hG ((zn.1.mul zs.1).add (zn.2.mul zs.2)) (by omega)
  have eb : beyN a b i (j + 1) = (beyN a b i j && decide (0 < (nrm a i).1 * ((pget b j).1 - (pget a i).1) + (nrm a i).2 * ((pget b j).2 - (pget a i).2))) := rfl
  rw [hn1, hn2] at d2 g2 eb
  generalize N1 * ((pget b j).1 - (pget a i).1) + N2 * ((pget b j).2 - (pget a i).2) = dd at *
  have sgp : (rsign dd > 0) = (0 < dd) := by
    rw [eq_iff_iff]
    have h1 := @rsign_le dd
    constructor
    · intro h; exact Classical.not_not.1 fun h2 => by have := h1.2 h2; omega
    · intro h
      have : ¬ rsign dd ≤ 0 := fun h2 => h1.1 h2 h
      omega
  simp only [prV_def] at s2 d2
  simp only [ratV_def] at d2 g2
  simp only [↓R1, R2, R3, R4, TY, reduceIte, Nat.reduceEqDiff, Nat.reduceAdd, Nat.reduceMul, Nat.reduceLT, Nat.reduceLeDiff, reduceCtorEq, decide_true, decide_false, Int.reduceLE, Int.reduceLT, Int.reduceToNat, Int.reduceAdd, Int.reduceSub, Int.reduceMul, Int.reduceEq, r0, r1, r4, r7, r9, r10, r13, r14, r15, r36, r37, r38, hjt, v0, v1, v2, v3, v4, v5, hbc, hflF, NE]
  cases hB : beyN a b i j with
  | true =>
    rw [hB, Bool.true_and] at eb
    simp only [↓R1, R2, R3, R4, TY, reduceIte, Nat.reduceEqDiff, Nat.reduceAdd, Nat.reduceMul, Nat.reduceLT, Nat.reduceLeDiff, reduceCtorEq, decide_true, decide_false, Int.reduceLE, Int.reduceLT, Int.reduceToNat, Int.reduceAdd, Int.reduceSub, Int.reduceMul, Int.reduceEq, r0, r1, r4, r7, r9, r10, hB, r13, r14, r15, r36, r37, r38, kp, kn, vC_def, f1, f2, ne1, ne2, hflF, NE]
    refine call_of (s2 _ _) ?_
    simp only [↓R1, R2, R3, R4, TY, reduceIte, Nat.reduceEqDiff, Nat.reduceAdd, Nat.reduceMul, Nat.reduceLT, Nat.reduceLeDiff, reduceCtorEq, decide_true, decide_false, Int.reduceLE, Int.reduceLT, Int.reduceToNat, Int.reduceAdd, Int.reduceSub, Int.reduceMul, Int.reduceEq, r0, r1, r4, r7, r9, r10, hB, kp, kn, vC_def, f1, f2, ne1, ne2, hflF, NE]
    refine call_of (d2 _ _) ?_
    simp only [↓R1, R2, R3, R4, TY, reduceIte, Nat.reduceEqDiff, Nat.reduceAdd, Nat.reduceMul, Nat.reduceLT, Nat.reduceLeDiff, reduceCtorEq, decide_true, decide_false, Int.reduceLE, Int.reduceLT, Int.reduceToNat, Int.reduceAdd, Int.reduceSub, Int.reduceMul, Int.reduceEq]
    refine call_of (g2 _ _) ?_
    simp only [↓R1, R2, R3, R4, TY, reduceIte, Nat.reduceEqDiff, Nat.reduceAdd, Nat.reduceMul, Nat.reduceLT, Nat.reduceLeDiff, reduceCtorEq, decide_true, decide_false, Int.reduceLE, Int.reduceLT, Int.reduceToNat, Int.reduceAdd, Int.reduceSub, Int.reduceMul, Int.reduceEq, sgp, r0, r1, r4, r7, r9, hB, r13, r14, r15, r36, r37, r38, hj63]
    refine range_on r38 hjt' rfl ⟨?_, ?_, ?_, fun j => ?_, fun j => ?_, r0, r1, r4, r7, r9, by rw [eb]; rfl, r13, r14, r15, r36, r37, rfl⟩
    · simp (maxDischargeDepth := 20) only [xt_push, xt_put, hx2, hx2.next, Nat.le_refl]
    · simp only [Hp.put_next, Hp.push_next]; omega
    · simp only [Hp.put_blk, Hp.push_blk, ne3, if_false]; exact hF0
    · rw [get_put_other ne1, get_push_old f1]; exact kp j
    · rw [get_put_other ne2, get_push_old f2]; exact kn j
  | false =>
    rw [hB, Bool.false_and] at eb
    simp only [↓R1, R2, R3, R4, TY, reduceIte, Nat.reduceEqDiff, Nat.reduceAdd, Nat.reduceMul, Nat.reduceLT, Nat.reduceLeDiff, reduceCtorEq, decide_true, decide_false, Int.reduceLE, Int.reduceLT, Int.reduceToNat, Int.reduceAdd, Int.reduceSub, Int.reduceMul, Int.reduceEq, r0, r1, r4, r7, r9, r10, hB, r13, r14, r15, r36, r37, r38, hj63]
    refine range_on r38 hjt' rfl ⟨?_, ?_, ?_, fun j => ?_, fun j => ?_, r0, r1, r4, r7, r9, by rw [eb]; rfl, r13, r14, r15, r36, r37, rfl⟩
    · simp (maxDischargeDepth := 20) only [xt_push, xt_put, hx2, hx2.next, Nat.le_refl]
    · simp only [Hp.put_next, Hp.push_next]; omega
    · simp only [Hp.put_blk, Hp.push_blk, ne3, if_false]; exact hF0
    · rw [get_put_other ne1, get_push_old f1]; exact kp j
    · rw [get_put_other ne2, get_push_old f2]; exact kn j


end
end Go.Proofs.YthclikeipdplpaaDoor.Ab
