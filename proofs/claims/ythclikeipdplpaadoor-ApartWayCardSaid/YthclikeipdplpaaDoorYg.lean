/- Polygons: Support, Area. -/
import Derived.Test.YthclikeipdplpaaDoorYf
namespace Go.Proofs.YthclikeipdplpaaDoor.Ab
open Go.RowKit
set_option linter.unusedVariables false
set_option linter.unusedSimpArgs false
set_option maxRecDepth 100000

theorem rz_dt {p q : V2} {j k : Nat} (hp : Pz p j) (hq : Pz q k) : Rz (p.1 * q.1 + p.2 * q.2) (2 * j + 2 * k + 1) := ((hp.1.mul hq.1).add (hp.2.mul hq.2)).mono (by omega)

section
variable {G : Gl} {fl : Nat} {A : Hp}

set_option maxHeartbeats 4000000 in
theorem parea_ok {v : Value} {l : List V2} {k : Nat} (hG : G 1 = some tabV) (hs : Sl A 6 v (l.map vC)) (hz : Lz l k) (hk : k ≤ 1000) (hl : l.length < 4611686018427387904) (hl2 : l.length ≤ 64) : Sound Tryd.prog G 15 [v] fl A (ratV (parea l)) A := by
  refine Sound.of mixed Tryd.func15 Tryd.ntmps15 Tryd.results15 (by kernel_rfl) rfl (by kernel_rfl) (by simp) fun hA => ?_
  obtain ⟨o, c, rfl⟩ := hs.len
  have hfl : fl ≤ A.next := by have := hA.floor; omega
  have hfl1 : fl ≤ A.next + 1 := by have := hA.floor; omega
  have hfl2 : fl ≤ A.next + 2 := by have := hA.floor; omega
  have hfl3 : fl ≤ A.next + 3 := by have := hA.floor; omega
  have hfl4 : fl ≤ A.next + 4 := by have := hA.floor; omega
  have hfl5 : fl ≤ A.next + 5 := by have := hA.floor; omega
  have hfl6 : fl ≤ A.next + 6 := by have := hA.floor; omega
  have cx := fun fl (A : Hp) (hs : Sl A 6 (.slice o (l.map vC).length c) (l.map vC)) => pconvex (G := G) (fl := fl) (A := A) hG hs hz (by omega) hl
  rw [List.length_map] at hs cx ⊢
  have hrb := ratV_rb A.next (parea l)
  have z0 := fun fl A => rof_ok (G := G) (fl := fl) (A := A) (n := 0) (by decide) (by decide)
  have mk := fun fl A => rmake_ok (G := G) (fl := fl) (A := A) (m := 1) (n := 2) (by decide) (by decide) (by decide) (by decide) (by decide)
  have rh : Rz (rOf 1 / rOf 2) 2 := by rw [half_eq]; exact rz_half
  have ml := fun fl A => qmul (G := G) (fl := fl) (A := A) hG rh (rz_dbl hz l.length (Nat.le_refl _)) (by
    have : l.length * (4 * k + 2) ≤ 64 * (4 * k + 2) := Nat.mul_le_mul_right _ hl2
    omega)
  have hsP : ∀ b c', Sl ((A.push b).push c') 6 (.slice o l.length c) (l.map vC) := fun b c' => hs.xt hA (((Xt.refl A).push _).push _)
  have e00 : dbl l 0 = rOf 0 := by rw [rOf_eq]; rfl
  by_cases hc : pchk l 64 = 0
  rotate_left
  · have hc' : (pchk l 64 = 0) = False := eq_false hc
    rw [parea_n hc] at hrb ⊢
    generalize rOf 0 = z at *
    simp only [ratV_def] at z0 hrb ⊢
    simp only [↓R1, R2, R3, R4, TY, reduceIte, Nat.reduceEqDiff, Nat.reduceAdd, Nat.reduceMul, Nat.reduceLT, Nat.reduceLeDiff, reduceCtorEq, decide_true, decide_false, Int.reduceLE, Int.reduceLT, Int.reduceToNat, Int.reduceAdd, Int.reduceSub, Int.reduceMul, Int.reduceEq, hfl, hfl1, hfl2, hfl3, hfl4, hfl5, hfl6, NE, NE9, Nat.add_assoc]
    refine call_of (z0 _ _) ?_
    simp only [↓R1, R2, R3, R4, TY, reduceIte, Nat.reduceEqDiff, Nat.reduceAdd, Nat.reduceMul, Nat.reduceLT, Nat.reduceLeDiff, reduceCtorEq, decide_true, decide_false, Int.reduceLE, Int.reduceLT, Int.reduceToNat, Int.reduceAdd, Int.reduceSub, Int.reduceMul, Int.reduceEq, hfl, hfl1, hfl2, hfl3, hfl4, hfl5, hfl6, NE, NE9, Nat.add_assoc]
    refine call_of (cx _ _ (Sl.xt hA hs ?_)) ?_
    · simp (maxDischargeDepth := 20) only [xt_push, xt_put, xt_refl, Nat.le_refl, Nat.le_add_right, Nat.add_assoc, Nat.reduceAdd]
    simp only [↓R1, R2, R3, R4, TY, reduceIte, Nat.reduceEqDiff, Nat.reduceAdd, Nat.reduceMul, Nat.reduceLT, Nat.reduceLeDiff, reduceCtorEq, decide_true, decide_false, Int.reduceLE, Int.reduceLT, Int.reduceToNat, Int.reduceAdd, Int.reduceSub, Int.reduceMul, Int.reduceEq, hfl, hfl1, hfl2, hfl3, hfl4, hfl5, hfl6, NE, NE9, Nat.add_assoc, hc']
    refine Ended.back hA ?_ rfl hrb
    simp (maxDischargeDepth := 20) only [xt_push, xt_put, xt_refl, Nat.le_refl, Nat.le_add_right, Nat.add_assoc, Nat.reduceAdd]
  have h3 : 3 ≤ l.length := (pchk_ok.1 hc).1
  rw [parea_0 hc] at hrb ⊢
  generalize rOf 1 / rOf 2 = hf at *
  rw [← e00] at z0
  simp only [ratV_def] at z0 mk ml hrb ⊢
  simp only [↓R1, R2, R3, R4, TY, reduceIte, Nat.reduceEqDiff, Nat.reduceAdd, Nat.reduceMul, Nat.reduceLT, Nat.reduceLeDiff, reduceCtorEq, decide_true, decide_false, Int.reduceLE, Int.reduceLT, Int.reduceToNat, Int.reduceAdd, Int.reduceSub, Int.reduceMul, Int.reduceEq, hfl, hfl1, hfl2, hfl3, hfl4, hfl5, hfl6, NE, NE9, Nat.add_assoc]
  refine call_of (z0 _ _) ?_
  simp only [↓R1, R2, R3, R4, TY, reduceIte, Nat.reduceEqDiff, Nat.reduceAdd, Nat.reduceMul, Nat.reduceLT, Nat.reduceLeDiff, reduceCtorEq, decide_true, decide_false, Int.reduceLE, Int.reduceLT, Int.reduceToNat, Int.reduceAdd, Int.reduceSub, Int.reduceMul, Int.reduceEq, hfl, hfl1, hfl2, hfl3, hfl4, hfl5, hfl6, NE, NE9, Nat.add_assoc]
  refine call_of (cx _ _ (Sl.xt hA hs ?_)) ?_
  · simp (maxDischargeDepth := 20) only [xt_push, xt_put, xt_refl, Nat.le_refl, Nat.le_add_right, Nat.add_assoc, Nat.reduceAdd]
  simp only [↓R1, R2, R3, R4, TY, reduceIte, Nat.reduceEqDiff, Nat.reduceAdd, Nat.reduceMul, Nat.reduceLT, Nat.reduceLeDiff, reduceCtorEq, decide_true, decide_false, Int.reduceLE, Int.reduceLT, Int.reduceToNat, Int.reduceAdd, Int.reduceSub, Int.reduceMul, Int.reduceEq, hfl, hfl1, hfl2, hfl3, hfl4, hfl5, hfl6, NE, NE9, Nat.add_assoc, hc]
  refine range_of 15 l.length (fun i τ C => Xt A.next A C ∧ A.next + 1 < C.next ∧ C.blk A.next = some (.row [.bool false, .string (S []), .string (S [])] 0 3) ∧ C.blk (A.next + 1) = some (.row [.bool (decide ((dbl l i).num < 0)), .string (S (nb (dbl l i).num.natAbs)), .string (S (nb (dbl l i).den))] 0 3) ∧
    τ 0 = some (.slice o l.length c) ∧ τ 2 = some (.pointer (some ⟨A.next, 0, some 0⟩)) ∧ τ 3 = some (.pointer (some ⟨A.next + 1, 0, some 0⟩)) ∧ τ 13 = some (.slice o l.length c) ∧ τ 14 = some (.int .i64 (l.length : Nat)) ∧ τ 15 = some (.int .i64 (i : Nat))) ?_ ?_
  · refine ⟨?_, Nat.lt_succ_self _, ?_, ?_, rfl, rfl, rfl, rfl, rfl, rfl⟩
    · simp (maxDischargeDepth := 20) only [xt_push, xt_put, xt_refl, Nat.le_refl, Nat.le_add_right, Nat.add_assoc, Nat.reduceAdd]
    · simp only [Hp.put_blk, Hp.push_blk, Hp.push_next]
      rw [if_neg (by omega), if_neg (by omega), if_pos trivial]
    · simp only [Hp.put_blk, if_true]
  rintro i τ C hi ⟨hx, hn, hC0, hC1, q0, q2, q3, q13, q14, q15⟩
  have hflC : fl ≤ C.next := Nat.le_trans hA.floor hx.next
  have hnA : A.next < C.next := by omega
  have ne1 : (A.next + 1 = C.next) = False := eq_false (by omega)
  have ne2 : (A.next = C.next) = False := eq_false (by omega)
  have ne3 : (C.next = A.next + 1) = False := eq_false (by omega)
  have ne4 : (A.next = A.next + 1) = False := eq_false (by omega)
  have gS : ∀ j, C.get G ⟨A.next + 1, j, some 0⟩ = ([.bool (decide ((dbl l i).num < 0)), .string (S (nb (dbl l i).num.natAbs)), .string (S (nb (dbl l i).den))] : List Value)[j]? := fun j => by simp only [Hp.get, hC1, if_true]
  simp only [↓R1, R2, R3, R4, TY, reduceIte, Nat.reduceEqDiff, Nat.reduceAdd, Nat.reduceMul, Nat.reduceLT, Nat.reduceLeDiff, reduceCtorEq, decide_true, decide_false, Int.reduceLE, Int.reduceLT, Int.reduceToNat, Int.reduceAdd, Int.reduceSub, Int.reduceMul, Int.reduceEq, q0, q2, q3, q13, q14, q15]
  refine ⟨fun hlt => ?_, fun hlt => ?_⟩
  rotate_left
  · have e : i = l.length := by omega
    subst e
    refine call_of (mk _ _) ?_
    simp only [↓R1, R2, R3, R4, TY, reduceIte, Nat.reduceEqDiff, Nat.reduceAdd, Nat.reduceMul, Nat.reduceLT, Nat.reduceLeDiff, reduceCtorEq, decide_true, decide_false, Int.reduceLE, Int.reduceLT, Int.reduceToNat, Int.reduceAdd, Int.reduceSub, Int.reduceMul, Int.reduceEq, q0, q2, q3, q13, q14, q15, hflC, gS, hn, ne1, ne2, ne3, ne4, hnA, hC0, hfl, hfl1, hfl2, hfl3, hfl4, hfl5, hfl6, NE, NE9, Nat.add_assoc]
    refine call_of (ml _ _) ?_
    simp only [↓R1, R2, R3, R4, TY, reduceIte, Nat.reduceEqDiff, Nat.reduceAdd, Nat.reduceMul, Nat.reduceLT, Nat.reduceLeDiff, reduceCtorEq, decide_true, decide_false, Int.reduceLE, Int.reduceLT, Int.reduceToNat, Int.reduceAdd, Int.reduceSub, Int.reduceMul, Int.reduceEq, q0, q2, q3, q13, q14, q15, hflC, gS, hn, ne1, ne2, ne3, ne4, hnA, hC0, hfl, hfl1, hfl2, hfl3, hfl4, hfl5, hfl6, NE, NE9, Nat.add_assoc]
    refine Ended.back hA ?_ rfl hrb
    simp (maxDischargeDepth := 20) only [xt_push, xt_put, hx, hx.next, Nat.le_refl, Nat.le_add_right]
  have hlt' : i < l.length := by omega
  obtain ⟨a, rfl, -⟩ := hs.at (G := G) (i := i) (by simpa using hlt')
  have hsC := hs.xt hA hx
  have hac : a.block < C.next := Nat.lt_of_lt_of_le (hs.lt hA) hx.next
  have hac1 : a.block < C.next + 1 := Nat.lt_succ_of_lt hac
  have hne : (a.block = C.next) = False := eq_false (by omega)
  have hflC : fl ≤ C.next := Nat.le_trans hA.floor hx.next
  obtain ⟨g0, g1, g2, g3, g4, g5⟩ := vec_get (G := G) hsC hlt'
  have hi63 : i < 9223372036854775807 := by omega
  have l1 : (i + 1) % l.length < l.length := mod_lt' hlt' _
  obtain ⟨u0, u1, u2, u3, u4, u5⟩ := vec_get (G := G) hsC l1
  have w1 : IntKind.i64.wrap (((i : Nat) : Int) + 1) = ((i + 1 : Nat) : Int) := wrapI (by omega)
  have n0 : (((l.length : Nat) : Int) = 0) = False := eq_false (by omega)
  have hn1 : A.next + 1 < C.next + 1 := by omega
  have p1 := hz.at hlt'
  have p2 := hz.at l1
  have cr := fun fl A => vcross (G := G) (fl := fl) (A := A) hG p1.1 p1.2 p2.1 p2.2 (by omega)
  have ad := fun fl A => qadd (G := G) (fl := fl) (A := A) hG (rz_dbl hz i (by omega)) ((p1.1.mul p2.2).sub (p1.2.mul p2.1)) (by
    have : i * (4 * k + 2) ≤ 64 * (4 * k + 2) := Nat.mul_le_mul_right _ (by omega)
    omega)
  have ed : dbl l (i + 1) = dbl l i + ((pget l i).1 * (pget l ((i + 1) % l.length)).2 - (pget l i).2 * (pget l ((i + 1) % l.length)).1) := rfl
  simp only [prV_def] at cr
  simp only [ratV_def] at cr ad
  rw [← ed] at ad
  simp only [↓R1, R2, R3, R4, TY, reduceIte, Nat.reduceEqDiff, Nat.reduceAdd, Nat.reduceMul, Nat.reduceLT, Nat.reduceLeDiff, reduceCtorEq, decide_true, decide_false, Int.reduceLE, Int.reduceLT, Int.reduceToNat, Int.reduceAdd, Int.reduceSub, Int.reduceMul, Int.reduceEq, q0, q2, q3, q13, q14, q15, hlt, g0, g1, g2, g3, g4, g5, u0, u1, u2, u3, u4, u5, hac, hac1, hne, hn, hn1, ne1, ne2, ne3, ne4, gS, hflC, w1, tmod_nat, n0, l1, NE]
  refine call_of (cr _ _) ?_
  simp only [↓R1, R2, R3, R4, TY, reduceIte, Nat.reduceEqDiff, Nat.reduceAdd, Nat.reduceMul, Nat.reduceLT, Nat.reduceLeDiff, reduceCtorEq, decide_true, decide_false, Int.reduceLE, Int.reduceLT, Int.reduceToNat, Int.reduceAdd, Int.reduceSub, Int.reduceMul, Int.reduceEq, q0, q2, q3, q13, q14, q15, hflC, gS, hn, hn1, ne1, ne2, ne3, ne4, hC1]
  refine call_of (ad _ _) ?_
  simp only [↓R1, R2, R3, R4, TY, reduceIte, Nat.reduceEqDiff, Nat.reduceAdd, Nat.reduceMul, Nat.reduceLT, Nat.reduceLeDiff, reduceCtorEq, decide_true, decide_false, Int.reduceLE, Int.reduceLT, Int.reduceToNat, Int.reduceAdd, Int.reduceSub, Int.reduceMul, Int.reduceEq, q0, q2, q3, q13, q14, q15, hflC, gS, hn, hn1, ne1, ne2, ne3, ne4, hC1, hfl, hfl1, hfl2, hfl3, hfl4, hfl5, hfl6, NE, NE9, Nat.add_assoc]
  rw [floOf_wr (by kernel_rfl)]
  simp only [↓R1, R2, R3, R4, TY, reduceIte, Nat.reduceEqDiff, Nat.reduceAdd, Nat.reduceMul, Nat.reduceLT, Nat.reduceLeDiff, reduceCtorEq, decide_true, decide_false, Int.reduceLE, Int.reduceLT, Int.reduceToNat, Int.reduceAdd, Int.reduceSub, Int.reduceMul, Int.reduceEq, q0, q2, q3, q13, q14, q15, hflC, gS, hn, hn1, ne1, ne2, ne3, ne4, hC1, hi63, hfl, hfl1, hfl2, hfl3, hfl4, hfl5, hfl6, NE, NE9, Nat.add_assoc]
  refine range_on q15 hlt' rfl ⟨?_, ?_, ?_, ?_, q0, q2, q3, q13, q14, rfl⟩
  · simp (maxDischargeDepth := 20) only [xt_push, xt_put, hx, hx.next, Nat.le_refl, Nat.le_add_right]
  · simp only [Hp.put_next, Hp.push_next]; omega
  · simp only [Hp.put_blk, Hp.push_blk, ne2, ne4, if_false]; exact hC0
  · simp only [Hp.put_blk, if_true]
end
end Go.Proofs.YthclikeipdplpaaDoor.Ab
