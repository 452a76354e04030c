/- gantkeep1.ApartMoves returns true for every input. -/
import Derived.Test.YthclikeipdplpaaDoorYl
import Derived.Test.YthclikeipdplpaaDoorYr
namespace Go.Proofs.YthclikeipdplpaaDoor.Ab
open Go.RowKit
set_option linter.unusedVariables false
set_option linter.unusedSimpArgs false
set_option maxRecDepth 100000

theorem rsign_zero : rsign 0 = 0 := by unfold rsign; rw [if_pos (by decide)]
theorem apart_sign {a b : List V2} (a2 : 2 ≤ a.length) (b2 : 2 ≤ b.length) (ca : Cvx a) (cb : Cvx b) : (meetB a b == decide (rsign (sqv a b) = 0)) = true ∧ 0 ≤ rsign (sqv a b) := by
  obtain ⟨h0, hz⟩ := sqv_zero a2 b2 ca cb
  cases hm : meetB a b with
  | true =>
    have e : sqv a b = 0 := hz.2 hm
    rw [e, rsign_zero]; exact ⟨by decide, by decide⟩
  | false =>
    have e : sqv a b ≠ 0 := fun e => by rw [hz.1 e] at hm; cases hm
    rw [rsign_pos (by grind)]; exact ⟨by decide, by decide⟩
theorem tdiv3 {x : Int} (h : -9223372036854775808 ≤ x ∧ x ≤ 9223372036854775807) : IntKind.i64.wrap (x.tdiv 3) = x.tdiv 3 ∧ (-9223372036854775808 ≤ x.tdiv 3 ∧ x.tdiv 3 ≤ 9223372036854775807) := by
  have h1 : -9223372036854775808 ≤ x.tdiv 3 ∧ x.tdiv 3 ≤ 9223372036854775807 := by
    rcases Int.le_total 0 x with h0 | h0
    · rw [Int.tdiv_eq_ediv_of_nonneg h0]; omega
    · obtain ⟨y, rfl⟩ : ∃ y, x = -y := ⟨-x, by omega⟩
      rw [Int.neg_tdiv, Int.tdiv_eq_ediv_of_nonneg (by omega)]; omega
  exact ⟨wrapI h1, h1⟩

section
variable {G : Gl} {fl : Nat} {A : Hp}

set_option maxHeartbeats 16000000 in
theorem apartMoves_ok {v w : Value} {xs ys : List Int} {x1 x2 x3 x4 x5 : Int} (hG : G 1 = some tabV) (hx : In64 xs) (hs : Sl A 1 v (xs.map iC)) (hl : xs.length ≤ 9223372036854775807) (hy : In64 ys) (ht : Sl A 1 w (ys.map iC)) (hm : ys.length ≤ 9223372036854775807) (k1 : -9223372036854775808 ≤ x1 ∧ x1 ≤ 9223372036854775807) (k2 : -9223372036854775808 ≤ x2 ∧ x2 ≤ 9223372036854775807) (k3 : -9223372036854775808 ≤ x3 ∧ x3 ≤ 9223372036854775807) (k4 : -9223372036854775808 ≤ x4 ∧ x4 ≤ 9223372036854775807) (k5 : -9223372036854775808 ≤ x5 ∧ x5 ≤ 9223372036854775807) :
    Sound Tryd.prog G 5 [v, w, .int .i64 x1, .int .i64 x2, .int .i64 x3, .int .i64 x4, .int .i64 x5] fl A (.bool true) A := by
  refine Sound.of mixed Tryd.func5 Tryd.ntmps5 Tryd.results5 (by kernel_rfl) rfl (by kernel_rfl) (by simp) fun hA => ?_
  have hfl : fl ≤ A.next := by have := hA.floor; omega
  have hfl1 : fl ≤ A.next + 1 := by have := hA.floor; omega
  have hfl2 : fl ≤ A.next + 2 := by have := hA.floor; omega
  have hfl3 : fl ≤ A.next + 3 := by have := hA.floor; omega
  have hfl4 : fl ≤ A.next + 4 := by have := hA.floor; omega
  have hfl5 : fl ≤ A.next + 5 := by have := hA.floor; omega
  have hfl6 : fl ≤ A.next + 6 := by have := hA.floor; omega
  have bg := fun fl A => apartBegun_ok (G := G) (fl := fl) (A := A) hG
  have mp := fun fl => mpolyS (G := G) (fl := fl) (A := A) hx hs hl
  have mq := fun fl A ht => mpolyS (G := G) (fl := fl) (A := A) (v := w) hy ht hm
  have fr := fun fl A => framed_ok (G := G) (fl := fl) (A := A) hG k1 k2 k5
  obtain ⟨w3, k6⟩ := tdiv3 k5
  have fs := fun fl A => framed_ok (G := G) (fl := fl) (A := A) hG k3 k4 k6
  have hP := mpoly_ok xs
  have hM := mpoly_ok ys
  have hf : Fz (mrat x1) (mrat x2) (trn x5) 1 1 := ⟨mrat_rz x1, mrat_rz x2, trn_rz x5⟩
  have hg : Fz (mrat x3) (mrat x4) (trn (x5.tdiv 3)) 1 1 := ⟨mrat_rz x3, mrat_rz x4, trn_rz (x5.tdiv 3)⟩
  generalize mpoly xs = P at *
  generalize mpoly ys = M at *
  generalize mrat x1 = X at *
  generalize mrat x2 = Y at *
  generalize trn x5 = T at *
  generalize mrat x3 = X' at *
  generalize mrat x4 = Y' at *
  generalize trn (x5.tdiv 3) = T' at *
  have p3 := hP.len3
  have p5 := hP.len5
  have m3 := hM.len3
  have m5 := hM.len5
  have zQ := hM.z.mv hf
  have cQ := hM.mv X Y T
  have q64 : pchk (M.map (mv X Y T)) 64 = 0 := by rw [pchk_mv]; exact hM.c64
  have lQ : (M.map (mv X Y T)).length = M.length := by simp
  have l1 := fun fl (A : Hp) v (hs : Sl A 6 v (M.map vC)) => flistn (G := G) (fl := fl) (A := A) hG hf hM.z hs (by omega) (by omega)
  rw [← lQ] at l1 m3 m5
  generalize hQe : M.map (mv X Y T) = Q at *
  have zP21 : Lz P 21 := hP.z.mono (by omega)
  have c64 := hP.c64
  have me := fun fl (A : Hp) va vb ha hb => meet_ok (G := G) (fl := fl) (A := A) (va := va) (vb := vb) hG ha hb zP21 zQ (by omega) c64 q64
  have em := fun fl (A : Hp) va vb ha hb => meet_ok (G := G) (fl := fl) (A := A) (va := va) (vb := vb) hG ha hb zQ zP21 (by omega) q64 c64
  have s1 := fun fl (A : Hp) va vb ha hb => sq_ok (G := G) (fl := fl) (A := A) (va := va) (vb := vb) hG ha hb zP21 zQ (by omega) c64 q64
  have s2 := fun fl (A : Hp) va vb ha hb => sq_ok (G := G) (fl := fl) (A := A) (va := va) (vb := vb) hG ha hb zQ zP21 (by omega) q64 c64
  have l2 := fun fl (A : Hp) v (hs : Sl A 6 v (P.map vC)) => flistn (G := G) (fl := fl) (A := A) hG hg hP.z hs (by omega) (by omega)
  have l3 := fun fl (A : Hp) v (hs : Sl A 6 v (Q.map vC)) => flistn (G := G) (fl := fl) (A := A) hG hg zQ hs (by omega) (by omega)
  have zP' := (hP.z.mv hg).mono (show 1 + 2 * 1 + 8 * 1 + 10 ≤ 61 by omega)
  have zQ' := (zQ.mv hg).mono (show 1 + 2 * 21 + 8 * 1 + 10 ≤ 61 by omega)
  have cP' : pchk (P.map (mv X' Y' T')) 64 = 0 := by rw [pchk_mv]; exact c64
  have cQ' : pchk (Q.map (mv X' Y' T')) 64 = 0 := by rw [pchk_mv]; exact q64
  have s3 := fun fl (A : Hp) va vb ha hb => sq_ok (G := G) (fl := fl) (A := A) (va := va) (vb := vb) hG ha hb zP' zQ' (by omega) cP' cQ'
  rw [sqv_mv X' Y' T' P Q (by omega) (by omega)] at s3
  rw [sqv_comm (a := Q) (b := P) (by omega) (by omega)] at s2
  rw [meetB_comm Q P] at em
  obtain ⟨e1, e2⟩ := apart_sign (a := P) (b := Q) (by omega) (by omega) hP.cvx cQ
  have sg := fun fl A => qsign (G := G) (fl := fl) (A := A) hG (rz_sqv zP21 zQ (by omega) (by omega)) (by omega)
  have hd := eqD_rat (sqv P Q) (sqv P Q)
  rw [decide_eq_true rfl] at hd
  have e2' : (0 ≤ rsign (sqv P Q)) = True := eq_true e2
  have e2'' : (rsign (sqv P Q) ≥ 0) = True := eq_true e2
  generalize meetB P Q = mu at *
  generalize sqv P Q = dd at *
  have hb0 := fun B id => sl_at (B := B) (id := id) (l := P)
  have hbM := fun B id => sl_at (B := B) (id := id) (l := M)
  have hbQ := fun B id => sl_at (B := B) (id := id) (l := Q)
  have hbP' := fun B id => sl_at (B := B) (id := id) (l := P.map (mv X' Y' T'))
  have hbQ' := fun B id => sl_at (B := B) (id := id) (l := Q.map (mv X' Y' T'))
  rw [List.length_map] at hbP' hbQ'
  generalize P.map (mv X' Y' T') = P' at *
  generalize Q.map (mv X' Y' T') = Q' at *
  rw [lQ] at l1
  rw [lQ] at hbQ l3 hbQ'
  simp only [frV_def] at fr fs l1 l2 l3
  simp only [ratV_def] at s1 s2 s3 sg hd
  simp only [↓R1, R2, R3, R4, TY, reduceIte, Nat.reduceEqDiff, Nat.reduceAdd, Nat.reduceMul, Nat.reduceLT, Nat.reduceLeDiff, reduceCtorEq, decide_true, decide_false, Int.reduceLE, Int.reduceLT, Int.reduceToNat, Int.reduceAdd, Int.reduceSub, Int.reduceMul, Int.reduceEq, hfl, hfl1, hfl2, hfl3, hfl4, hfl5, hfl6, NE, NE9, Nat.add_assoc]
  refine call_of (bg _ _) ?_
  simp only [↓R1, R2, R3, R4, TY, reduceIte, Nat.reduceEqDiff, Nat.reduceAdd, Nat.reduceMul, Nat.reduceLT, Nat.reduceLeDiff, reduceCtorEq, decide_true, decide_false, Int.reduceLE, Int.reduceLT, Int.reduceToNat, Int.reduceAdd, Int.reduceSub, Int.reduceMul, Int.reduceEq, hfl, hfl1, hfl2, hfl3, hfl4, hfl5, hfl6, NE, NE9, Nat.add_assoc]
  refine call_of (mp _) ?_
  simp only [↓R1, R2, R3, R4, TY, reduceIte, Nat.reduceEqDiff, Nat.reduceAdd, Nat.reduceMul, Nat.reduceLT, Nat.reduceLeDiff, reduceCtorEq, decide_true, decide_false, Int.reduceLE, Int.reduceLT, Int.reduceToNat, Int.reduceAdd, Int.reduceSub, Int.reduceMul, Int.reduceEq, hfl, hfl1, hfl2, hfl3, hfl4, hfl5, hfl6, NE, NE9, Nat.add_assoc]
  refine call_of (fr _ _) ?_
  simp only [↓R1, R2, R3, R4, TY, reduceIte, Nat.reduceEqDiff, Nat.reduceAdd, Nat.reduceMul, Nat.reduceLT, Nat.reduceLeDiff, reduceCtorEq, decide_true, decide_false, Int.reduceLE, Int.reduceLT, Int.reduceToNat, Int.reduceAdd, Int.reduceSub, Int.reduceMul, Int.reduceEq, hfl, hfl1, hfl2, hfl3, hfl4, hfl5, hfl6, NE, NE9, Nat.add_assoc]
  refine call_of (mq _ _ (ht.xt hA ((Xt.refl A).push _))) ?_
  simp only [↓R1, R2, R3, R4, TY, reduceIte, Nat.reduceEqDiff, Nat.reduceAdd, Nat.reduceMul, Nat.reduceLT, Nat.reduceLeDiff, reduceCtorEq, decide_true, decide_false, Int.reduceLE, Int.reduceLT, Int.reduceToNat, Int.reduceAdd, Int.reduceSub, Int.reduceMul, Int.reduceEq, hfl, hfl1, hfl2, hfl3, hfl4, hfl5, hfl6, NE, NE9, Nat.add_assoc]
  refine call_of (l1 _ _ _ (hbM _ _ (push_at rfl))) ?_
  simp only [↓R1, R2, R3, R4, TY, reduceIte, Nat.reduceEqDiff, Nat.reduceAdd, Nat.reduceMul, Nat.reduceLT, Nat.reduceLeDiff, reduceCtorEq, decide_true, decide_false, Int.reduceLE, Int.reduceLT, Int.reduceToNat, Int.reduceAdd, Int.reduceSub, Int.reduceMul, Int.reduceEq, hfl, hfl1, hfl2, hfl3, hfl4, hfl5, hfl6, NE, NE9, Nat.add_assoc, w3]
  refine call_of (fs _ _) ?_
  simp only [↓R1, R2, R3, R4, TY, reduceIte, Nat.reduceEqDiff, Nat.reduceAdd, Nat.reduceMul, Nat.reduceLT, Nat.reduceLeDiff, reduceCtorEq, decide_true, decide_false, Int.reduceLE, Int.reduceLT, Int.reduceToNat, Int.reduceAdd, Int.reduceSub, Int.reduceMul, Int.reduceEq, hfl, hfl1, hfl2, hfl3, hfl4, hfl5, hfl6, NE, NE9, Nat.add_assoc]
  generalize hB : Hp.put _ _ _ = B
  have hBx : Xt A.next A B := by
    rw [← hB]
    simp (maxDischargeDepth := 20) only [xt_push, xt_put, xt_refl, Nat.le_refl, Nat.le_add_right, Nat.add_assoc, Nat.reduceAdd]
  have hBn : B.next = A.next + 4 := by rw [← hB]; rfl
  have hB0 : B.blk A.next = some (.row (P.map vC).flatten 0 6) := by
    rw [← hB]; simp [Hp.put_blk, Hp.push_blk, Nat.add_assoc]
  have hB2 : B.blk (A.next + 2) = some (.row (Q.map vC).flatten 0 6) := by
    rw [← hB]; simp [Hp.put_blk, Hp.push_blk, Nat.add_assoc]
  have gF : ∀ i, B.get G ⟨A.next + 3, i, some 0⟩ = ([.bool (decide (X'.num < 0)), .string (S (nb X'.num.natAbs)), .string (S (nb X'.den)), .bool (decide (Y'.num < 0)), .string (S (nb Y'.num.natAbs)), .string (S (nb Y'.den)), .bool T'.isNone, .bool (decide ((T'.getD 0).num < 0)), .string (S (nb (T'.getD 0).num.natAbs)), .string (S (nb (T'.getD 0).den))] : List Value)[i]? := fun i => by
    rw [← hB]
    simp [Hp.get, Hp.put_blk, Hp.push_blk]
  clear hB
  have i0 : ∀ i, i < 5 → ([Value.int .i64 0, .int .i64 0, .int .i64 0, .int .i64 0, .int .i64 0] : List Value)[i]? = some (.int .i64 0) := fun i hi => by
    have : i = 0 ∨ i = 1 ∨ i = 2 ∨ i = 3 ∨ i = 4 := by omega
    rcases this with rfl | rfl | rfl | rfl | rfl <;> rfl
  have e5 : fl ≤ A.next + 7 := by omega
  have b3 : A.next + 3 < B.next := by omega
  refine call_of (me _ _ _ _ (hb0 _ _ hB0) (hbQ _ _ hB2)) ?_
  simp only [↓R1, R2, R3, R4, TY, reduceIte, Nat.reduceEqDiff, Nat.reduceAdd, Nat.reduceMul, Nat.reduceLT, Nat.reduceLeDiff, reduceCtorEq, decide_true, decide_false, Int.reduceLE, Int.reduceLT, Int.reduceToNat, Int.reduceAdd, Int.reduceSub, Int.reduceMul, Int.reduceEq, hfl, hfl1, hfl2, hfl3, hfl4, hfl5, hfl6, NE, NE9, Nat.add_assoc, hBn]
  refine call_of (s1 _ _ _ _ (hb0 _ _ hB0) (hbQ _ _ hB2)) ?_
  simp only [↓R1, R2, R3, R4, TY, reduceIte, Nat.reduceEqDiff, Nat.reduceAdd, Nat.reduceMul, Nat.reduceLT, Nat.reduceLeDiff, reduceCtorEq, decide_true, decide_false, Int.reduceLE, Int.reduceLT, Int.reduceToNat, Int.reduceAdd, Int.reduceSub, Int.reduceMul, Int.reduceEq, hfl, hfl1, hfl2, hfl3, hfl4, hfl5, hfl6, NE, NE9, Nat.add_assoc, hBn]
  refine call_of (s2 _ _ _ _ (hbQ _ _ ?_) (hb0 _ _ ?_)) ?_
  · simp [Hp.put_blk, Hp.push_blk, hBn, Nat.add_assoc, hB2]
  · simp [Hp.put_blk, Hp.push_blk, hBn, Nat.add_assoc, hB0]
  simp only [↓R1, R2, R3, R4, TY, reduceIte, Nat.reduceEqDiff, Nat.reduceAdd, Nat.reduceMul, Nat.reduceLT, Nat.reduceLeDiff, reduceCtorEq, decide_true, decide_false, Int.reduceLE, Int.reduceLT, Int.reduceToNat, Int.reduceAdd, Int.reduceSub, Int.reduceMul, Int.reduceEq, hfl, hfl1, hfl2, hfl3, hfl4, hfl5, hfl6, NE, NE9, Nat.add_assoc, hBn]
  refine call_of (em _ _ _ _ (hbQ _ _ ?_) (hb0 _ _ ?_)) ?_
  · simp [Hp.put_blk, Hp.push_blk, hBn, Nat.add_assoc, hB2]
  · simp [Hp.put_blk, Hp.push_blk, hBn, Nat.add_assoc, hB0]
  simp only [↓R1, R2, R3, R4, TY, reduceIte, Nat.reduceEqDiff, Nat.reduceAdd, Nat.reduceMul, Nat.reduceLT, Nat.reduceLeDiff, reduceCtorEq, decide_true, decide_false, Int.reduceLE, Int.reduceLT, Int.reduceToNat, Int.reduceAdd, Int.reduceSub, Int.reduceMul, Int.reduceEq, hfl, hfl1, hfl2, hfl3, hfl4, hfl5, hfl6, NE, NE9, Nat.add_assoc, hBn, gF, b3]
  refine call_of (l2 _ _ _ (hb0 _ _ ?_)) ?_
  · simp [Hp.put_blk, Hp.push_blk, hBn, Nat.add_assoc, hB0]
  simp only [↓R1, R2, R3, R4, TY, reduceIte, Nat.reduceEqDiff, Nat.reduceAdd, Nat.reduceMul, Nat.reduceLT, Nat.reduceLeDiff, reduceCtorEq, decide_true, decide_false, Int.reduceLE, Int.reduceLT, Int.reduceToNat, Int.reduceAdd, Int.reduceSub, Int.reduceMul, Int.reduceEq, hfl, hfl1, hfl2, hfl3, hfl4, hfl5, hfl6, NE, NE9, Nat.add_assoc, hBn, gF, b3]
  refine call_of (l3 _ _ _ (hbQ _ _ ?_)) ?_
  · simp [Hp.put_blk, Hp.push_blk, hBn, Nat.add_assoc, hB2]
  simp only [↓R1, R2, R3, R4, TY, reduceIte, Nat.reduceEqDiff, Nat.reduceAdd, Nat.reduceMul, Nat.reduceLT, Nat.reduceLeDiff, reduceCtorEq, decide_true, decide_false, Int.reduceLE, Int.reduceLT, Int.reduceToNat, Int.reduceAdd, Int.reduceSub, Int.reduceMul, Int.reduceEq, hfl, hfl1, hfl2, hfl3, hfl4, hfl5, hfl6, NE, NE9, Nat.add_assoc, hBn, gF, b3]
  refine call_of (s3 _ _ _ _ (hbP' _ _ ?_) (hbQ' _ _ ?_)) ?_
  · simp [Hp.put_blk, Hp.push_blk, hBn, Nat.add_assoc]
  · simp [Hp.put_blk, Hp.push_blk, hBn, Nat.add_assoc]
  simp only [↓R1, R2, R3, R4, TY, reduceIte, Nat.reduceEqDiff, Nat.reduceAdd, Nat.reduceMul, Nat.reduceLT, Nat.reduceLeDiff, reduceCtorEq, decide_true, decide_false, Int.reduceLE, Int.reduceLT, Int.reduceToNat, Int.reduceAdd, Int.reduceSub, Int.reduceMul, Int.reduceEq, hfl, hfl1, hfl2, hfl3, hfl4, hfl5, hfl6, NE, NE9, Nat.add_assoc, hBn, gF, b3, e5]
  rw [floOf_wr (by kernel_rfl)]
  simp only [↓R1, R2, R3, R4, TY, reduceIte, Nat.reduceEqDiff, Nat.reduceAdd, Nat.reduceMul, Nat.reduceLT, Nat.reduceLeDiff, reduceCtorEq, decide_true, decide_false, Int.reduceLE, Int.reduceLT, Int.reduceToNat, Int.reduceAdd, Int.reduceSub, Int.reduceMul, Int.reduceEq, hfl, hfl1, hfl2, hfl3, hfl4, hfl5, hfl6, NE, NE9, Nat.add_assoc, hBn, gF, b3, e5]
  have z5 : zl [Value.int IntKind.i64 0] 5 = [Value.int .i64 0, .int .i64 0, .int .i64 0, .int .i64 0, .int .i64 0] := rfl
  simp only [↓R1, R2, R3, R4, TY, reduceIte, Nat.reduceEqDiff, Nat.reduceAdd, Nat.reduceMul, Nat.reduceLT, Nat.reduceLeDiff, reduceCtorEq, decide_true, decide_false, Int.reduceLE, Int.reduceLT, Int.reduceToNat, Int.reduceAdd, Int.reduceSub, Int.reduceMul, Int.reduceEq, hfl, hfl1, hfl2, hfl3, hfl4, hfl5, hfl6, NE, NE9, Nat.add_assoc, hBn, z5]
  generalize hE : Hp.push _ _ = E
  have hEx : Xt A.next A E := by
    rw [← hE]
    simp (maxDischargeDepth := 20) only [xt_push, xt_put, hBx, Nat.le_refl, Nat.le_add_right, Nat.add_assoc, Nat.reduceAdd]
  have hEn : E.next = A.next + 10 := by rw [← hE]; simp only [Hp.put_next, Hp.push_next, hBn, Nat.add_assoc, Nat.reduceAdd]
  have d4 : ∀ i, E.get G ⟨A.next + 4, i, some 0⟩ = ([.bool (decide (dd.num < 0)), .string (S (nb dd.num.natAbs)), .string (S (nb dd.den))] : List Value)[i]? := fun i => by
    rw [← hE]; simp [Hp.get, Hp.put_blk, Hp.push_blk, hBn, Nat.add_assoc]
  have d5 : ∀ i, E.get G ⟨A.next + 5, i, some 0⟩ = ([.bool (decide (dd.num < 0)), .string (S (nb dd.num.natAbs)), .string (S (nb dd.den))] : List Value)[i]? := fun i => by
    rw [← hE]; simp [Hp.get, Hp.put_blk, Hp.push_blk, hBn, Nat.add_assoc]
  have d8 : ∀ i, E.get G ⟨A.next + 8, i, some 0⟩ = ([.bool (decide (dd.num < 0)), .string (S (nb dd.num.natAbs)), .string (S (nb dd.den))] : List Value)[i]? := fun i => by
    rw [← hE]; simp [Hp.get, Hp.put_blk, Hp.push_blk, hBn, Nat.add_assoc]
  have d9 : ∀ i, E.get G ⟨A.next + 9, i, some 0⟩ = ([Value.int .i64 0, .int .i64 0, .int .i64 0, .int .i64 0, .int .i64 0] : List Value)[i]? := fun i => by
    rw [← hE]; simp [Hp.get, Hp.put_blk, Hp.push_blk, hBn, Nat.add_assoc]
  clear hE
  refine range_of 87 5 (fun i τ C => C = E ∧ τ 18 = some (.bool mu) ∧ τ 20 = some (.pointer (some ⟨A.next + 4, 0, some 0⟩)) ∧ τ 22 = some (.pointer (some ⟨A.next + 5, 0, some 0⟩)) ∧ τ 24 = some (.bool mu) ∧ τ 26 = some (.pointer (some ⟨A.next + 8, 0, some 0⟩)) ∧
    τ 85 = some (.slice (some ⟨A.next + 9, 0, some 0⟩) 5 5) ∧ τ 86 = some (.int .i64 5) ∧ τ 87 = some (.int .i64 (i : Nat))) ?_ ?_
  · exact ⟨rfl, rfl, rfl, rfl, rfl, rfl, rfl, rfl, rfl⟩
  rintro i τ C hi ⟨rfl, q18, q20, q22, q24, q26, q85, q86, q87⟩
  have c5 : (((i : Nat) : Int) < 5) = (i < 5) := by simp only [eq_iff_iff]; omega
  have hi63 : i < 9223372036854775807 := by omega
  simp only [↓R1, R2, R3, R4, TY, reduceIte, Nat.reduceEqDiff, Nat.reduceAdd, Nat.reduceMul, Nat.reduceLT, Nat.reduceLeDiff, reduceCtorEq, decide_true, decide_false, Int.reduceLE, Int.reduceLT, Int.reduceToNat, Int.reduceAdd, Int.reduceSub, Int.reduceMul, Int.reduceEq, q18, q20, q22, q24, q26, q85, q86, q87, c5]
  refine ⟨fun hlt => ?_, fun hlt => ?_⟩
  · have hlt2 : i < 5 := hlt
    simp only [↓R1, R2, R3, R4, TY, reduceIte, Nat.reduceEqDiff, Nat.reduceAdd, Nat.reduceMul, Nat.reduceLT, Nat.reduceLeDiff, reduceCtorEq, decide_true, decide_false, Int.reduceLE, Int.reduceLT, Int.reduceToNat, Int.reduceAdd, Int.reduceSub, Int.reduceMul, Int.reduceEq, q18, q20, q22, q24, q26, q85, q86, q87, hlt2, d9, i0 i hlt2, hi63]
    exact range_on q87 hlt rfl ⟨rfl, q18, q20, q22, q24, q26, q85, q86, rfl⟩
  · have g4 : A.next + 4 < C.next := by omega
    have hflC : fl ≤ C.next := by omega
    rw [beq_self_eq_true]
    simp only [↓R1, R2, R3, R4, TY, reduceIte, Nat.reduceEqDiff, Nat.reduceAdd, Nat.reduceMul, Nat.reduceLT, Nat.reduceLeDiff, reduceCtorEq, decide_true, decide_false, Int.reduceLE, Int.reduceLT, Int.reduceToNat, Int.reduceAdd, Int.reduceSub, Int.reduceMul, Int.reduceEq, q18, q20, q22, q24, q26, d4, d5, d8, hfl, hfl1, hfl2, hfl3, hfl4, hfl5, hfl6, NE, NE9, Nat.add_assoc]
    refine call_of (sg _ _) ?_
    simp only [↓R1, R2, R3, R4, TY, reduceIte, Nat.reduceEqDiff, Nat.reduceAdd, Nat.reduceMul, Nat.reduceLT, Nat.reduceLeDiff, reduceCtorEq, decide_true, decide_false, Int.reduceLE, Int.reduceLT, Int.reduceToNat, Int.reduceAdd, Int.reduceSub, Int.reduceMul, Int.reduceEq, q18, q20, q22, q24, q26, d4, d5, d8, e1, e2', e2'', hfl, hfl1, hfl2, hfl3, hfl4, hfl5, hfl6, NE, NE9, Nat.add_assoc]
    refine call_of (sg _ _) ?_
    simp only [↓R1, R2, R3, R4, TY, reduceIte, Nat.reduceEqDiff, Nat.reduceAdd, Nat.reduceMul, Nat.reduceLT, Nat.reduceLeDiff, reduceCtorEq, decide_true, decide_false, Int.reduceLE, Int.reduceLT, Int.reduceToNat, Int.reduceAdd, Int.reduceSub, Int.reduceMul, Int.reduceEq, q18, q20, q22, q24, q26, d4, d5, d8, e1, e2', e2'', hd, guard_rat, hfl, hfl1, hfl2, hfl3, hfl4, hfl5, hfl6, NE, NE9, Nat.add_assoc]
    exact Ended.back hA hEx rfl (RB.bool _)

theorem apartMoves_calls {v w : Value} {xs ys : List Int} {x1 x2 x3 x4 x5 : Int} (hG : G 1 = some tabV) (hx : In64 xs) (hs : Sl A 1 v (xs.map iC)) (hl : xs.length ≤ 9223372036854775807) (hy : In64 ys) (ht : Sl A 1 w (ys.map iC)) (hm : ys.length ≤ 9223372036854775807) (k1 : -9223372036854775808 ≤ x1 ∧ x1 ≤ 9223372036854775807) (k2 : -9223372036854775808 ≤ x2 ∧ x2 ≤ 9223372036854775807) (k3 : -9223372036854775808 ≤ x3 ∧ x3 ≤ 9223372036854775807) (k4 : -9223372036854775808 ≤ x4 ∧ x4 ≤ 9223372036854775807) (k5 : -9223372036854775808 ≤ x5 ∧ x5 ≤ 9223372036854775807) :
    ∀ (μ : Mu) (W : World) (args' : Array Value), HR G μ fl A W → fl ≤ A.next → VRa μ A [v, w, .int .i64 x1, .int .i64 x2, .int .i64 x3, .int .i64 x4, .int .i64 x5].toArray args' →
    Calls Tryd.prog 5 args' W fun e w' => ∃ u, e = .returned u ∧ ∃ ν, VR ν A (.bool true) u ∧ HR G ν fl A w' ∧ Trans fl μ A W ν A w' :=
  Sound.calls Tryd.func5 (by kernel_rfl) (by kernel_rfl) (apartMoves_ok hG hx hs hl hy ht hm k1 k2 k3 k4 k5)

end
end Go.Proofs.YthclikeipdplpaaDoor.Ab
