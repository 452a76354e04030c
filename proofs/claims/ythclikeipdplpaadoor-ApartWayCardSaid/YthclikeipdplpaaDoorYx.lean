/- gantkeep1.ApartWay returns true for every input. -/
import Derived.Test.YthclikeipdplpaaDoorYw
namespace Go.Proofs.YthclikeipdplpaaDoor.Ab
open Go.RowKit
set_option linter.unusedVariables false
set_option linter.unusedSimpArgs false
set_option maxRecDepth 100000

theorem sqv_le {a b : List V2} (a3 : 3 ≤ a.length) (b3 : 3 ≤ b.length) {i k : Nat} (hi : i < a.length) (hk : k < b.length) : sqv a b ≤ teS (pget b k) (pget a i) := by
  have hS : 0 ≤ teS (pget b k) (pget a i) := by
    have x := sq_nonneg' ((pget a i).1 - (pget b k).1)
    have y := sq_nonneg' ((pget a i).2 - (pget b k).2)
    unfold teS; grind
  unfold sqv
  split
  · exact hS
  · have h1 := Rat.le_trans (sq2_le1 (a := a) (b := b) b.length) (sq1_le a.length i hi)
    have h2 := near_le' (p := pget a i) (l := b) b.length k hk
    have on : On (pget b k) (pget b k) (pget b ((k + 1) % b.length)) := ⟨0, Rat.le_refl, by decide, by grind, by grind⟩
    have h3 := te_le (p := pget a i) on
    grind
theorem sqv_way {a b : List V2} {w : V2} (ca : Cvx a) (cb : Cvx b) (a3 : 3 ≤ a.length) (b3 : 3 ≤ b.length) (hm : meetB a (b.map (mv w.1 w.2 (some 0))) = true) : sqv a b ≤ w.1 * w.1 + w.2 * w.2 := by
  have hw : 0 ≤ w.1 * w.1 + w.2 * w.2 := by
    have x := sq_nonneg' w.1
    have y := sq_nonneg' w.2
    grind
  have no : ∀ x y : List V2, meetB x y = true ↔ ¬ (Bey x y ∨ Bey y x) := fun x y => by
    unfold meetB
    rw [Bool.and_eq_true, Bool.not_eq_true', Bool.not_eq_true', ← bidx_bey, ← bidx_bey]
    cases (bidx x y).isSome <;> cases (bidx y x).isSome <;> simp
  unfold sqv
  split
  · exact hw
  · rename_i h0
    refine way_far ca cb a3 b3 ?_ ((no _ _).1 hm)
    exact Classical.not_not.1 fun h => h0 ((no a b).2 h)

section
variable {G : Gl} {fl : Nat} {A : Hp}

set_option maxHeartbeats 16000000 in
theorem apartWay_ok {v w : Value} {xs ys : List Int} {x1 x2 x3 x4 x5 x6 : Int} (hG : G 1 = some tabV) (hx : In64 xs) (hs : Sl A 1 v (xs.map iC)) (hl : xs.length ≤ 9223372036854775807) (hy : In64 ys) (ht : Sl A 1 w (ys.map iC)) (hm : ys.length ≤ 9223372036854775807) (k1 : -9223372036854775808 ≤ x1 ∧ x1 ≤ 9223372036854775807) (k2 : -9223372036854775808 ≤ x2 ∧ x2 ≤ 9223372036854775807) (k3 : -9223372036854775808 ≤ x3 ∧ x3 ≤ 9223372036854775807) (k4 : -9223372036854775808 ≤ x4 ∧ x4 ≤ 9223372036854775807) (k5 : -9223372036854775808 ≤ x5 ∧ x5 ≤ 9223372036854775807) (k6 : -9223372036854775808 ≤ x6 ∧ x6 ≤ 9223372036854775807) :
    Sound Tryd.prog G 6 [v, w, .int .i64 x1, .int .i64 x2, .int .i64 x3, .int .i64 x4, .int .i64 x5, .int .i64 x6] fl A (.bool true) A := by
  refine Sound.of mixed Tryd.func6 Tryd.ntmps6 Tryd.results6 (by kernel_rfl) rfl (by kernel_rfl) (by simp) fun hA => ?_
  have hfl : fl ≤ A.next := by have := hA.floor; omega
  have hfl1 : fl ≤ A.next + 1 := by have := hA.floor; omega
  have hfl2 : fl ≤ A.next + 2 := by have := hA.floor; omega
  have hfl3 : fl ≤ A.next + 3 := by have := hA.floor; omega
  have hfl4 : fl ≤ A.next + 4 := by have := hA.floor; omega
  have hfl5 : fl ≤ A.next + 5 := by have := hA.floor; omega
  have hfl6 : fl ≤ A.next + 6 := by have := hA.floor; omega
  have bg := fun fl A => apartBegun_ok (G := G) (fl := fl) (A := A) hG
  have mp := fun fl A hs => mpolyS (G := G) (fl := fl) (A := A) (v := v) hx hs hl
  have mq := fun fl A ht => mpolyS (G := G) (fl := fl) (A := A) (v := w) hy ht hm
  have fr := fun fl A => framed_ok (G := G) (fl := fl) (A := A) hG k1 k2 k3
  have ve := fun fl A => vector_ok (G := G) (fl := fl) (A := A) hG k3 k4
  have hP := mpoly_ok xs
  have hM := mpoly_ok ys
  have hf : Fz (mrat x1) (mrat x2) (trn x3) 1 1 := ⟨mrat_rz x1, mrat_rz x2, trn_rz x3⟩
  have hw : Pz (mrat x3, mrat x4) 1 := ⟨mrat_rz x3, mrat_rz x4⟩
  generalize mpoly xs = P at *
  generalize mpoly ys = M at *
  generalize mrat x1 = X at *
  generalize mrat x2 = Y at *
  generalize trn x3 = T at *
  generalize mrat x3 = U at *
  generalize mrat x4 = W at *
  have p3 := hP.len3
  have p5 := hP.len5
  have m3 := hM.len3
  have m5 := hM.len5
  have zQ := hM.z.mv hf
  have cQ := hM.mv X Y T
  have q64 : pchk (M.map (mv X Y T)) 64 = 0 := by rw [pchk_mv]; exact hM.c64
  have lQ : (M.map (mv X Y T)).length = M.length := by simp
  have l1 := fun fl (A : Hp) v (hs : Sl A 6 v (M.map vC)) => flistn (G := G) (fl := fl) (A := A) hG hf hM.z hs (by omega) (by omega)
  rw [← lQ] at l1 m3 m5
  generalize hQe : M.map (mv X Y T) = Q at *
  have zP21 : Lz P 21 := fun p hp => ⟨(hP.z p hp).1.mono (by omega), (hP.z p hp).2.mono (by omega)⟩
  have zP30 : Lz P 30 := fun p hp => ⟨(hP.z p hp).1.mono (by omega), (hP.z p hp).2.mono (by omega)⟩
  have c64 := hP.c64
  have s1 := fun fl (A : Hp) va vb ha hb => sq_ok (G := G) (fl := fl) (A := A) (va := va) (vb := vb) hG ha hb zP21 zQ (by omega) c64 q64
  have l2 := fun fl (A : Hp) v (hs : Sl A 6 v (Q.map vC)) => flistZ (G := G) (fl := fl) (A := A) hG hw.1 hw.2 zQ hs (by omega) (by omega)
  have zQ2 : Lz (Q.map (mv U W (some 0))) 30 := fun p hp => by
    obtain ⟨q, hq, rfl⟩ := List.mem_map.1 hp
    rw [mv0]
    exact ⟨(hw.1.add (zQ q hq).1).mono (by omega), (hw.2.add (zQ q hq).2).mono (by omega)⟩
  have q264 : pchk (Q.map (mv U W (some 0))) 64 = 0 := by rw [pchk_mv]; exact q64
  have me := fun fl (A : Hp) va vb ha hb => meet_ok (G := G) (fl := fl) (A := A) (va := va) (vb := vb) hG ha hb zP30 zQ2 (by omega) c64 q264
  have r5 := below_range (x := x5) (n := ((P.length : Nat) : Int)) (by omega)
  have r6 := below_range (x := x6) (n := ((Q.length : Nat) : Int)) (by omega)
  have b5 := fun fl A => below_ok (G := G) (fl := fl) (A := A) (x := x5) (n := ((P.length : Nat) : Int)) (by omega) (by omega) k5.1 k5.2
  have b6 := fun fl A => below_ok (G := G) (fl := fl) (A := A) (x := x6) (n := ((Q.length : Nat) : Int)) (by omega) (by omega) k6.1 k6.2
  obtain ⟨i, hi⟩ := Int.eq_ofNat_of_zero_le r5.1
  obtain ⟨k, hk⟩ := Int.eq_ofNat_of_zero_le r6.1
  rw [hi] at b5 r5
  rw [hk] at b6 r6
  have hil : i < P.length := by omega
  have hkq : k < Q.length := by omega
  have zi := zP21.at hil
  have zk := zQ.at hkq
  have sb := fun fl A => vsub (G := G) (fl := fl) (A := A) hG zi.1 zi.2 zk.1 zk.2 (by omega)
  have zd := zi.sub zk
  have dw := fun fl A => vdot (G := G) (fl := fl) (A := A) hG zd.1 zd.2 zd.1 zd.2 (by omega)
  have dv := fun fl A => vdot (G := G) (fl := fl) (A := A) hG hw.1 hw.2 hw.1 hw.2 (by omega)
  have zsq := rz_sqv zP21 zQ (by omega) (by omega)
  have cm1 := fun fl A => qcmp (G := G) (fl := fl) (A := A) hG zsq ((zd.1.mul zd.1).add (zd.2.mul zd.2)) (by omega)
  have cm2 := fun fl A => qcmp (G := G) (fl := fl) (A := A) hG (rz_dt hw hw) zsq (by omega)
  have hle := sqv_le (a := P) (b := Q) p3 m3 hil hkq
  have ete : teS (pget Q k) (pget P i) = ((pget P i).1 - (pget Q k).1) * ((pget P i).1 - (pget Q k).1) + ((pget P i).2 - (pget Q k).2) * ((pget P i).2 - (pget Q k).2) := rfl
  rw [ete] at hle
  have j1 : (rcmp (sqv P Q) (((pget P i).1 - (pget Q k).1) * ((pget P i).1 - (pget Q k).1) + ((pget P i).2 - (pget Q k).2) * ((pget P i).2 - (pget Q k).2)) ≤ 0) = True := eq_true (rcmp_le_iff.2 hle)
  have hway : ¬ sqv P Q ≤ U * U + W * W → meetB P (Q.map (mv U W (some 0))) = false := fun h => by
    cases hmm : meetB P (Q.map (mv U W (some 0))) with
    | true => exact absurd (sqv_way (w := (U, W)) hP.cvx cQ p3 m3 hmm) h
    | false => rfl
  have j2 : (rcmp (U * U + W * W) (sqv P Q) ≥ 0) = (sqv P Q ≤ U * U + W * W) := rcmp_ge'
  have j3 : (0 ≤ rcmp (U * U + W * W) (sqv P Q)) = (sqv P Q ≤ U * U + W * W) := j2
  generalize hgm : meetB P (Q.map (mv U W (some 0))) = mu at *
  generalize sqv P Q = dd at *
  have hb0 := fun B id => sl_at (B := B) (id := id) (l := P)
  have hbM := fun B id => sl_at (B := B) (id := id) (l := M)
  have hbQ := fun B id => sl_at (B := B) (id := id) (l := Q)
  have hb2 := fun B id => sl_at (B := B) (id := id) (l := Q.map (mv U W (some 0)))
  rw [List.length_map] at hb2
  generalize Q.map (mv U W (some 0)) = Q2 at *
  have hkl : k < M.length := by omega
  rw [lQ] at l1 hbQ l2 hb2 b6
  simp only [frV_def] at fr l1
  simp only [fZ_def] at l2
  simp only [prV_def] at ve sb dw dv
  simp only [ratV_def] at s1 dw dv cm1 cm2
  simp only [↓R1, R2, R3, R4, TY, reduceIte, Nat.reduceEqDiff, Nat.reduceAdd, Nat.reduceMul, Nat.reduceLT, Nat.reduceLeDiff, reduceCtorEq, decide_true, decide_false, Int.reduceLE, Int.reduceLT, Int.reduceToNat, Int.reduceAdd, Int.reduceSub, Int.reduceMul, Int.reduceEq, hfl, hfl1, hfl2, hfl3, hfl4, hfl5, hfl6, NE, NE9, Nat.add_assoc]
  refine call_of (bg _ _) ?_
  simp only [↓R1, R2, R3, R4, TY, reduceIte, Nat.reduceEqDiff, Nat.reduceAdd, Nat.reduceMul, Nat.reduceLT, Nat.reduceLeDiff, reduceCtorEq, decide_true, decide_false, Int.reduceLE, Int.reduceLT, Int.reduceToNat, Int.reduceAdd, Int.reduceSub, Int.reduceMul, Int.reduceEq, hfl, hfl1, hfl2, hfl3, hfl4, hfl5, hfl6, NE, NE9, Nat.add_assoc]
  refine call_of (mp _ _ hs) ?_
  simp only [↓R1, R2, R3, R4, TY, reduceIte, Nat.reduceEqDiff, Nat.reduceAdd, Nat.reduceMul, Nat.reduceLT, Nat.reduceLeDiff, reduceCtorEq, decide_true, decide_false, Int.reduceLE, Int.reduceLT, Int.reduceToNat, Int.reduceAdd, Int.reduceSub, Int.reduceMul, Int.reduceEq, hfl, hfl1, hfl2, hfl3, hfl4, hfl5, hfl6, NE, NE9, Nat.add_assoc]
  refine call_of (fr _ _) ?_
  simp only [↓R1, R2, R3, R4, TY, reduceIte, Nat.reduceEqDiff, Nat.reduceAdd, Nat.reduceMul, Nat.reduceLT, Nat.reduceLeDiff, reduceCtorEq, decide_true, decide_false, Int.reduceLE, Int.reduceLT, Int.reduceToNat, Int.reduceAdd, Int.reduceSub, Int.reduceMul, Int.reduceEq, hfl, hfl1, hfl2, hfl3, hfl4, hfl5, hfl6, NE, NE9, Nat.add_assoc]
  refine call_of (mq _ _ (ht.xt hA ((Xt.refl A).push _))) ?_
  simp only [↓R1, R2, R3, R4, TY, reduceIte, Nat.reduceEqDiff, Nat.reduceAdd, Nat.reduceMul, Nat.reduceLT, Nat.reduceLeDiff, reduceCtorEq, decide_true, decide_false, Int.reduceLE, Int.reduceLT, Int.reduceToNat, Int.reduceAdd, Int.reduceSub, Int.reduceMul, Int.reduceEq, hfl, hfl1, hfl2, hfl3, hfl4, hfl5, hfl6, NE, NE9, Nat.add_assoc]
  refine call_of (l1 _ _ _ (hbM _ _ (push_at rfl))) ?_
  generalize hB : Hp.push (Hp.push (Hp.push A _) _) _ = B
  have hBx : Xt A.next A B := by
    rw [← hB]
    simp (maxDischargeDepth := 20) only [xt_push, xt_put, xt_refl, Nat.le_refl, Nat.le_add_right, Nat.add_assoc, Nat.reduceAdd]
  have hBn : B.next = A.next + 3 := by rw [← hB]; rfl
  have hB0 : B.blk A.next = some (.row (P.map vC).flatten 0 6) := by
    rw [← hB]; simp [Hp.push_blk, Nat.add_assoc]
  have hB2 : B.blk (A.next + 2) = some (.row (Q.map vC).flatten 0 6) := by
    rw [← hB]; simp [Hp.push_blk, Nat.add_assoc]
  clear hB
  obtain ⟨u0, u1, u2, u3, u4, u5⟩ := vec_get (G := G) (hb0 B _ hB0) hil
  obtain ⟨v0, v1, v2, v3, v4, v5⟩ := vec_get (G := G) (hbQ B _ hB2) hkq
  simp only [aadd_mk, Nat.zero_add] at u0 u1 u2 u3 u4 u5 v0 v1 v2 v3 v4 v5
  have e0 : A.next < B.next := by omega
  have e2 : A.next + 2 < B.next := by omega
  have f0 : (A.next = A.next + 3) = False := eq_false (by omega)
  have f2 : (A.next + 2 = A.next + 3) = False := eq_false (by omega)
  simp only [↓R1, R2, R3, R4, TY, reduceIte, Nat.reduceEqDiff, Nat.reduceAdd, Nat.reduceMul, Nat.reduceLT, Nat.reduceLeDiff, reduceCtorEq, decide_true, decide_false, Int.reduceLE, Int.reduceLT, Int.reduceToNat, Int.reduceAdd, Int.reduceSub, Int.reduceMul, Int.reduceEq, hfl, hfl1, hfl2, hfl3, hfl4, hfl5, hfl6, NE, NE9, Nat.add_assoc]
  refine call_of (s1 _ _ _ _ (hb0 _ _ hB0) (hbQ _ _ hB2)) ?_
  simp only [↓R1, R2, R3, R4, TY, reduceIte, Nat.reduceEqDiff, Nat.reduceAdd, Nat.reduceMul, Nat.reduceLT, Nat.reduceLeDiff, reduceCtorEq, decide_true, decide_false, Int.reduceLE, Int.reduceLT, Int.reduceToNat, Int.reduceAdd, Int.reduceSub, Int.reduceMul, Int.reduceEq, hfl, hfl1, hfl2, hfl3, hfl4, hfl5, hfl6, NE, NE9, Nat.add_assoc, hBn]
  refine call_of (b5 _ _) ?_
  simp only [↓R1, R2, R3, R4, TY, reduceIte, Nat.reduceEqDiff, Nat.reduceAdd, Nat.reduceMul, Nat.reduceLT, Nat.reduceLeDiff, reduceCtorEq, decide_true, decide_false, Int.reduceLE, Int.reduceLT, Int.reduceToNat, Int.reduceAdd, Int.reduceSub, Int.reduceMul, Int.reduceEq, hfl, hfl1, hfl2, hfl3, hfl4, hfl5, hfl6, NE, NE9, Nat.add_assoc, hBn, hil, u0, u1, u2, u3, u4, u5, e0, f0]
  refine call_of (b6 _ _) ?_
  simp only [↓R1, R2, R3, R4, TY, reduceIte, Nat.reduceEqDiff, Nat.reduceAdd, Nat.reduceMul, Nat.reduceLT, Nat.reduceLeDiff, reduceCtorEq, decide_true, decide_false, Int.reduceLE, Int.reduceLT, Int.reduceToNat, Int.reduceAdd, Int.reduceSub, Int.reduceMul, Int.reduceEq, hfl, hfl1, hfl2, hfl3, hfl4, hfl5, hfl6, NE, NE9, Nat.add_assoc, hBn, hkl, v0, v1, v2, v3, v4, v5, e2, f2]
  refine call_of (sb _ _) ?_
  simp only [↓R1, R2, R3, R4, TY, reduceIte, Nat.reduceEqDiff, Nat.reduceAdd, Nat.reduceMul, Nat.reduceLT, Nat.reduceLeDiff, reduceCtorEq, decide_true, decide_false, Int.reduceLE, Int.reduceLT, Int.reduceToNat, Int.reduceAdd, Int.reduceSub, Int.reduceMul, Int.reduceEq, hfl, hfl1, hfl2, hfl3, hfl4, hfl5, hfl6, NE, NE9, Nat.add_assoc, hBn]
  rw [floOf_wr (by kernel_rfl)]
  simp only [↓R1, R2, R3, R4, TY, reduceIte, Nat.reduceEqDiff, Nat.reduceAdd, Nat.reduceMul, Nat.reduceLT, Nat.reduceLeDiff, reduceCtorEq, decide_true, decide_false, Int.reduceLE, Int.reduceLT, Int.reduceToNat, Int.reduceAdd, Int.reduceSub, Int.reduceMul, Int.reduceEq, hfl, hfl1, hfl2, hfl3, hfl4, hfl5, hfl6, NE, NE9, Nat.add_assoc, hBn]
  refine call_of (ve _ _) ?_
  simp only [↓R1, R2, R3, R4, TY, reduceIte, Nat.reduceEqDiff, Nat.reduceAdd, Nat.reduceMul, Nat.reduceLT, Nat.reduceLeDiff, reduceCtorEq, decide_true, decide_false, Int.reduceLE, Int.reduceLT, Int.reduceToNat, Int.reduceAdd, Int.reduceSub, Int.reduceMul, Int.reduceEq, hfl, hfl1, hfl2, hfl3, hfl4, hfl5, hfl6, NE, NE9, Nat.add_assoc, hBn]
  refine call_of (l2 _ _ _ (hbQ _ _ ?_)) ?_
  · simp [Hp.put_blk, Hp.push_blk, hBn, Nat.add_assoc, hB2]
  simp only [↓R1, R2, R3, R4, TY, reduceIte, Nat.reduceEqDiff, Nat.reduceAdd, Nat.reduceMul, Nat.reduceLT, Nat.reduceLeDiff, reduceCtorEq, decide_true, decide_false, Int.reduceLE, Int.reduceLT, Int.reduceToNat, Int.reduceAdd, Int.reduceSub, Int.reduceMul, Int.reduceEq, hfl, hfl1, hfl2, hfl3, hfl4, hfl5, hfl6, NE, NE9, Nat.add_assoc, hBn]
  refine call_of (me _ _ _ _ (hb0 _ _ ?_) (hb2 _ _ ?_)) ?_
  · simp [Hp.put_blk, Hp.push_blk, hBn, Nat.add_assoc, hB0]
  · simp [Hp.put_blk, Hp.push_blk, hBn, Nat.add_assoc]
  simp only [↓R1, R2, R3, R4, TY, reduceIte, Nat.reduceEqDiff, Nat.reduceAdd, Nat.reduceMul, Nat.reduceLT, Nat.reduceLeDiff, reduceCtorEq, decide_true, decide_false, Int.reduceLE, Int.reduceLT, Int.reduceToNat, Int.reduceAdd, Int.reduceSub, Int.reduceMul, Int.reduceEq, hfl, hfl1, hfl2, hfl3, hfl4, hfl5, hfl6, NE, NE9, Nat.add_assoc, hBn]
  refine call_of (dw _ _) ?_
  simp only [↓R1, R2, R3, R4, TY, reduceIte, Nat.reduceEqDiff, Nat.reduceAdd, Nat.reduceMul, Nat.reduceLT, Nat.reduceLeDiff, reduceCtorEq, decide_true, decide_false, Int.reduceLE, Int.reduceLT, Int.reduceToNat, Int.reduceAdd, Int.reduceSub, Int.reduceMul, Int.reduceEq, hfl, hfl1, hfl2, hfl3, hfl4, hfl5, hfl6, NE, NE9, Nat.add_assoc, hBn]
  refine call_of (cm1 _ _) ?_
  simp only [↓R1, R2, R3, R4, TY, reduceIte, Nat.reduceEqDiff, Nat.reduceAdd, Nat.reduceMul, Nat.reduceLT, Nat.reduceLeDiff, reduceCtorEq, decide_true, decide_false, Int.reduceLE, Int.reduceLT, Int.reduceToNat, Int.reduceAdd, Int.reduceSub, Int.reduceMul, Int.reduceEq, hfl, hfl1, hfl2, hfl3, hfl4, hfl5, hfl6, NE, NE9, Nat.add_assoc, hBn, j1]
  refine call_of (dv _ _) ?_
  simp only [↓R1, R2, R3, R4, TY, reduceIte, Nat.reduceEqDiff, Nat.reduceAdd, Nat.reduceMul, Nat.reduceLT, Nat.reduceLeDiff, reduceCtorEq, decide_true, decide_false, Int.reduceLE, Int.reduceLT, Int.reduceToNat, Int.reduceAdd, Int.reduceSub, Int.reduceMul, Int.reduceEq, hfl, hfl1, hfl2, hfl3, hfl4, hfl5, hfl6, NE, NE9, Nat.add_assoc, hBn]
  refine call_of (cm2 _ _) ?_
  by_cases hge : dd ≤ U * U + W * W
  · have j4 := eq_true hge
    simp only [↓R1, R2, R3, R4, TY, reduceIte, Nat.reduceEqDiff, Nat.reduceAdd, Nat.reduceMul, Nat.reduceLT, Nat.reduceLeDiff, reduceCtorEq, decide_true, decide_false, Int.reduceLE, Int.reduceLT, Int.reduceToNat, Int.reduceAdd, Int.reduceSub, Int.reduceMul, Int.reduceEq, hfl, hfl1, hfl2, hfl3, hfl4, hfl5, hfl6, NE, NE9, Nat.add_assoc, hBn, j2, j3, j4]
    refine Ended.back hA ?_ rfl (RB.bool _)
    simp (maxDischargeDepth := 20) only [xt_push, xt_put, hBx, Nat.le_refl, Nat.le_add_right, Nat.add_assoc, Nat.reduceAdd]
  · have j4 := eq_false hge
    have hmu := hway hge
    simp only [↓R1, R2, R3, R4, TY, reduceIte, Nat.reduceEqDiff, Nat.reduceAdd, Nat.reduceMul, Nat.reduceLT, Nat.reduceLeDiff, reduceCtorEq, decide_true, decide_false, Int.reduceLE, Int.reduceLT, Int.reduceToNat, Int.reduceAdd, Int.reduceSub, Int.reduceMul, Int.reduceEq, hfl, hfl1, hfl2, hfl3, hfl4, hfl5, hfl6, NE, NE9, Nat.add_assoc, hBn, j2, j3, j4, hmu]
    refine Ended.back hA ?_ rfl (RB.bool _)
    simp (maxDischargeDepth := 20) only [xt_push, xt_put, hBx, Nat.le_refl, Nat.le_add_right, Nat.add_assoc, Nat.reduceAdd]

theorem apartWay_calls {v w : Value} {xs ys : List Int} {x1 x2 x3 x4 x5 x6 : Int} (hG : G 1 = some tabV) (hx : In64 xs) (hs : Sl A 1 v (xs.map iC)) (hl : xs.length ≤ 9223372036854775807) (hy : In64 ys) (ht : Sl A 1 w (ys.map iC)) (hm : ys.length ≤ 9223372036854775807) (k1 : -9223372036854775808 ≤ x1 ∧ x1 ≤ 9223372036854775807) (k2 : -9223372036854775808 ≤ x2 ∧ x2 ≤ 9223372036854775807) (k3 : -9223372036854775808 ≤ x3 ∧ x3 ≤ 9223372036854775807) (k4 : -9223372036854775808 ≤ x4 ∧ x4 ≤ 9223372036854775807) (k5 : -9223372036854775808 ≤ x5 ∧ x5 ≤ 9223372036854775807) (k6 : -9223372036854775808 ≤ x6 ∧ x6 ≤ 9223372036854775807) :
    ∀ (μ : Mu) (W : World) (args' : Array Value), HR G μ fl A W → fl ≤ A.next → VRa μ A [v, w, .int .i64 x1, .int .i64 x2, .int .i64 x3, .int .i64 x4, .int .i64 x5, .int .i64 x6].toArray args' →
    Calls Tryd.prog 6 args' W fun e w' => ∃ u, e = .returned u ∧ ∃ ν, VR ν A (.bool true) u ∧ HR G ν fl A w' ∧ Trans fl μ A W ν A w' :=
  Sound.calls Tryd.func6 (by kernel_rfl) (by kernel_rfl) (apartWay_ok hG hx hs hl hy ht hm k1 k2 k3 k4 k5 k6)

end
end Go.Proofs.YthclikeipdplpaaDoor.Ab
