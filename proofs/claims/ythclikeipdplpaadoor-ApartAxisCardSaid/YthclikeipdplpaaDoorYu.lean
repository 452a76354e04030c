/- gantkeep1.ApartAxis returns true for every input. -/
import Derived.Test.YthclikeipdplpaaDoorYt
namespace Go.Proofs.YthclikeipdplpaaDoor.Ab
open Go.RowKit
set_option linter.unusedVariables false
set_option linter.unusedSimpArgs false
set_option maxRecDepth 100000

/-- Two polygons that apart.Axis is asked about: what it answers. -/
theorem axis_cases {G : Gl} {a b : List V2} {k : Nat} (hG : G 1 = some tabV) (za : Lz a k) (zb : Lz b k) (hk : k ≤ 500) (ca : pchk a 64 = 0) (cb : pchk b 64 = 0) :
    (meetB a b = true ∧ ∀ fl A va vb, Sl A 6 va (a.map vC) → Sl A 6 vb (b.map vC) → Sound Tryd.prog G 32 [va, vb] fl A (.tuple [vZ, .int .i64 10].toArray) A) ∨
    (meetB a b = false ∧ ∃ N : V2, Pz N (2 * k + 1) ∧ (∀ i j, i < a.length → j < b.length → dt N (pget a i) < dt N (pget b j)) ∧ ∀ fl A va vb, Sl A 6 va (a.map vC) → Sl A 6 vb (b.map vC) → Sound Tryd.prog G 32 [va, vb] fl A (.tuple [prV N.1 N.2, .int .i64 0].toArray) A) := by
  have xa := (pchk_ok.1 ca).2.2
  have xb := (pchk_ok.1 cb).2.2
  cases h1 : bidx a b with
  | some i =>
    refine .inr ⟨by unfold meetB; rw [h1]; rfl, nrm a i, rz_nrm za (bidx_spec h1).1, fun j k hj hk => nrm_sep xa h1 hj hk, fun fl A va vb ha hb => axis_1 hG ha hb za zb hk ca cb h1⟩
  | none =>
    cases h2 : bidx b a with
    | some i =>
      have zn := rz_nrm zb (bidx_spec h2).1
      refine .inr ⟨by unfold meetB; rw [h1, h2]; rfl, (-(nrm b i).1, -(nrm b i).2), ⟨zn.1.neg, zn.2.neg⟩, fun j k hj hk => ?_, fun fl A va vb ha hb => axis_2 hG ha hb za zb hk ca cb h1 h2⟩
      have := nrm_sep xb h2 hk hj
      rw [dt_neg, dt_neg]; grind
    | none => exact .inl ⟨by unfold meetB; rw [h1, h2]; rfl, fun fl A va vb ha hb => axis_3 hG ha hb za zb hk ca cb h1 h2⟩

section
variable {G : Gl} {fl : Nat} {A : Hp}

set_option maxHeartbeats 16000000 in
theorem apartAxis_ok {v w : Value} {xs ys : List Int} {x1 x2 x3 : Int} (hG : G 1 = some tabV) (hx : In64 xs) (hs : Sl A 1 v (xs.map iC)) (hl : xs.length ≤ 9223372036854775807) (hy : In64 ys) (ht : Sl A 1 w (ys.map iC)) (hm : ys.length ≤ 9223372036854775807) (k1 : -9223372036854775808 ≤ x1 ∧ x1 ≤ 9223372036854775807) (k2 : -9223372036854775808 ≤ x2 ∧ x2 ≤ 9223372036854775807) (k3 : -9223372036854775808 ≤ x3 ∧ x3 ≤ 9223372036854775807) :
    Sound Tryd.prog G 7 [v, w, .int .i64 x1, .int .i64 x2, .int .i64 x3] fl A (.bool true) A := by
  have bg := fun fl A => apartBegun_ok (G := G) (fl := fl) (A := A) hG
  have mp := fun fl A hs => mpolyS (G := G) (fl := fl) (A := A) (v := v) hx hs hl
  have mq := fun fl A ht => mpolyS (G := G) (fl := fl) (A := A) (v := w) hy ht hm
  have fr := fun fl A => framed_ok (G := G) (fl := fl) (A := A) hG k1 k2 k3
  have hP := mpoly_ok xs
  have hM := mpoly_ok ys
  have hf : Fz (mrat x1) (mrat x2) (trn x3) 1 1 := ⟨mrat_rz x1, mrat_rz x2, trn_rz x3⟩
  generalize mpoly xs = P at *
  generalize mpoly ys = M at *
  generalize mrat x1 = X at *
  generalize mrat x2 = Y at *
  generalize trn x3 = T at *
  have p3 := hP.len3
  have p5 := hP.len5
  have m3 := hM.len3
  have m5 := hM.len5
  have zQ := hM.z.mv hf
  have cQ := hM.mv X Y T
  have q64 : pchk (M.map (mv X Y T)) 64 = 0 := by rw [pchk_mv]; exact hM.c64
  have lQ : (M.map (mv X Y T)).length = M.length := by simp
  have l1 := fun fl (A : Hp) v (hs : Sl A 6 v (M.map vC)) => flistn (G := G) (fl := fl) (A := A) hG hf hM.z hs (by omega) (by omega)
  rw [← lQ] at l1 m3 m5
  generalize hQe : M.map (mv X Y T) = Q at *
  have zP21 : Lz P 21 := fun p hp => ⟨(hP.z p hp).1.mono (by omega), (hP.z p hp).2.mono (by omega)⟩
  have c64 := hP.c64
  have me := fun fl (A : Hp) va vb ha hb => meet_ok (G := G) (fl := fl) (A := A) (va := va) (vb := vb) hG ha hb zP21 zQ (by omega) c64 q64
  rcases axis_cases (G := G) (a := P) (b := Q) hG zP21 zQ (by omega) c64 q64 with ⟨hme, ax⟩ | ⟨hme, N, zN, sep, ax⟩
  · rw [hme] at me
    have bx1 := fun fl (A : Hp) v (hs : Sl A 6 v (P.map vC)) => pbox_ok (G := G) (fl := fl) (A := A) hG hs zP21 (by omega) (by omega) (by omega)
    have bx2 := fun fl (A : Hp) v (hs : Sl A 6 v (Q.map vC)) => pbox_ok (G := G) (fl := fl) (A := A) hG hs zQ (by omega) (by omega) (by omega)
    obtain ⟨z1, z2, z3, z4⟩ := rz_bx zP21 (P.length - 1) (by omega)
    obtain ⟨y1, y2, y3, y4⟩ := rz_bx zQ (Q.length - 1) (by omega)
    obtain ⟨⟨t1, t2⟩, ⟨t3, t4⟩⟩ := meet_box hP.cvx cQ p3 m3 hme
    have i1 := bx_in (l := P) (P.length - 1) 0 (by omega)
    have i2 := bx_in (l := Q) (Q.length - 1) 0 (by omega)
    have bs := fun fl A => boxes_ok (G := G) (fl := fl) (A := A) hG z1 z2 z3 z4 y1 y2 y3 y4 (by omega) (Rat.le_trans i1.1.1 i1.1.2) (Rat.le_trans i1.2.1 i1.2.2) (Rat.le_trans i2.1.1 i2.1.2) (Rat.le_trans i2.2.1 i2.2.2) t1 t2 t3 t4
    generalize lo1 P (P.length - 1) = L1 at *
    generalize lo2 P (P.length - 1) = L2 at *
    generalize hi1 P (P.length - 1) = H1 at *
    generalize hi2 P (P.length - 1) = H2 at *
    generalize lo1 Q (Q.length - 1) = L1' at *
    generalize lo2 Q (Q.length - 1) = L2' at *
    generalize hi1 Q (Q.length - 1) = H1' at *
    generalize hi2 Q (Q.length - 1) = H2' at *
    simp only [vZ_def] at ax
    simp only [bxV_def] at bx1 bx2 bs
    have hb0 := fun B id => sl_at (B := B) (id := id) (l := P)
    have hbM := fun B id => sl_at (B := B) (id := id) (l := M)
    have hbQ := fun B id => sl_at (B := B) (id := id) (l := Q)
    rw [lQ] at l1 hbQ
    simp only [frV_def] at fr l1
    refine Sound.of mixed Tryd.func7 Tryd.ntmps7 Tryd.results7 (by kernel_rfl) rfl (by kernel_rfl) (by simp) fun hA => ?_
    have hfl : fl ≤ A.next := by have := hA.floor; omega
    have hfl1 : fl ≤ A.next + 1 := by have := hA.floor; omega
    have hfl2 : fl ≤ A.next + 2 := by have := hA.floor; omega
    have hfl3 : fl ≤ A.next + 3 := by have := hA.floor; omega
    have hfl4 : fl ≤ A.next + 4 := by have := hA.floor; omega
    have hfl5 : fl ≤ A.next + 5 := by have := hA.floor; omega
    have hfl6 : fl ≤ A.next + 6 := by have := hA.floor; omega
    simp only [↓R1, R2, R3, R4, TY, reduceIte, Nat.reduceEqDiff, Nat.reduceAdd, Nat.reduceMul, Nat.reduceLT, Nat.reduceLeDiff, reduceCtorEq, decide_true, decide_false, Int.reduceLE, Int.reduceLT, Int.reduceToNat, Int.reduceAdd, Int.reduceSub, Int.reduceMul, Int.reduceEq, hfl, hfl1, hfl2, hfl3, hfl4, hfl5, hfl6, NE, NE9, Nat.add_assoc]
    refine call_of (bg _ _) ?_
    simp only [↓R1, R2, R3, R4, TY, reduceIte, Nat.reduceEqDiff, Nat.reduceAdd, Nat.reduceMul, Nat.reduceLT, Nat.reduceLeDiff, reduceCtorEq, decide_true, decide_false, Int.reduceLE, Int.reduceLT, Int.reduceToNat, Int.reduceAdd, Int.reduceSub, Int.reduceMul, Int.reduceEq, hfl, hfl1, hfl2, hfl3, hfl4, hfl5, hfl6, NE, NE9, Nat.add_assoc]
    refine call_of (mp _ _ hs) ?_
    simp only [↓R1, R2, R3, R4, TY, reduceIte, Nat.reduceEqDiff, Nat.reduceAdd, Nat.reduceMul, Nat.reduceLT, Nat.reduceLeDiff, reduceCtorEq, decide_true, decide_false, Int.reduceLE, Int.reduceLT, Int.reduceToNat, Int.reduceAdd, Int.reduceSub, Int.reduceMul, Int.reduceEq, hfl, hfl1, hfl2, hfl3, hfl4, hfl5, hfl6, NE, NE9, Nat.add_assoc]
    refine call_of (fr _ _) ?_
    simp only [↓R1, R2, R3, R4, TY, reduceIte, Nat.reduceEqDiff, Nat.reduceAdd, Nat.reduceMul, Nat.reduceLT, Nat.reduceLeDiff, reduceCtorEq, decide_true, decide_false, Int.reduceLE, Int.reduceLT, Int.reduceToNat, Int.reduceAdd, Int.reduceSub, Int.reduceMul, Int.reduceEq, hfl, hfl1, hfl2, hfl3, hfl4, hfl5, hfl6, NE, NE9, Nat.add_assoc]
    refine call_of (mq _ _ (ht.xt hA ((Xt.refl A).push _))) ?_
    simp only [↓R1, R2, R3, R4, TY, reduceIte, Nat.reduceEqDiff, Nat.reduceAdd, Nat.reduceMul, Nat.reduceLT, Nat.reduceLeDiff, reduceCtorEq, decide_true, decide_false, Int.reduceLE, Int.reduceLT, Int.reduceToNat, Int.reduceAdd, Int.reduceSub, Int.reduceMul, Int.reduceEq, hfl, hfl1, hfl2, hfl3, hfl4, hfl5, hfl6, NE, NE9, Nat.add_assoc]
    refine call_of (l1 _ _ _ (hbM _ _ (push_at rfl))) ?_
    generalize hB : Hp.push (Hp.push (Hp.push A _) _) _ = B
    have hBx : Xt A.next A B := by
      rw [← hB]
      simp (maxDischargeDepth := 20) only [xt_push, xt_put, xt_refl, Nat.le_refl, Nat.le_add_right, Nat.add_assoc, Nat.reduceAdd]
    have hBn : B.next = A.next + 3 := by rw [← hB]; rfl
    have hB0 : B.blk A.next = some (.row (P.map vC).flatten 0 6) := by
      rw [← hB]; simp [Hp.push_blk, Nat.add_assoc]
    have hB2 : B.blk (A.next + 2) = some (.row (Q.map vC).flatten 0 6) := by
      rw [← hB]; simp [Hp.push_blk, Nat.add_assoc]
    clear hB
    simp only [↓R1, R2, R3, R4, TY, reduceIte, Nat.reduceEqDiff, Nat.reduceAdd, Nat.reduceMul, Nat.reduceLT, Nat.reduceLeDiff, reduceCtorEq, decide_true, decide_false, Int.reduceLE, Int.reduceLT, Int.reduceToNat, Int.reduceAdd, Int.reduceSub, Int.reduceMul, Int.reduceEq, hfl, hfl1, hfl2, hfl3, hfl4, hfl5, hfl6, NE, NE9, Nat.add_assoc]
    refine call_of (me _ _ _ _ (hb0 _ _ hB0) (hbQ _ _ hB2)) ?_
    simp only [↓R1, R2, R3, R4, TY, reduceIte, Nat.reduceEqDiff, Nat.reduceAdd, Nat.reduceMul, Nat.reduceLT, Nat.reduceLeDiff, reduceCtorEq, decide_true, decide_false, Int.reduceLE, Int.reduceLT, Int.reduceToNat, Int.reduceAdd, Int.reduceSub, Int.reduceMul, Int.reduceEq, hfl, hfl1, hfl2, hfl3, hfl4, hfl5, hfl6, NE, NE9, Nat.add_assoc]
    refine call_of (ax _ _ _ _ (hb0 _ _ hB0) (hbQ _ _ hB2)) ?_
    simp only [↓R1, R2, R3, R4, TY, reduceIte, Nat.reduceEqDiff, Nat.reduceAdd, Nat.reduceMul, Nat.reduceLT, Nat.reduceLeDiff, reduceCtorEq, decide_true, decide_false, Int.reduceLE, Int.reduceLT, Int.reduceToNat, Int.reduceAdd, Int.reduceSub, Int.reduceMul, Int.reduceEq, hfl, hfl1, hfl2, hfl3, hfl4, hfl5, hfl6, NE, NE9, Nat.add_assoc, hBn]
    refine call_of (bx1 _ _ _ (hb0 _ _ ?_)) ?_
    · simp [Hp.put_blk, Hp.push_blk, hBn, Nat.add_assoc, hB0]
    simp only [↓R1, R2, R3, R4, TY, reduceIte, Nat.reduceEqDiff, Nat.reduceAdd, Nat.reduceMul, Nat.reduceLT, Nat.reduceLeDiff, reduceCtorEq, decide_true, decide_false, Int.reduceLE, Int.reduceLT, Int.reduceToNat, Int.reduceAdd, Int.reduceSub, Int.reduceMul, Int.reduceEq, hfl, hfl1, hfl2, hfl3, hfl4, hfl5, hfl6, NE, NE9, Nat.add_assoc, hBn]
    refine call_of (bx2 _ _ _ (hbQ _ _ ?_)) ?_
    · simp [Hp.put_blk, Hp.push_blk, hBn, Nat.add_assoc, hB2]
    simp only [↓R1, R2, R3, R4, TY, reduceIte, Nat.reduceEqDiff, Nat.reduceAdd, Nat.reduceMul, Nat.reduceLT, Nat.reduceLeDiff, reduceCtorEq, decide_true, decide_false, Int.reduceLE, Int.reduceLT, Int.reduceToNat, Int.reduceAdd, Int.reduceSub, Int.reduceMul, Int.reduceEq, hfl, hfl1, hfl2, hfl3, hfl4, hfl5, hfl6, NE, NE9, Nat.add_assoc, hBn]
    refine call_of (bs _ _) ?_
    simp only [↓R1, R2, R3, R4, TY, reduceIte, Nat.reduceEqDiff, Nat.reduceAdd, Nat.reduceMul, Nat.reduceLT, Nat.reduceLeDiff, reduceCtorEq, decide_true, decide_false, Int.reduceLE, Int.reduceLT, Int.reduceToNat, Int.reduceAdd, Int.reduceSub, Int.reduceMul, Int.reduceEq, hfl, hfl1, hfl2, hfl3, hfl4, hfl5, hfl6, NE, NE9, Nat.add_assoc, hBn]
    refine Ended.back hA ?_ rfl (RB.bool _)
    simp (maxDischargeDepth := 20) only [xt_push, xt_put, hBx, Nat.le_refl, Nat.le_add_right, Nat.add_assoc, Nat.reduceAdd]
  · rw [hme] at me
    simp only [prV_def] at ax
    have hb0 := fun B id => sl_at (B := B) (id := id) (l := P)
    have hbM := fun B id => sl_at (B := B) (id := id) (l := M)
    have hbQ := fun B id => sl_at (B := B) (id := id) (l := Q)
    rw [lQ] at l1 hbQ
    simp only [frV_def] at fr l1
    refine Sound.of mixed Tryd.func7 Tryd.ntmps7 Tryd.results7 (by kernel_rfl) rfl (by kernel_rfl) (by simp) fun hA => ?_
    have hfl : fl ≤ A.next := by have := hA.floor; omega
    have hfl1 : fl ≤ A.next + 1 := by have := hA.floor; omega
    have hfl2 : fl ≤ A.next + 2 := by have := hA.floor; omega
    have hfl3 : fl ≤ A.next + 3 := by have := hA.floor; omega
    have hfl4 : fl ≤ A.next + 4 := by have := hA.floor; omega
    have hfl5 : fl ≤ A.next + 5 := by have := hA.floor; omega
    have hfl6 : fl ≤ A.next + 6 := by have := hA.floor; omega
    simp only [↓R1, R2, R3, R4, TY, reduceIte, Nat.reduceEqDiff, Nat.reduceAdd, Nat.reduceMul, Nat.reduceLT, Nat.reduceLeDiff, reduceCtorEq, decide_true, decide_false, Int.reduceLE, Int.reduceLT, Int.reduceToNat, Int.reduceAdd, Int.reduceSub, Int.reduceMul, Int.reduceEq, hfl, hfl1, hfl2, hfl3, hfl4, hfl5, hfl6, NE, NE9, Nat.add_assoc]
    refine call_of (bg _ _) ?_
    simp only [↓R1, R2, R3, R4, TY, reduceIte, Nat.reduceEqDiff, Nat.reduceAdd, Nat.reduceMul, Nat.reduceLT, Nat.reduceLeDiff, reduceCtorEq, decide_true, decide_false, Int.reduceLE, Int.reduceLT, Int.reduceToNat, Int.reduceAdd, Int.reduceSub, Int.reduceMul, Int.reduceEq, hfl, hfl1, hfl2, hfl3, hfl4, hfl5, hfl6, NE, NE9, Nat.add_assoc]
    refine call_of (mp _ _ hs) ?_
    simp only [↓R1, R2, R3, R4, TY, reduceIte, Nat.reduceEqDiff, Nat.reduceAdd, Nat.reduceMul, Nat.reduceLT, Nat.reduceLeDiff, reduceCtorEq, decide_true, decide_false, Int.reduceLE, Int.reduceLT, Int.reduceToNat, Int.reduceAdd, Int.reduceSub, Int.reduceMul, Int.reduceEq, hfl, hfl1, hfl2, hfl3, hfl4, hfl5, hfl6, NE, NE9, Nat.add_assoc]
    refine call_of (fr _ _) ?_
    simp only [↓R1, R2, R3, R4, TY, reduceIte, Nat.reduceEqDiff, Nat.reduceAdd, Nat.reduceMul, Nat.reduceLT, Nat.reduceLeDiff, reduceCtorEq, decide_true, decide_false, Int.reduceLE, Int.reduceLT, Int.reduceToNat, Int.reduceAdd, Int.reduceSub, Int.reduceMul, Int.reduceEq, hfl, hfl1, hfl2, hfl3, hfl4, hfl5, hfl6, NE, NE9, Nat.add_assoc]
    refine call_of (mq _ _ (ht.xt hA ((Xt.refl A).push _))) ?_
    simp only [↓R1, R2, R3, R4, TY, reduceIte, Nat.reduceEqDiff, Nat.reduceAdd, Nat.reduceMul, Nat.reduceLT, Nat.reduceLeDiff, reduceCtorEq, decide_true, decide_false, Int.reduceLE, Int.reduceLT, Int.reduceToNat, Int.reduceAdd, Int.reduceSub, Int.reduceMul, Int.reduceEq, hfl, hfl1, hfl2, hfl3, hfl4, hfl5, hfl6, NE, NE9, Nat.add_assoc]
    refine call_of (l1 _ _ _ (hbM _ _ (push_at rfl))) ?_
    generalize hB : Hp.push (Hp.push (Hp.push A _) _) _ = B
    have hBx : Xt A.next A B := by
      rw [← hB]
      simp (maxDischargeDepth := 20) only [xt_push, xt_put, xt_refl, Nat.le_refl, Nat.le_add_right, Nat.add_assoc, Nat.reduceAdd]
    have hBn : B.next = A.next + 3 := by rw [← hB]; rfl
    have hB0 : B.blk A.next = some (.row (P.map vC).flatten 0 6) := by
      rw [← hB]; simp [Hp.push_blk, Nat.add_assoc]
    have hB2 : B.blk (A.next + 2) = some (.row (Q.map vC).flatten 0 6) := by
      rw [← hB]; simp [Hp.push_blk, Nat.add_assoc]
    clear hB
    simp only [↓R1, R2, R3, R4, TY, reduceIte, Nat.reduceEqDiff, Nat.reduceAdd, Nat.reduceMul, Nat.reduceLT, Nat.reduceLeDiff, reduceCtorEq, decide_true, decide_false, Int.reduceLE, Int.reduceLT, Int.reduceToNat, Int.reduceAdd, Int.reduceSub, Int.reduceMul, Int.reduceEq, hfl, hfl1, hfl2, hfl3, hfl4, hfl5, hfl6, NE, NE9, Nat.add_assoc]
    refine call_of (me _ _ _ _ (hb0 _ _ hB0) (hbQ _ _ hB2)) ?_
    simp only [↓R1, R2, R3, R4, TY, reduceIte, Nat.reduceEqDiff, Nat.reduceAdd, Nat.reduceMul, Nat.reduceLT, Nat.reduceLeDiff, reduceCtorEq, decide_true, decide_false, Int.reduceLE, Int.reduceLT, Int.reduceToNat, Int.reduceAdd, Int.reduceSub, Int.reduceMul, Int.reduceEq, hfl, hfl1, hfl2, hfl3, hfl4, hfl5, hfl6, NE, NE9, Nat.add_assoc]
    refine call_of (ax _ _ _ _ (hb0 _ _ hB0) (hbQ _ _ hB2)) ?_
    simp only [↓R1, R2, R3, R4, TY, reduceIte, Nat.reduceEqDiff, Nat.reduceAdd, Nat.reduceMul, Nat.reduceLT, Nat.reduceLeDiff, reduceCtorEq, decide_true, decide_false, Int.reduceLE, Int.reduceLT, Int.reduceToNat, Int.reduceAdd, Int.reduceSub, Int.reduceMul, Int.reduceEq, hfl, hfl1, hfl2, hfl3, hfl4, hfl5, hfl6, NE, NE9, Nat.add_assoc, hBn]
    generalize hD : Hp.put _ _ _ = D
    have hDx : Xt A.next A D := by
      rw [← hD]
      simp (maxDischargeDepth := 20) only [xt_push, xt_put, hBx, Nat.le_refl, Nat.le_add_right, Nat.add_assoc, Nat.reduceAdd]
    have hDn : D.next = A.next + 4 := by rw [← hD]; simp only [Hp.put_next, Hp.push_next, hBn, Nat.add_assoc, Nat.reduceAdd]
    have hD0 : D.blk A.next = some (.row (P.map vC).flatten 0 6) := by
      rw [← hD]; simp [Hp.put_blk, Hp.push_blk, hBn, Nat.add_assoc, hB0]
    have hD2 : D.blk (A.next + 2) = some (.row (Q.map vC).flatten 0 6) := by
      rw [← hD]; simp [Hp.put_blk, Hp.push_blk, hBn, Nat.add_assoc, hB2]
    have gN : ∀ i, D.get G ⟨A.next + 3, i, some 0⟩ = (vC N)[i]? := fun i => by
      rw [← hD]; simp [Hp.get, Hp.put_blk, Hp.push_blk, hBn, Nat.add_assoc, vC_def]
    clear hD
    refine range_of 58 P.length (fun i τ C => Xt A.next A C ∧ A.next + 4 ≤ C.next ∧ C.blk A.next = some (.row (P.map vC).flatten 0 6) ∧ C.blk (A.next + 2) = some (.row (Q.map vC).flatten 0 6) ∧ (∀ i, C.get G ⟨A.next + 3, i, some 0⟩ = (vC N)[i]?) ∧
      τ 12 = some (.slice (some ⟨A.next + 2, 0, some 0⟩) M.length M.length) ∧ τ 15 = some (.pointer (some ⟨A.next + 3, 0, some 0⟩)) ∧ τ 16 = some (.int .i64 0) ∧ τ 56 = some (.slice (some ⟨A.next, 0, some 0⟩) P.length P.length) ∧ τ 57 = some (.int .i64 (P.length : Nat)) ∧ τ 58 = some (.int .i64 (i : Nat))) ?_ ?_
    · exact ⟨hDx, by omega, hD0, hD2, gN, rfl, rfl, rfl, rfl, rfl, rfl⟩
    rintro i τ C hi ⟨hx1, hn, hC0, hC2, gN, q12, q15, q16, q56, q57, q58⟩
    have hflC : fl ≤ C.next := Nat.le_trans hA.floor hx1.next
    have hi63 : i < 9223372036854775807 := by omega
    have hsC := hb0 C _ hC0
    have e0 : A.next < C.next := by omega
    have e2 : A.next + 2 < C.next := by omega
    have e3 : A.next + 3 < C.next := by omega
    have ne0 : (A.next = C.next) = False := eq_false (by omega)
    have ne2 : (A.next + 2 = C.next) = False := eq_false (by omega)
    have ne3 : (A.next + 3 = C.next) = False := eq_false (by omega)
    simp only [↓R1, R2, R3, R4, TY, reduceIte, Nat.reduceEqDiff, Nat.reduceAdd, Nat.reduceMul, Nat.reduceLT, Nat.reduceLeDiff, reduceCtorEq, decide_true, decide_false, Int.reduceLE, Int.reduceLT, Int.reduceToNat, Int.reduceAdd, Int.reduceSub, Int.reduceMul, Int.reduceEq, q12, q15, q16, q56, q57, q58]
    refine ⟨fun hlt => ?_, fun hlt => ?_⟩
    rotate_left
    · exact Ended.back hA hx1 rfl (RB.bool _)
    have hlt' : i < P.length := by omega
    obtain ⟨u0, u1, u2, u3, u4, u5⟩ := vec_get (G := G) hsC hlt'
    simp only [aadd_mk, Nat.zero_add] at u0 u1 u2 u3 u4 u5
    simp only [↓R1, R2, R3, R4, TY, reduceIte, Nat.reduceEqDiff, Nat.reduceAdd, Nat.reduceMul, Nat.reduceLT, Nat.reduceLeDiff, reduceCtorEq, decide_true, decide_false, Int.reduceLE, Int.reduceLT, Int.reduceToNat, Int.reduceAdd, Int.reduceSub, Int.reduceMul, Int.reduceEq, q12, q15, q16, q56, q57, q58, hlt, u0, u1, u2, u3, u4, u5, e0, hflC]
    refine range_of 64 M.length (fun j τ E => Xt A.next A E ∧ C.next < E.next ∧ E.blk A.next = some (.row (P.map vC).flatten 0 6) ∧ E.blk (A.next + 2) = some (.row (Q.map vC).flatten 0 6) ∧ (∀ i, E.get G ⟨A.next + 3, i, some 0⟩ = (vC N)[i]?) ∧ (∀ k, E.get G ⟨C.next, k, some 0⟩ = (vC (pget P i))[k]?) ∧
      τ 12 = some (.slice (some ⟨A.next + 2, 0, some 0⟩) M.length M.length) ∧ τ 15 = some (.pointer (some ⟨A.next + 3, 0, some 0⟩)) ∧ τ 16 = some (.int .i64 0) ∧ τ 18 = some (.pointer (some ⟨C.next, 0, some 0⟩)) ∧ τ 56 = some (.slice (some ⟨A.next, 0, some 0⟩) P.length P.length) ∧ τ 57 = some (.int .i64 (P.length : Nat)) ∧ τ 58 = some (.int .i64 (i : Nat)) ∧
      τ 62 = some (.slice (some ⟨A.next + 2, 0, some 0⟩) M.length M.length) ∧ τ 63 = some (.int .i64 (M.length : Nat)) ∧ τ 64 = some (.int .i64 (j : Nat))) ?_ ?_
    · refine ⟨?_, ?_, ?_, ?_, fun k => ?_, fun k => ?_, q12, q15, q16, rfl, q56, q57, q58, rfl, rfl, rfl⟩
      · simp (maxDischargeDepth := 20) only [xt_push, xt_put, hx1, hx1.next, Nat.le_refl]
      · simp only [Hp.put_next, Hp.push_next]; omega
      · simp only [Hp.put_blk, Hp.push_blk, ne0, if_false]; exact hC0
      · simp only [Hp.put_blk, Hp.push_blk, ne2, if_false]; exact hC2
      · rw [get_put_other ne3, get_push_old e3]; exact gN k
      · simp [Hp.get, Hp.put_blk, vC_def]
    rintro j τ' E hj ⟨hx2, hn2, hE0, hE2, gN', gP, r12, r15, r16, r18, r56, r57, r58, r62, r63, r64⟩
    have hflE : fl ≤ E.next := Nat.le_trans hA.floor hx2.next
    have hj63 : j < 9223372036854775807 := by omega
    have hsE := hbQ E _ hE2
    have f2 : A.next + 2 < E.next := by omega
    have f3 : A.next + 3 < E.next := by omega
    have nf0 : (A.next = E.next) = False := eq_false (by omega)
    have nf2 : (A.next + 2 = E.next) = False := eq_false (by omega)
    have nf3 : (A.next + 3 = E.next) = False := eq_false (by omega)
    have nfc : (C.next = E.next) = False := eq_false (by omega)
    simp only [↓R1, R2, R3, R4, TY, reduceIte, Nat.reduceEqDiff, Nat.reduceAdd, Nat.reduceMul, Nat.reduceLT, Nat.reduceLeDiff, reduceCtorEq, decide_true, decide_false, Int.reduceLE, Int.reduceLT, Int.reduceToNat, Int.reduceAdd, Int.reduceSub, Int.reduceMul, Int.reduceEq, r12, r15, r16, r18, r56, r57, r58, r62, r63, r64]
    refine ⟨fun hjt => ?_, fun hjt => ?_⟩
    rotate_left
    · simp only [↓R1, R2, R3, R4, TY, reduceIte, Nat.reduceEqDiff, Nat.reduceAdd, Nat.reduceMul, Nat.reduceLT, Nat.reduceLeDiff, reduceCtorEq, decide_true, decide_false, Int.reduceLE, Int.reduceLT, Int.reduceToNat, Int.reduceAdd, Int.reduceSub, Int.reduceMul, Int.reduceEq, r12, r15, r16, r18, r56, r57, r58, hi63]
      exact range_on q58 hlt' rfl ⟨hx2, by omega, hE0, hE2, gN', r12, r15, r16, r56, r57, rfl⟩
    have hjt' : j < M.length := by omega
    have hjq : j < Q.length := by omega
    obtain ⟨v0, v1, v2, v3, v4, v5⟩ := vec_get (G := G) hsE hjq
    simp only [aadd_mk, Nat.zero_add] at v0 v1 v2 v3 v4 v5
    have zi := hP.z.at hlt'
    have zj := zQ.at hjq
    have d1 := fun fl A => vdot (G := G) (fl := fl) (A := A) hG zN.1 zN.2 zi.1 zi.2 (by omega)
    have d2 := fun fl A => vdot (G := G) (fl := fl) (A := A) hG zN.1 zN.2 zj.1 zj.2 (by omega)
    have cm := fun fl A => qcmp (G := G) (fl := fl) (A := A) hG (rz_dt zN zi) (rz_dt zN zj) (by omega)
    have hsep := sep i j hlt' hjq
    have hno : (rcmp (N.1 * (pget P i).1 + N.2 * (pget P i).2) (N.1 * (pget Q j).1 + N.2 * (pget Q j).2) ≥ 0) = False := by
      rw [rcmp_ge']; exact eq_false (Rat.not_le.2 hsep)
    have hno' : (0 ≤ rcmp (N.1 * (pget P i).1 + N.2 * (pget P i).2) (N.1 * (pget Q j).1 + N.2 * (pget Q j).2)) = False := hno
    simp only [prV_def] at d1 d2
    simp only [ratV_def] at d1 d2 cm
    simp only [↓R1, R2, R3, R4, TY, reduceIte, Nat.reduceEqDiff, Nat.reduceAdd, Nat.reduceMul, Nat.reduceLT, Nat.reduceLeDiff, reduceCtorEq, decide_true, decide_false, Int.reduceLE, Int.reduceLT, Int.reduceToNat, Int.reduceAdd, Int.reduceSub, Int.reduceMul, Int.reduceEq, r12, r15, r16, r18, r56, r57, r58, r62, r63, r64, hjt, v0, v1, v2, v3, v4, v5, gN', gP, vC_def, f2, f3, hn2, nf2, nf3, nfc, hflE, NE]
    refine call_of (d1 _ _) ?_
    simp only [↓R1, R2, R3, R4, TY, reduceIte, Nat.reduceEqDiff, Nat.reduceAdd, Nat.reduceMul, Nat.reduceLT, Nat.reduceLeDiff, reduceCtorEq, decide_true, decide_false, Int.reduceLE, Int.reduceLT, Int.reduceToNat, Int.reduceAdd, Int.reduceSub, Int.reduceMul, Int.reduceEq, r12, r15, r16, r18, gN', gP, vC_def, f2, f3, hn2, nf2, nf3, nfc, hflE, NE]
    refine call_of (d2 _ _) ?_
    simp only [↓R1, R2, R3, R4, TY, reduceIte, Nat.reduceEqDiff, Nat.reduceAdd, Nat.reduceMul, Nat.reduceLT, Nat.reduceLeDiff, reduceCtorEq, decide_true, decide_false, Int.reduceLE, Int.reduceLT, Int.reduceToNat, Int.reduceAdd, Int.reduceSub, Int.reduceMul, Int.reduceEq]
    refine call_of (cm _ _) ?_
    simp only [↓R1, R2, R3, R4, TY, reduceIte, Nat.reduceEqDiff, Nat.reduceAdd, Nat.reduceMul, Nat.reduceLT, Nat.reduceLeDiff, reduceCtorEq, decide_true, decide_false, Int.reduceLE, Int.reduceLT, Int.reduceToNat, Int.reduceAdd, Int.reduceSub, Int.reduceMul, Int.reduceEq, hno, hno', r12, r15, r16, r18, r56, r57, r58, r62, r63, r64, hj63]
    refine range_on r64 hjt' rfl ⟨?_, ?_, ?_, ?_, fun k => ?_, fun k => ?_, r12, r15, r16, r18, r56, r57, r58, r62, r63, rfl⟩
    · simp (maxDischargeDepth := 20) only [xt_push, xt_put, hx2, hx2.next, Nat.le_refl]
    · simp only [Hp.put_next, Hp.push_next]; omega
    · simp only [Hp.put_blk, Hp.push_blk, nf0, if_false]; exact hE0
    · simp only [Hp.put_blk, Hp.push_blk, nf2, if_false]; exact hE2
    · rw [get_put_other nf3, get_push_old f3]; exact gN' k
    · rw [get_put_other nfc, get_push_old hn2]; exact gP k

theorem apartAxis_calls {v w : Value} {xs ys : List Int} {x1 x2 x3 : Int} (hG : G 1 = some tabV) (hx : In64 xs) (hs : Sl A 1 v (xs.map iC)) (hl : xs.length ≤ 9223372036854775807) (hy : In64 ys) (ht : Sl A 1 w (ys.map iC)) (hm : ys.length ≤ 9223372036854775807) (k1 : -9223372036854775808 ≤ x1 ∧ x1 ≤ 9223372036854775807) (k2 : -9223372036854775808 ≤ x2 ∧ x2 ≤ 9223372036854775807) (k3 : -9223372036854775808 ≤ x3 ∧ x3 ≤ 9223372036854775807) :
    ∀ (μ : Mu) (W : World) (args' : Array Value), HR G μ fl A W → fl ≤ A.next → VRa μ A [v, w, .int .i64 x1, .int .i64 x2, .int .i64 x3].toArray args' →
    Calls Tryd.prog 7 args' W fun e w' => ∃ u, e = .returned u ∧ ∃ ν, VR ν A (.bool true) u ∧ HR G ν fl A w' ∧ Trans fl μ A W ν A w' :=
  Sound.calls Tryd.func7 (by kernel_rfl) (by kernel_rfl) (apartAxis_ok hG hx hs hl hy ht hm k1 k2 k3)

end
end Go.Proofs.YthclikeipdplpaaDoor.Ab
