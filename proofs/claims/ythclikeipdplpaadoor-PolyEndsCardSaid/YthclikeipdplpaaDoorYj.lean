/- gantkeep1.PolyMoves returns true for every input. -/
import Derived.Test.YthclikeipdplpaaDoorYi
namespace Go.Proofs.YthclikeipdplpaaDoor.Ab
open Go.RowKit
set_option linter.unusedVariables false
set_option linter.unusedSimpArgs false
set_option maxRecDepth 100000

theorem Sound.calls {P : Program} {G : Gl} {f : FuncId} {fn : Func} {args : List Value} {fl : Nat} {A A' : Hp} {v : Value} (hf : P.funcs[f]? = some fn) (hname : (fn.name == "runtime.NumGoroutine") = false) (hb : fn.body.isNone = false) (h : Sound P G f args fl A v A') :
    ∀ (μ : Mu) (w : World) (args' : Array Value), HR G μ fl A w → fl ≤ A.next → VRa μ A args.toArray args' →
    Calls P f args' w fun e w' => ∃ u, e = .returned u ∧ ∃ ν, VR ν A' v u ∧ HR G ν fl A' w' ∧ Trans fl μ A w ν A' w' := by
  intro μ w args' H hfl hargs
  rcases h μ w args' H hfl hargs with ⟨_, hc⟩ | ⟨u, w', hr, _⟩
  · exact hc.mono fun e w' he => he
  · exfalso
    have h1 : fn.name ≠ "runtime.NumGoroutine" := fun e => by rw [e] at hname; simp at hname
    have h2 : fn.body ≠ none := fun e => by rw [e] at hb; simp at hb
    simp [callFunc, hf, h1, h2] at hr
theorem rsign_pos {p : Rat} (h : 0 < p) : rsign p = 1 := by
  unfold rsign
  have h1 : p.num < 0 ↔ p < 0 := num_neg_iff
  have h0 : p.num = 0 ↔ p = 0 := Rat.num_eq_zero
  rw [if_neg (by rw [h0]; grind), if_neg (by rw [h1]; grind)]
theorem Lz.mv {l : List V2} {x y : Rat} {o : Option Rat} {j k m : Nat} (hz : Lz l m) (hf : Fz x y o j k) : Lz (l.map (mv x y o)) (j + 2 * m + 8 * k + 10) := by
  intro p hp
  obtain ⟨q, hq, rfl⟩ := List.mem_map.1 hp
  have h := hz q hq
  exact ⟨(hf.1.add (rz_rx hf.2.2 h.1 h.2)).mono (by omega), (hf.2.1.add (rz_ry hf.2.2 h.1 h.2)).mono (by omega)⟩
theorem PolyOk.mv {P : List V2} (h : PolyOk P) (x y : Rat) (o : Option Rat) : Cvx (P.map (mv x y o)) := by
  have := h.cvx
  rw [← cvxB_iff] at this ⊢
  rwa [cvxB_mv]

section
variable {G : Gl} {fl : Nat} {A : Hp}

set_option maxHeartbeats 8000000 in
theorem polyMoves_ok {v : Value} {xs : List Int} {x1 x2 x3 x4 x5 : Int} (hG : G 1 = some tabV) (hx : In64 xs) (hs : Sl A 1 v (xs.map iC)) (hl : xs.length ≤ 9223372036854775807) (k1 : -9223372036854775808 ≤ x1 ∧ x1 ≤ 9223372036854775807) (k2 : -9223372036854775808 ≤ x2 ∧ x2 ≤ 9223372036854775807) (k3 : -9223372036854775808 ≤ x3 ∧ x3 ≤ 9223372036854775807) (k4 : -9223372036854775808 ≤ x4 ∧ x4 ≤ 9223372036854775807) (k5 : -9223372036854775808 ≤ x5 ∧ x5 ≤ 9223372036854775807) :
    Sound Tryd.prog G 3 [v, .int .i64 x1, .int .i64 x2, .int .i64 x3, .int .i64 x4, .int .i64 x5] fl A (.bool true) A := by
  refine Sound.of mixed Tryd.func3 Tryd.ntmps3 Tryd.results3 (by kernel_rfl) rfl (by kernel_rfl) (by simp) fun hA => ?_
  obtain ⟨o, c, rfl⟩ := hs.len
  have hfl : fl ≤ A.next := by have := hA.floor; omega
  have hfl1 : fl ≤ A.next + 1 := by have := hA.floor; omega
  have hfl2 : fl ≤ A.next + 2 := by have := hA.floor; omega
  have hfl3 : fl ≤ A.next + 3 := by have := hA.floor; omega
  have hfl4 : fl ≤ A.next + 4 := by have := hA.floor; omega
  have hfl5 : fl ≤ A.next + 5 := by have := hA.floor; omega
  have hfl6 : fl ≤ A.next + 6 := by have := hA.floor; omega
  have bg := fun fl A => polyBegun_ok (G := G) (fl := fl) (A := A) hG
  have mp := fun fl => mpolyS (G := G) (fl := fl) (A := A) hx hs hl
  have fr := fun fl A => framed_ok (G := G) (fl := fl) (A := A) hG k1 k2 k3
  have ve := fun fl A => vector_ok (G := G) (fl := fl) (A := A) hG k4 k5
  have hP := mpoly_ok xs
  have hf : Fz (mrat x1) (mrat x2) (trn x3) 1 1 := ⟨mrat_rz x1, mrat_rz x2, trn_rz x3⟩
  have ha : Pz (mrat x4, mrat x5) 1 := ⟨mrat_rz x4, mrat_rz x5⟩
  generalize mpoly xs = P at *
  generalize mrat x1 = X at *
  generalize mrat x2 = Y at *
  generalize trn x3 = T at *
  generalize mrat x4 = U at *
  generalize mrat x5 = W at *
  have l5 := hP.len5
  have lQ : (P.map (mv X Y T)).length < 4611686018427387904 := by rw [List.length_map]; omega
  have lQ2 : (P.map (mv X Y T)).length ≤ 64 := by rw [List.length_map]; omega
  have zQ := hP.z.mv hf
  have zb : Pz (mv X Y T (U, W)) 21 := ⟨(hf.1.add (rz_rx hf.2.2 ha.1 ha.2)).mono (by omega), (hf.2.1.add (rz_ry hf.2.2 ha.1 ha.2)).mono (by omega)⟩
  have li := fun fl (A : Hp) v (hs : Sl A 6 v (P.map vC)) => flistn (G := G) (fl := fl) (A := A) hG hf hP.z hs (by omega) (by omega)
  have c1 := fun fl (A : Hp) v (hs : Sl A 6 v (P.map vC)) => pchk8 (G := G) (fl := fl) (A := A) hG hs hP.z (by omega) (by omega)
  have c2 := fun fl (A : Hp) v (hs : Sl A 6 v ((P.map (mv X Y T)).map vC)) => pchk8 (G := G) (fl := fl) (A := A) hG hs zQ (by omega) lQ
  have r1 := fun fl (A : Hp) v (hs : Sl A 6 v (P.map vC)) => parea_ok (G := G) (fl := fl) (A := A) hG hs hP.z (by omega) (by omega) (by omega)
  have r2 := fun fl (A : Hp) v (hs : Sl A 6 v ((P.map (mv X Y T)).map vC)) => parea_ok (G := G) (fl := fl) (A := A) hG hs zQ (by omega) lQ lQ2
  have sg := fun fl A => qsign (G := G) (fl := fl) (A := A) hG (rz_parea hP.z) (by omega)
  have pu := fun fl A => fput (G := G) (fl := fl) (A := A) hG hf.1 hf.2.1 hf.2.2 ha.1 ha.2 (by omega)
  have h1 := fun fl (A : Hp) v (hs : Sl A 6 v (P.map vC)) => phas_ok (G := G) (fl := fl) (A := A) hG hs hP.z (by omega) (by omega) (p := (U, W)) ha
  have h2 := fun fl (A : Hp) v (hs : Sl A 6 v ((P.map (mv X Y T)).map vC)) => phas_ok (G := G) (fl := fl) (A := A) hG hs zQ (by omega) lQ (p := mv X Y T (U, W)) zb
  have hd := eqD_rat (parea P) (parea P)
  rw [decide_eq_true rfl] at hd
  simp only [pchk_mv] at c2
  simp only [parea_mv] at r2
  simp only [phas_mv] at h2
  rw [rsign_pos hP.area] at sg
  have c8 := hP.c8
  rw [c8] at c1 c2
  simp only [mv] at h2
  generalize parea P = ar0 at *
  have e1 : (P.map (mv X Y T)).length = P.length := by simp
  have hb0 := fun B id => sl_at (B := B) (id := id) (l := P)
  have hb1 := fun B id => sl_at (B := B) (id := id) (l := P.map (mv X Y T))
  rw [e1] at hb1
  simp only [frV_def] at fr li pu
  simp only [prV_def] at ve pu h1 h2
  simp only [ratV_def] at r1 r2 sg hd
  simp only [↓R1, R2, R3, R4, TY, reduceIte, Nat.reduceEqDiff, Nat.reduceAdd, Nat.reduceMul, Nat.reduceLT, Nat.reduceLeDiff, reduceCtorEq, decide_true, decide_false, Int.reduceLE, Int.reduceLT, Int.reduceToNat, Int.reduceAdd, Int.reduceSub, Int.reduceMul, Int.reduceEq, hfl, hfl1, hfl2, hfl3, hfl4, hfl5, hfl6, NE, NE9, Nat.add_assoc]
  refine call_of (bg _ _) ?_
  simp only [↓R1, R2, R3, R4, TY, reduceIte, Nat.reduceEqDiff, Nat.reduceAdd, Nat.reduceMul, Nat.reduceLT, Nat.reduceLeDiff, reduceCtorEq, decide_true, decide_false, Int.reduceLE, Int.reduceLT, Int.reduceToNat, Int.reduceAdd, Int.reduceSub, Int.reduceMul, Int.reduceEq, hfl, hfl1, hfl2, hfl3, hfl4, hfl5, hfl6, NE, NE9, Nat.add_assoc]
  refine call_of (mp _) ?_
  simp only [↓R1, R2, R3, R4, TY, reduceIte, Nat.reduceEqDiff, Nat.reduceAdd, Nat.reduceMul, Nat.reduceLT, Nat.reduceLeDiff, reduceCtorEq, decide_true, decide_false, Int.reduceLE, Int.reduceLT, Int.reduceToNat, Int.reduceAdd, Int.reduceSub, Int.reduceMul, Int.reduceEq, hfl, hfl1, hfl2, hfl3, hfl4, hfl5, hfl6, NE, NE9, Nat.add_assoc]
  refine call_of (fr _ _) ?_
  simp only [↓R1, R2, R3, R4, TY, reduceIte, Nat.reduceEqDiff, Nat.reduceAdd, Nat.reduceMul, Nat.reduceLT, Nat.reduceLeDiff, reduceCtorEq, decide_true, decide_false, Int.reduceLE, Int.reduceLT, Int.reduceToNat, Int.reduceAdd, Int.reduceSub, Int.reduceMul, Int.reduceEq, hfl, hfl1, hfl2, hfl3, hfl4, hfl5, hfl6, NE, NE9, Nat.add_assoc]
  refine call_of (ve _ _) ?_
  simp only [↓R1, R2, R3, R4, TY, reduceIte, Nat.reduceEqDiff, Nat.reduceAdd, Nat.reduceMul, Nat.reduceLT, Nat.reduceLeDiff, reduceCtorEq, decide_true, decide_false, Int.reduceLE, Int.reduceLT, Int.reduceToNat, Int.reduceAdd, Int.reduceSub, Int.reduceMul, Int.reduceEq, hfl, hfl1, hfl2, hfl3, hfl4, hfl5, hfl6, NE, NE9, Nat.add_assoc]
  generalize hB : Hp.put _ _ _ = B
  have hBx : Xt A.next A B := by
    rw [← hB]
    simp (maxDischargeDepth := 20) only [xt_push, xt_put, xt_refl, Nat.le_refl, Nat.le_add_right, Nat.add_assoc, Nat.reduceAdd]
  have hBn : B.next = A.next + 3 := by rw [← hB]; rfl
  have hB0 : B.blk A.next = some (.row (P.map vC).flatten 0 6) := by
    rw [← hB]
    simp only [Hp.put_blk, Hp.push_blk, Hp.push_next]
    rw [if_neg (by omega), if_neg (by omega), if_neg (by omega), if_neg (by omega), if_pos trivial]
  have gF : ∀ i, B.get G ⟨A.next + 1, i, some 0⟩ = ([.bool (decide (X.num < 0)), .string (S (nb X.num.natAbs)), .string (S (nb X.den)), .bool (decide (Y.num < 0)), .string (S (nb Y.num.natAbs)), .string (S (nb Y.den)), .bool T.isNone, .bool (decide ((T.getD 0).num < 0)), .string (S (nb (T.getD 0).num.natAbs)), .string (S (nb (T.getD 0).den))] : List Value)[i]? := fun i => by
    rw [← hB]
    simp [Hp.get, Hp.put_blk, Hp.push_blk]
  have gV : ∀ i, B.get G ⟨A.next + 2, i, some 0⟩ = ([.bool (decide (U.num < 0)), .string (S (nb U.num.natAbs)), .string (S (nb U.den)), .bool (decide (W.num < 0)), .string (S (nb W.num.natAbs)), .string (S (nb W.den))] : List Value)[i]? := fun i => by
    rw [← hB]
    simp [Hp.get, Hp.put_blk, Hp.push_blk]
  clear hB
  have b1 : A.next + 1 < B.next := by omega
  have b2 : A.next + 2 < B.next := by omega
  have b3 : ∀ b, (B.push b).blk A.next = some (.row (P.map vC).flatten 0 6) := fun b => by rw [Hp.push_blk, if_neg (by omega)]; exact hB0
  have b4 : ∀ cs e, (B.push (.row cs 0 e)).blk (A.next + 3) = some (.row cs 0 e) := fun cs e => push_at hBn.symm
  refine call_of (li _ _ _ (hb0 _ _ hB0)) ?_
  simp only [↓R1, R2, R3, R4, TY, reduceIte, Nat.reduceEqDiff, Nat.reduceAdd, Nat.reduceMul, Nat.reduceLT, Nat.reduceLeDiff, reduceCtorEq, decide_true, decide_false, Int.reduceLE, Int.reduceLT, Int.reduceToNat, Int.reduceAdd, Int.reduceSub, Int.reduceMul, Int.reduceEq, hfl, hfl1, hfl2, hfl3, hfl4, hfl5, hfl6, NE, NE9, Nat.add_assoc, gF, gV, b1, b2, hBn]
  refine call_of (c1 _ _ _ (hb0 _ _ (b3 _))) ?_
  simp only [↓R1, R2, R3, R4, TY, reduceIte, Nat.reduceEqDiff, Nat.reduceAdd, Nat.reduceMul, Nat.reduceLT, Nat.reduceLeDiff, reduceCtorEq, decide_true, decide_false, Int.reduceLE, Int.reduceLT, Int.reduceToNat, Int.reduceAdd, Int.reduceSub, Int.reduceMul, Int.reduceEq, hfl, hfl1, hfl2, hfl3, hfl4, hfl5, hfl6, NE, NE9, Nat.add_assoc, gF, gV, b1, b2, hBn]
  refine call_of (c2 _ _ _ (hb1 _ _ (b4 _ _))) ?_
  simp only [↓R1, R2, R3, R4, TY, reduceIte, Nat.reduceEqDiff, Nat.reduceAdd, Nat.reduceMul, Nat.reduceLT, Nat.reduceLeDiff, reduceCtorEq, decide_true, decide_false, Int.reduceLE, Int.reduceLT, Int.reduceToNat, Int.reduceAdd, Int.reduceSub, Int.reduceMul, Int.reduceEq, hfl, hfl1, hfl2, hfl3, hfl4, hfl5, hfl6, NE, NE9, Nat.add_assoc, gF, gV, b1, b2, hBn]
  refine call_of (r2 _ _ _ (hb1 _ _ (b4 _ _))) ?_
  simp only [↓R1, R2, R3, R4, TY, reduceIte, Nat.reduceEqDiff, Nat.reduceAdd, Nat.reduceMul, Nat.reduceLT, Nat.reduceLeDiff, reduceCtorEq, decide_true, decide_false, Int.reduceLE, Int.reduceLT, Int.reduceToNat, Int.reduceAdd, Int.reduceSub, Int.reduceMul, Int.reduceEq, hfl, hfl1, hfl2, hfl3, hfl4, hfl5, hfl6, NE, NE9, Nat.add_assoc, gF, gV, b1, b2, hBn]
  refine call_of (r1 _ _ _ (hb0 _ _ (b3 _))) ?_
  simp only [↓R1, R2, R3, R4, TY, reduceIte, Nat.reduceEqDiff, Nat.reduceAdd, Nat.reduceMul, Nat.reduceLT, Nat.reduceLeDiff, reduceCtorEq, decide_true, decide_false, Int.reduceLE, Int.reduceLT, Int.reduceToNat, Int.reduceAdd, Int.reduceSub, Int.reduceMul, Int.reduceEq, hfl, hfl1, hfl2, hfl3, hfl4, hfl5, hfl6, NE, NE9, Nat.add_assoc, gF, gV, b1, b2, hBn, hd, guard_rat]
  refine call_of (r1 _ _ _ (hb0 _ _ (b3 _))) ?_
  simp only [↓R1, R2, R3, R4, TY, reduceIte, Nat.reduceEqDiff, Nat.reduceAdd, Nat.reduceMul, Nat.reduceLT, Nat.reduceLeDiff, reduceCtorEq, decide_true, decide_false, Int.reduceLE, Int.reduceLT, Int.reduceToNat, Int.reduceAdd, Int.reduceSub, Int.reduceMul, Int.reduceEq, hfl, hfl1, hfl2, hfl3, hfl4, hfl5, hfl6, NE, NE9, Nat.add_assoc, gF, gV, b1, b2, hBn, hd, guard_rat]
  refine call_of (sg _ _) ?_
  simp only [↓R1, R2, R3, R4, TY, reduceIte, Nat.reduceEqDiff, Nat.reduceAdd, Nat.reduceMul, Nat.reduceLT, Nat.reduceLeDiff, reduceCtorEq, decide_true, decide_false, Int.reduceLE, Int.reduceLT, Int.reduceToNat, Int.reduceAdd, Int.reduceSub, Int.reduceMul, Int.reduceEq, hfl, hfl1, hfl2, hfl3, hfl4, hfl5, hfl6, NE, NE9, Nat.add_assoc, gF, gV, b1, b2, hBn, hd, guard_rat]
  refine call_of (pu _ _) ?_
  simp only [↓R1, R2, R3, R4, TY, reduceIte, Nat.reduceEqDiff, Nat.reduceAdd, Nat.reduceMul, Nat.reduceLT, Nat.reduceLeDiff, reduceCtorEq, decide_true, decide_false, Int.reduceLE, Int.reduceLT, Int.reduceToNat, Int.reduceAdd, Int.reduceSub, Int.reduceMul, Int.reduceEq, hfl, hfl1, hfl2, hfl3, hfl4, hfl5, hfl6, NE, NE9, Nat.add_assoc, gF, gV, b1, b2, hBn, hd, guard_rat]
  refine call_of (h2 _ _ _ (hb1 _ _ (b4 _ _))) ?_
  simp only [↓R1, R2, R3, R4, TY, reduceIte, Nat.reduceEqDiff, Nat.reduceAdd, Nat.reduceMul, Nat.reduceLT, Nat.reduceLeDiff, reduceCtorEq, decide_true, decide_false, Int.reduceLE, Int.reduceLT, Int.reduceToNat, Int.reduceAdd, Int.reduceSub, Int.reduceMul, Int.reduceEq, hfl, hfl1, hfl2, hfl3, hfl4, hfl5, hfl6, NE, NE9, Nat.add_assoc, gF, gV, b1, b2, hBn, hd, guard_rat]
  refine call_of (h1 _ _ _ (hb0 _ _ (b3 _))) ?_
  simp only [↓R1, R2, R3, R4, TY, reduceIte, Nat.reduceEqDiff, Nat.reduceAdd, Nat.reduceMul, Nat.reduceLT, Nat.reduceLeDiff, reduceCtorEq, decide_true, decide_false, Int.reduceLE, Int.reduceLT, Int.reduceToNat, Int.reduceAdd, Int.reduceSub, Int.reduceMul, Int.reduceEq, hfl, hfl1, hfl2, hfl3, hfl4, hfl5, hfl6, NE, NE9, Nat.add_assoc, gF, gV, b1, b2, hBn, hd, guard_rat, beq_self_eq_true]
  refine Ended.back hA ?_ rfl (RB.bool _)
  simp (maxDischargeDepth := 20) only [xt_push, xt_put, hBx, hBx.next, Nat.le_refl, Nat.le_add_right, Nat.add_assoc, Nat.reduceAdd]

theorem polyMoves_calls {v : Value} {xs : List Int} {x1 x2 x3 x4 x5 : Int} (hG : G 1 = some tabV) (hx : In64 xs) (hs : Sl A 1 v (xs.map iC)) (hl : xs.length ≤ 9223372036854775807) (k1 : -9223372036854775808 ≤ x1 ∧ x1 ≤ 9223372036854775807) (k2 : -9223372036854775808 ≤ x2 ∧ x2 ≤ 9223372036854775807) (k3 : -9223372036854775808 ≤ x3 ∧ x3 ≤ 9223372036854775807) (k4 : -9223372036854775808 ≤ x4 ∧ x4 ≤ 9223372036854775807) (k5 : -9223372036854775808 ≤ x5 ∧ x5 ≤ 9223372036854775807) :
    ∀ (μ : Mu) (w : World) (args' : Array Value), HR G μ fl A w → fl ≤ A.next → VRa μ A [v, .int .i64 x1, .int .i64 x2, .int .i64 x3, .int .i64 x4, .int .i64 x5].toArray args' →
    Calls Tryd.prog 3 args' w fun e w' => ∃ u, e = .returned u ∧ ∃ ν, VR ν A (.bool true) u ∧ HR G ν fl A w' ∧ Trans fl μ A w ν A w' :=
  Sound.calls Tryd.func3 (by kernel_rfl) (by kernel_rfl) (polyMoves_ok hG hx hs hl k1 k2 k3 k4 k5)

end
end Go.Proofs.YthclikeipdplpaaDoor.Ab
