/- Rational numbers form a field. -/
import Derived.Test.YtpaffoiiipgkeaaDoorRi
namespace Go.Proofs.YtpaffoiiipgkeaaDoor.Ab
open Go.RowKit
set_option linter.unusedVariables false
set_option linter.unusedSimpArgs false
set_option maxRecDepth 100000

theorem Sz.div {p q : Rat} {j k : Nat} (hp : Sz p j) (hq : Sz q k) (h0 : q.num ≠ 0) : Sz (p / q) (j * k) := by
  rw [← div_val h0]
  have hj := hp.pos
  have hk := hq.pos
  refine Sz.mk ?_ (Nat.mul_le_mul hp.2 hq.1) (Nat.mul_pos hj hk)
  rw [sgn_abs]; exact Nat.mul_le_mul hp.1 hq.2

section
variable {G : Gl} {fl : Nat} {A : Hp}

set_option maxHeartbeats 8000000 in
theorem ratField_calls {x1 x2 x3 : Int} (k1 : -9223372036854775808 ≤ x1 ∧ x1 ≤ 9223372036854775807) (k2 : -9223372036854775808 ≤ x2 ∧ x2 ≤ 9223372036854775807) (k3 : -9223372036854775808 ≤ x3 ∧ x3 ≤ 9223372036854775807) :
    ∀ (μ : Mu) (w : World) (args' : Array Value), HR G μ fl A w → fl ≤ A.next → VRa μ A [.int .i64 x1, .int .i64 x2, .int .i64 x3].toArray args' →
    Calls Tryd.prog 6 args' w fun e w' => ∃ u, e = .returned u ∧ ∃ ν, VR ν A (.bool true) u ∧ HR G ν fl A w' ∧ Trans fl μ A w ν A w' := by
  refine calls_of mixed Tryd.func6 Tryd.ntmps6 Tryd.results6 (by kernel_rfl) rfl (by kernel_rfl) (by simp) fun hA => ?_
  have fin : ∀ (b : Bool) (B : Hp), Xt A.next A B → b = true → Ended A (.bool b) B (.bool true) A := fun b B hB hb => Ended.back hA hB (congrArg _ hb) (RB.bool _)
  have hp := mrat_sz x1
  have hq := mrat_sz x2
  have hr := mrat_sz x3
  have hfl : fl ≤ A.next := hA.floor
  have hfl1 : fl ≤ A.next + 1 := by omega
  have hfl2 : fl ≤ A.next + 2 := by omega
  simp only [↓R1, R2, R3, R4, TY, reduceIte, Nat.reduceEqDiff, Nat.reduceAdd, Nat.reduceMul, Nat.reduceLT, Nat.reduceLeDiff, reduceCtorEq, decide_true, decide_false, Int.reduceLE, Int.reduceLT, Int.reduceToNat, Int.reduceAdd, Int.reduceSub, Int.reduceMul, Int.reduceEq]
  refine call_of ratBegun_ok ?_
  simp only [↓R1, R2, R3, R4, TY, reduceIte, Nat.reduceEqDiff, Nat.reduceAdd, Nat.reduceMul, Nat.reduceLT, Nat.reduceLeDiff, reduceCtorEq, decide_true, decide_false, Int.reduceLE, Int.reduceLT, Int.reduceToNat, Int.reduceAdd, Int.reduceSub, Int.reduceMul, Int.reduceEq]
  refine call_of (mrat_ok k1.1 k1.2) ?_
  simp only [↓R1, R2, R3, R4, TY, reduceIte, Nat.reduceEqDiff, Nat.reduceAdd, Nat.reduceMul, Nat.reduceLT, Nat.reduceLeDiff, reduceCtorEq, decide_true, decide_false, Int.reduceLE, Int.reduceLT, Int.reduceToNat, Int.reduceAdd, Int.reduceSub, Int.reduceMul, Int.reduceEq]
  refine call_of (mrat_ok k2.1 k2.2) ?_
  simp only [↓R1, R2, R3, R4, TY, reduceIte, Nat.reduceEqDiff, Nat.reduceAdd, Nat.reduceMul, Nat.reduceLT, Nat.reduceLeDiff, reduceCtorEq, decide_true, decide_false, Int.reduceLE, Int.reduceLT, Int.reduceToNat, Int.reduceAdd, Int.reduceSub, Int.reduceMul, Int.reduceEq]
  refine call_of (mrat_ok k3.1 k3.2) ?_
  generalize mrat x1 = p at *
  generalize mrat x2 = q at *
  generalize mrat x3 = r at *
  simp only [↓R1, R2, R3, R4, TY, reduceIte, Nat.reduceEqDiff, Nat.reduceAdd, Nat.reduceMul, Nat.reduceLT, Nat.reduceLeDiff, reduceCtorEq, decide_true, decide_false, Int.reduceLE, Int.reduceLT, Int.reduceToNat, Int.reduceAdd, Int.reduceSub, Int.reduceMul, Int.reduceEq, ratV_def, hfl, hfl1, hfl2, NE]
  generalize hτ : updO _ _ _ = τ1
  generalize hB : Hp.put _ _ _ = B
  have q7 : τ1 7 = some (.pointer (some ⟨A.next, 0, some 0⟩)) := by rw [← hτ]; rfl
  have q8 : τ1 8 = some (.pointer (some ⟨A.next + 1, 0, some 0⟩)) := by rw [← hτ]; rfl
  have q9 : τ1 9 = some (.pointer (some ⟨A.next + 2, 0, some 0⟩)) := by rw [← hτ]; rfl
  clear hτ
  have hBn : B.next = A.next + 3 := by rw [← hB]; rfl
  have hBx : Xt A.next A B := by rw [← hB]; exact ((((((Xt.refl A).push _).push _).push _).put (Nat.le_refl _) _).put (by omega) _).put (by omega) _
  have g0 : B.get G ⟨A.next, 0, some 0⟩ = some (.bool (decide (p.num < 0))) := by rw [← hB]; simp [Hp.get, Hp.put_blk, Hp.push_blk, Nat.add_assoc]
  have g1 : B.get G ⟨A.next, 1, some 0⟩ = some (.string (S (nb p.num.natAbs))) := by rw [← hB]; simp [Hp.get, Hp.put_blk, Hp.push_blk, Nat.add_assoc]
  have g2 : B.get G ⟨A.next, 2, some 0⟩ = some (.string (S (nb p.den))) := by rw [← hB]; simp [Hp.get, Hp.put_blk, Hp.push_blk, Nat.add_assoc]
  have g3 : B.get G ⟨A.next + 1, 0, some 0⟩ = some (.bool (decide (q.num < 0))) := by rw [← hB]; simp [Hp.get, Hp.put_blk, Hp.push_blk, Nat.add_assoc]
  have g4 : B.get G ⟨A.next + 1, 1, some 0⟩ = some (.string (S (nb q.num.natAbs))) := by rw [← hB]; simp [Hp.get, Hp.put_blk, Hp.push_blk, Nat.add_assoc]
  have g5 : B.get G ⟨A.next + 1, 2, some 0⟩ = some (.string (S (nb q.den))) := by rw [← hB]; simp [Hp.get, Hp.put_blk, Hp.push_blk, Nat.add_assoc]
  have g6 : B.get G ⟨A.next + 2, 0, some 0⟩ = some (.bool (decide (r.num < 0))) := by rw [← hB]; simp [Hp.get, Hp.put_blk, Hp.push_blk, Nat.add_assoc]
  have g7 : B.get G ⟨A.next + 2, 1, some 0⟩ = some (.string (S (nb r.num.natAbs))) := by rw [← hB]; simp [Hp.get, Hp.put_blk, Hp.push_blk, Nat.add_assoc]
  have g8 : B.get G ⟨A.next + 2, 2, some 0⟩ = some (.string (S (nb r.den))) := by rw [← hB]; simp [Hp.get, Hp.put_blk, Hp.push_blk, Nat.add_assoc]
  clear hB
  have spq := hp.add hq
  have spq' := hp.sub hq
  have mpq := hp.mul hq
  refine call_of (radd_ok hp hq (by omega)) ?_
  simp only [↓R1, R2, R3, R4, TY, reduceIte, Nat.reduceEqDiff, Nat.reduceAdd, Nat.reduceMul, Nat.reduceLT, Nat.reduceLeDiff, reduceCtorEq, decide_true, decide_false, Int.reduceLE, Int.reduceLT, Int.reduceToNat, Int.reduceAdd, Int.reduceSub, Int.reduceMul, Int.reduceEq, ratV_def, q7, q8, q9, g0, g1, g2, g3, g4, g5, g6, g7, g8]
  refine call_of (rsub_ok hp hq (by omega)) ?_
  simp only [↓R1, R2, R3, R4, TY, reduceIte, Nat.reduceEqDiff, Nat.reduceAdd, Nat.reduceMul, Nat.reduceLT, Nat.reduceLeDiff, reduceCtorEq, decide_true, decide_false, Int.reduceLE, Int.reduceLT, Int.reduceToNat, Int.reduceAdd, Int.reduceSub, Int.reduceMul, Int.reduceEq, ratV_def, q7, q8, q9, g0, g1, g2, g3, g4, g5, g6, g7, g8]
  refine call_of (rmul_ok hp hq (by omega)) ?_
  simp only [↓R1, R2, R3, R4, TY, reduceIte, Nat.reduceEqDiff, Nat.reduceAdd, Nat.reduceMul, Nat.reduceLT, Nat.reduceLeDiff, reduceCtorEq, decide_true, decide_false, Int.reduceLE, Int.reduceLT, Int.reduceToNat, Int.reduceAdd, Int.reduceSub, Int.reduceMul, Int.reduceEq, ratV_def, q7, q8, q9, g0, g1, g2, g3, g4, g5, g6, g7, g8]
  refine call_of (rneg_ok hp (by omega)) ?_
  simp only [↓R1, R2, R3, R4, TY, reduceIte, Nat.reduceEqDiff, Nat.reduceAdd, Nat.reduceMul, Nat.reduceLT, Nat.reduceLeDiff, reduceCtorEq, decide_true, decide_false, Int.reduceLE, Int.reduceLT, Int.reduceToNat, Int.reduceAdd, Int.reduceSub, Int.reduceMul, Int.reduceEq, ratV_def, q7, q8, q9, g0, g1, g2, g3, g4, g5, g6, g7, g8]
  refine call_of (rabs_ok hp (by omega)) ?_
  have hz15 : zl [Value.bool false, .string (S []), .string (S [])] 15 = [.bool false, .string (S []), .string (S []), .bool false, .string (S []), .string (S []), .bool false, .string (S []), .string (S []), .bool false, .string (S []), .string (S []), .bool false, .string (S []), .string (S [])] := rfl
  simp only [↓R1, R2, R3, R4, TY, reduceIte, Nat.reduceEqDiff, Nat.reduceAdd, Nat.reduceMul, Nat.reduceLT, Nat.reduceLeDiff, reduceCtorEq, decide_true, decide_false, Int.reduceLE, Int.reduceLT, Int.reduceToNat, Int.reduceAdd, Int.reduceSub, Int.reduceMul, Int.reduceEq, ratV_def, q7, q8, q9, g0, g1, g2, g3, g4, g5, g6, g7, g8, hz15]
  have habs : Sz (rabs p) 64 := by unfold rabs; split; exact hp.neg; exact hp
  have hrs : ∃ rs : Nat → Rat, (∀ j, j < 5 → Sz (rs j) 8192) ∧ ∀ j, j < 5 → ∀ (C : Hp), C = B.push (.row [.bool (decide ((p + q).num < 0)), .string (S (nb (p + q).num.natAbs)), .string (S (nb (p + q).den)), .bool (decide ((p - q).num < 0)), .string (S (nb (p - q).num.natAbs)), .string (S (nb (p - q).den)), .bool (decide ((p * q).num < 0)), .string (S (nb (p * q).num.natAbs)), .string (S (nb (p * q).den)),
      .bool (decide ((-p).num < 0)), .string (S (nb (-p).num.natAbs)), .string (S (nb (-p).den)), .bool (decide ((rabs p).num < 0)), .string (S (nb (rabs p).num.natAbs)), .string (S (nb (rabs p).den))] 0 3) →
      C.get G ⟨B.next, j * 3, some 0⟩ = some (.bool (decide ((rs j).num < 0))) ∧ C.get G ⟨B.next, j * 3 + 1, some 0⟩ = some (.string (S (nb (rs j).num.natAbs))) ∧ C.get G ⟨B.next, j * 3 + 2, some 0⟩ = some (.string (S (nb (rs j).den))) := by
    refine ⟨fun j => match j with | 0 => p + q | 1 => p - q | 2 => p * q | 3 => -p | _ => rabs p, fun j hj => ?_, fun j hj C hC => ?_⟩
    · match j, hj with
      | 0, _ => exact spq.mono (by omega)
      | 1, _ => exact spq'.mono (by omega)
      | 2, _ => exact mpq.mono (by omega)
      | 3, _ => exact hp.neg.mono (by omega)
      | 4, _ => exact habs.mono (by omega)
    · subst hC
      match j, hj with
      | 0, _ => simp [Hp.get, Hp.push_blk]
      | 1, _ => simp [Hp.get, Hp.push_blk]
      | 2, _ => simp [Hp.get, Hp.push_blk]
      | 3, _ => simp [Hp.get, Hp.push_blk]
      | 4, _ => simp [Hp.get, Hp.push_blk]
  obtain ⟨rs, hrsz, hrget⟩ := hrs
  generalize hC : Hp.push B (Blk.row _ 0 3) = C
  have hg5 := fun j hj => hrget j hj C (by rw [← hC])
  have hCn : C.next = B.next + 1 := by rw [← hC]; rfl
  have hCx : Xt B.next B C := by rw [← hC]; exact (Xt.refl B).push _
  clear hrget hC
  refine range_of 38 5 (fun j τ D => Xt C.next C D ∧ τ 7 = some (.pointer (some ⟨A.next, 0, some 0⟩)) ∧ τ 8 = some (.pointer (some ⟨A.next + 1, 0, some 0⟩)) ∧ τ 9 = some (.pointer (some ⟨A.next + 2, 0, some 0⟩)) ∧ τ 36 = some (.slice (some ⟨B.next, 0, some 0⟩) 5 5) ∧ τ 37 = some (.int .i64 5) ∧ τ 38 = some (.int .i64 j)) ?_ ?_
  · exact ⟨Xt.refl _, q7, q8, q9, rfl, rfl, rfl⟩
  rintro j τ D hj ⟨hx, r7, r8, r9, r36, r37, r38⟩
  have hc5 : ((j : Int) < 5) = (j < 5) := propext (by omega)
  have hDn := hx.next
  simp only [↓R1, R2, R3, R4, TY, reduceIte, Nat.reduceEqDiff, Nat.reduceAdd, Nat.reduceMul, Nat.reduceLT, Nat.reduceLeDiff, reduceCtorEq, decide_true, decide_false, Int.reduceLE, Int.reduceLT, Int.reduceToNat, Int.reduceAdd, Int.reduceSub, Int.reduceMul, Int.reduceEq, r7, r8, r9, r36, r37, r38, hc5]
  refine ⟨fun hlt => ?_, fun hlt => ?_⟩
  · obtain ⟨u0, u1, u2⟩ := hg5 j hlt
    have v0 := (hx.get (G := G) (a := ⟨B.next, j * 3, some 0⟩) (by simp only; omega)).trans u0
    have v1 := (hx.get (G := G) (a := ⟨B.next, j * 3 + 1, some 0⟩) (by simp only; omega)).trans u1
    have v2 := (hx.get (G := G) (a := ⟨B.next, j * 3 + 2, some 0⟩) (by simp only; omega)).trans u2
    have hs := hrsz j hlt
    have hbn : B.next < D.next := by omega
    have hflD : fl ≤ D.next := by omega
    have hgd := fun A => good_ok (G := G) (fl := fl) (A := A) (q := rs j) (by have := hs.1; omega) (by have := hs.2; omega)
    have hj63 : j < 9223372036854775807 := by omega
    rw [ratV_def] at hgd
    simp only [↓R1, R2, R3, R4, TY, reduceIte, Nat.reduceEqDiff, Nat.reduceAdd, Nat.reduceMul, Nat.reduceLT, Nat.reduceLeDiff, reduceCtorEq, decide_true, decide_false, Int.reduceLE, Int.reduceLT, Int.reduceToNat, Int.reduceAdd, Int.reduceSub, Int.reduceMul, Int.reduceEq, r7, r8, r9, r36, r37, r38, hlt, hc5, v0, v1, v2, hbn, hflD, hj63]
    refine call_of (hgd _) ?_
    simp only [↓R1, R2, R3, R4, TY, reduceIte, Nat.reduceEqDiff, Nat.reduceAdd, Nat.reduceMul, Nat.reduceLT, Nat.reduceLeDiff, reduceCtorEq, decide_true, decide_false, Int.reduceLE, Int.reduceLT, Int.reduceToNat, Int.reduceAdd, Int.reduceSub, Int.reduceMul, Int.reduceEq, r7, r8, r9, r36, r37, r38, hj63]
    refine range_on r38 hlt rfl ⟨(hx.push _).put (by omega) _, r7, r8, r9, r36, r37, rfl⟩
  have hBD : Xt B.next B D := hCx.trans hx
  have hAD : Xt A.next A D := hBx.trans hBD
  have g0' := (hBD.get (G := G) (a := ⟨A.next, 0, some 0⟩) (by simp only; omega)).trans g0
  have g1' := (hBD.get (G := G) (a := ⟨A.next, 1, some 0⟩) (by simp only; omega)).trans g1
  have g2' := (hBD.get (G := G) (a := ⟨A.next, 2, some 0⟩) (by simp only; omega)).trans g2
  have g3' := (hBD.get (G := G) (a := ⟨A.next + 1, 0, some 0⟩) (by simp only; omega)).trans g3
  have g4' := (hBD.get (G := G) (a := ⟨A.next + 1, 1, some 0⟩) (by simp only; omega)).trans g4
  have g5' := (hBD.get (G := G) (a := ⟨A.next + 1, 2, some 0⟩) (by simp only; omega)).trans g5
  have g6' := (hBD.get (G := G) (a := ⟨A.next + 2, 0, some 0⟩) (by simp only; omega)).trans g6
  have g7' := (hBD.get (G := G) (a := ⟨A.next + 2, 1, some 0⟩) (by simp only; omega)).trans g7
  have g8' := (hBD.get (G := G) (a := ⟨A.next + 2, 2, some 0⟩) (by simp only; omega)).trans g8
  have hDA : A.next + 3 ≤ D.next := by omega
  clear g0 g1 g2 g3 g4 g5 g6 g7 g8 hg5 hrsz hx hCx hBD hBx q7 q8 q9 r36 r37 r38 hDn hCn hBn
  simp only [↓R1, R2, R3, R4, TY, reduceIte, Nat.reduceEqDiff, Nat.reduceAdd, Nat.reduceMul, Nat.reduceLT, Nat.reduceLeDiff, reduceCtorEq, decide_true, decide_false, Int.reduceLE, Int.reduceLT, Int.reduceToNat, Int.reduceAdd, Int.reduceSub, Int.reduceMul, Int.reduceEq, ratV_def, r7, r8, r9, g0', g1', g2', g3', g4', g5', g6', g7', g8']
  have hgt : Tryd.prog.eqGuardType Tryd.prog.depth 35 = false := by kernel_rfl
  have heq := fun x y => eqD_rat x y
  simp only [ratV_def] at heq
  have hflD : fl ≤ D.next := by omega
  have e12 : ∀ x : Nat, x < A.next + 3 → (x = D.next) = False := fun x h => eq_false (by omega)
  have n0 : (A.next = D.next) = False := e12 _ (by omega)
  have n1 : (A.next + 1 = D.next) = False := e12 _ (by omega)
  have n2 : (A.next + 2 = D.next) = False := e12 _ (by omega)
  have lt0 : A.next < D.next := by omega
  have lt1 : A.next + 1 < D.next := by omega
  have lt2 : A.next + 2 < D.next := by omega
  have ns0 : (D.next = A.next) = False := eq_false (by omega)
  by_cases hq0 : q.num = 0
  · refine call_of (rdiv_zero hp hq (by omega) hq0) ?_
    have hsg : rsign q = 0 := by rw [rsign, if_pos hq0]
    simp only [↓R1, R2, R3, R4, TY, reduceIte, Nat.reduceEqDiff, Nat.reduceAdd, Nat.reduceMul, Nat.reduceLT, Nat.reduceLeDiff, reduceCtorEq, decide_true, decide_false, Int.reduceLE, Int.reduceLT, Int.reduceToNat, Int.reduceAdd, Int.reduceSub, Int.reduceMul, Int.reduceEq, ratV_def, r7, r8, r9, g0', g1', g2', g3', g4', g5', g6', g7', g8', raw0, hflD, n0, n1, n2, lt0, lt1, lt2]
    have hsn := fun fl A => rsign_ok (G := G) (fl := fl) (A := A) hq (by omega)
    rw [hsg] at hsn
    refine call_of (hsn _ _) ?_
    simp only [↓R1, R2, R3, R4, TY, reduceIte, Nat.reduceEqDiff, Nat.reduceAdd, Nat.reduceMul, Nat.reduceLT, Nat.reduceLeDiff, reduceCtorEq, decide_true, decide_false, Int.reduceLE, Int.reduceLT, Int.reduceToNat, Int.reduceAdd, Int.reduceSub, Int.reduceMul, Int.reduceEq, ratV_def, r7, r8, r9, g0', g1', g2', g3', g4', g5', g6', g7', g8', raw0, hflD, n0, n1, n2, lt0, lt1, lt2, ft_ne, tf_ne, beq_self_eq_true]
    generalize hτ : updO _ _ _ = τ2
    generalize hE : Hp.put _ _ _ = E
    have t7 : τ2 7 = some (.pointer (some ⟨A.next, 0, some 0⟩)) := by rw [← hτ]; exact r7
    have t8 : τ2 8 = some (.pointer (some ⟨A.next + 1, 0, some 0⟩)) := by rw [← hτ]; exact r8
    have t9 : τ2 9 = some (.pointer (some ⟨A.next + 2, 0, some 0⟩)) := by rw [← hτ]; exact r9
    have t69 : τ2 69 = some (.agg #[.bool (decide (p.num < 0)), .string (S (nb p.num.natAbs)), .string (S (nb p.den))]) := by rw [← hτ]; rfl
    clear hτ
    have hEn : E.next = D.next + 1 := by rw [← hE]; rfl
    have hEx : Xt D.next D E := by rw [← hE]; exact ((Xt.refl D).push _).put (Nat.le_refl _) _
    clear hE
    have hAE : Xt A.next A E := hAD.trans hEx
    have u0 := (hEx.get (G := G) (a := ⟨A.next, 0, some 0⟩) (by simp only; omega)).trans g0'
    have u1 := (hEx.get (G := G) (a := ⟨A.next, 1, some 0⟩) (by simp only; omega)).trans g1'
    have u2 := (hEx.get (G := G) (a := ⟨A.next, 2, some 0⟩) (by simp only; omega)).trans g2'
    have u3 := (hEx.get (G := G) (a := ⟨A.next + 1, 0, some 0⟩) (by simp only; omega)).trans g3'
    have u4 := (hEx.get (G := G) (a := ⟨A.next + 1, 1, some 0⟩) (by simp only; omega)).trans g4'
    have u5 := (hEx.get (G := G) (a := ⟨A.next + 1, 2, some 0⟩) (by simp only; omega)).trans g5'
    have u6 := (hEx.get (G := G) (a := ⟨A.next + 2, 0, some 0⟩) (by simp only; omega)).trans g6'
    have u7 := (hEx.get (G := G) (a := ⟨A.next + 2, 1, some 0⟩) (by simp only; omega)).trans g7'
    have u8 := (hEx.get (G := G) (a := ⟨A.next + 2, 2, some 0⟩) (by simp only; omega)).trans g8'
    clear r7 r8 r9 g0' g1' g2' g3' g4' g5' g6' g7' g8' hflD n0 n1 n2 lt0 lt1 lt2 ns0 e12 hEx
    have hflE : fl ≤ E.next := by omega
    have n0 : (A.next = E.next) = False := eq_false (by omega)
    have n1 : (A.next + 1 = E.next) = False := eq_false (by omega)
    have n2 : (A.next + 2 = E.next) = False := eq_false (by omega)
    have lt0 : A.next < E.next := by omega
    have lt1 : A.next + 1 < E.next := by omega
    have lt2 : A.next + 2 < E.next := by omega
    have ns0 : (E.next = A.next) = False := eq_false (by omega)
    have sqr := hq.add hr
    have mqr := hq.mul hr
    have mpr := hp.mul hr
    have s0 := sz_of (n := 0) (k := 1) (by omega) (by omega)
    have s1 := sz_of (n := 1) (k := 1) (by omega) (by omega)
    have f1 : (p + -p = rOf 0) = True := eq_true (by rw [Rat.add_neg_cancel, rOf_eq]; rfl)
    have f2 : (p - q = p + -q) = True := eq_true (Rat.sub_eq_add_neg p q)
    have f3 : (p * (q + r) = p * q + p * r) = True := eq_true (Rat.mul_add p q r)
    have f4 : (p + q + r = p + (q + r)) = True := eq_true (Rat.add_assoc p q r)
    have f5 : (p * q * r = p * (q * r)) = True := eq_true (Rat.mul_assoc p q r)
    have f6 : (p * rOf 1 = p) = True := eq_true (by rw [rOf_eq]; exact Rat.mul_one p)
    have f7 : (p + rOf 0 = p) = True := eq_true (by rw [rOf_eq]; exact Rat.add_zero p)
    refine call_of (radd_ok hq hr (by omega)) ?_
    simp only [↓R1, R2, R3, R4, TY, reduceIte, Nat.reduceEqDiff, Nat.reduceAdd, Nat.reduceMul, Nat.reduceLT, Nat.reduceLeDiff, reduceCtorEq, decide_true, decide_false, Int.reduceLE, Int.reduceLT, Int.reduceToNat, Int.reduceAdd, Int.reduceSub, Int.reduceMul, Int.reduceEq, ratV_def, t69, t7, t8, t9, u0, u1, u2, u3, u4, u5, u6, u7, u8, lt0, lt1, lt2, n0, n1, n2, ns0, hflE, heq, hgt]
    refine call_of (rmul_ok hp sqr (by omega)) ?_
    simp only [↓R1, R2, R3, R4, TY, reduceIte, Nat.reduceEqDiff, Nat.reduceAdd, Nat.reduceMul, Nat.reduceLT, Nat.reduceLeDiff, reduceCtorEq, decide_true, decide_false, Int.reduceLE, Int.reduceLT, Int.reduceToNat, Int.reduceAdd, Int.reduceSub, Int.reduceMul, Int.reduceEq, ratV_def, t69, t7, t8, t9, u0, u1, u2, u3, u4, u5, u6, u7, u8, lt0, lt1, lt2, n0, n1, n2, ns0, hflE, heq, hgt]
    rw [floOf_wr (by kernel_rfl)]
    simp only [↓R1, R2, R3, R4, TY, reduceIte, Nat.reduceEqDiff, Nat.reduceAdd, Nat.reduceMul, Nat.reduceLT, Nat.reduceLeDiff, reduceCtorEq, decide_true, decide_false, Int.reduceLE, Int.reduceLT, Int.reduceToNat, Int.reduceAdd, Int.reduceSub, Int.reduceMul, Int.reduceEq, ratV_def, t69, t7, t8, t9, u0, u1, u2, u3, u4, u5, u6, u7, u8, lt0, lt1, lt2, n0, n1, n2, ns0, hflE, heq, hgt, append_eq, List.cons_append, List.nil_append]
    generalize hF : Hp.put _ _ _ = F
    have hFx : Xt E.next E F := by rw [← hF]; exact ((Xt.refl E).push _).put (Nat.le_refl _) _
    have hAF : Xt A.next A F := hAE.trans hFx
    have v0 := (hFx.get (G := G) (a := ⟨A.next, 0, some 0⟩) (by simp only; omega)).trans u0
    have v1 := (hFx.get (G := G) (a := ⟨A.next, 1, some 0⟩) (by simp only; omega)).trans u1
    have v2 := (hFx.get (G := G) (a := ⟨A.next, 2, some 0⟩) (by simp only; omega)).trans u2
    have v3 := (hFx.get (G := G) (a := ⟨A.next + 1, 0, some 0⟩) (by simp only; omega)).trans u3
    have v4 := (hFx.get (G := G) (a := ⟨A.next + 1, 1, some 0⟩) (by simp only; omega)).trans u4
    have v5 := (hFx.get (G := G) (a := ⟨A.next + 1, 2, some 0⟩) (by simp only; omega)).trans u5
    have v6 := (hFx.get (G := G) (a := ⟨A.next + 2, 0, some 0⟩) (by simp only; omega)).trans u6
    have v7 := (hFx.get (G := G) (a := ⟨A.next + 2, 1, some 0⟩) (by simp only; omega)).trans u7
    have v8 := (hFx.get (G := G) (a := ⟨A.next + 2, 2, some 0⟩) (by simp only; omega)).trans u8
    have w0 : F.get G ⟨E.next, 0, some 0⟩ = some (.bool (decide ((p * (q + r)).num < 0))) := by rw [← hF]; simp [Hp.get, Hp.put_blk]
    have w1 : F.get G ⟨E.next, 1, some 0⟩ = some (.string (S (nb (p * (q + r)).num.natAbs))) := by rw [← hF]; simp [Hp.get, Hp.put_blk]
    have w2 : F.get G ⟨E.next, 2, some 0⟩ = some (.string (S (nb (p * (q + r)).den))) := by rw [← hF]; simp [Hp.get, Hp.put_blk]
    clear hF u0 u1 u2 u3 u4 u5 u6 u7 u8 hAE n0 n1 n2 lt0 lt1 lt2 ns0 hflE hFx
    refine call_of (rneg_ok hp (by omega)) ?_
    simp only [↓R1, R2, R3, R4, TY, reduceIte, Nat.reduceEqDiff, Nat.reduceAdd, Nat.reduceMul, Nat.reduceLT, Nat.reduceLeDiff, reduceCtorEq, decide_true, decide_false, Int.reduceLE, Int.reduceLT, Int.reduceToNat, Int.reduceAdd, Int.reduceSub, Int.reduceMul, Int.reduceEq, ratV_def, t7, t8, t9, v0, v1, v2, v3, v4, v5, v6, v7, v8, w0, w1, w2, heq, hgt, f1, f2, f3, f4, f5, f6, f7]
    refine call_of (radd_ok hp hp.neg (by omega)) ?_
    simp only [↓R1, R2, R3, R4, TY, reduceIte, Nat.reduceEqDiff, Nat.reduceAdd, Nat.reduceMul, Nat.reduceLT, Nat.reduceLeDiff, reduceCtorEq, decide_true, decide_false, Int.reduceLE, Int.reduceLT, Int.reduceToNat, Int.reduceAdd, Int.reduceSub, Int.reduceMul, Int.reduceEq, ratV_def, t7, t8, t9, v0, v1, v2, v3, v4, v5, v6, v7, v8, w0, w1, w2, heq, hgt, f1, f2, f3, f4, f5, f6, f7]
    refine call_of (rof_ok (n := 0) (by omega) (by omega)) ?_
    simp only [↓R1, R2, R3, R4, TY, reduceIte, Nat.reduceEqDiff, Nat.reduceAdd, Nat.reduceMul, Nat.reduceLT, Nat.reduceLeDiff, reduceCtorEq, decide_true, decide_false, Int.reduceLE, Int.reduceLT, Int.reduceToNat, Int.reduceAdd, Int.reduceSub, Int.reduceMul, Int.reduceEq, ratV_def, t7, t8, t9, v0, v1, v2, v3, v4, v5, v6, v7, v8, w0, w1, w2, heq, hgt, f1, f2, f3, f4, f5, f6, f7]
    refine call_of (rsub_ok hp hq (by omega)) ?_
    simp only [↓R1, R2, R3, R4, TY, reduceIte, Nat.reduceEqDiff, Nat.reduceAdd, Nat.reduceMul, Nat.reduceLT, Nat.reduceLeDiff, reduceCtorEq, decide_true, decide_false, Int.reduceLE, Int.reduceLT, Int.reduceToNat, Int.reduceAdd, Int.reduceSub, Int.reduceMul, Int.reduceEq, ratV_def, t7, t8, t9, v0, v1, v2, v3, v4, v5, v6, v7, v8, w0, w1, w2, heq, hgt, f1, f2, f3, f4, f5, f6, f7]
    refine call_of (rneg_ok hq (by omega)) ?_
    simp only [↓R1, R2, R3, R4, TY, reduceIte, Nat.reduceEqDiff, Nat.reduceAdd, Nat.reduceMul, Nat.reduceLT, Nat.reduceLeDiff, reduceCtorEq, decide_true, decide_false, Int.reduceLE, Int.reduceLT, Int.reduceToNat, Int.reduceAdd, Int.reduceSub, Int.reduceMul, Int.reduceEq, ratV_def, t7, t8, t9, v0, v1, v2, v3, v4, v5, v6, v7, v8, w0, w1, w2, heq, hgt, f1, f2, f3, f4, f5, f6, f7]
    refine call_of (radd_ok hp hq.neg (by omega)) ?_
    simp only [↓R1, R2, R3, R4, TY, reduceIte, Nat.reduceEqDiff, Nat.reduceAdd, Nat.reduceMul, Nat.reduceLT, Nat.reduceLeDiff, reduceCtorEq, decide_true, decide_false, Int.reduceLE, Int.reduceLT, Int.reduceToNat, Int.reduceAdd, Int.reduceSub, Int.reduceMul, Int.reduceEq, ratV_def, t7, t8, t9, v0, v1, v2, v3, v4, v5, v6, v7, v8, w0, w1, w2, heq, hgt, f1, f2, f3, f4, f5, f6, f7]
    refine call_of (rmul_ok hp hq (by omega)) ?_
    simp only [↓R1, R2, R3, R4, TY, reduceIte, Nat.reduceEqDiff, Nat.reduceAdd, Nat.reduceMul, Nat.reduceLT, Nat.reduceLeDiff, reduceCtorEq, decide_true, decide_false, Int.reduceLE, Int.reduceLT, Int.reduceToNat, Int.reduceAdd, Int.reduceSub, Int.reduceMul, Int.reduceEq, ratV_def, t7, t8, t9, v0, v1, v2, v3, v4, v5, v6, v7, v8, w0, w1, w2, heq, hgt, f1, f2, f3, f4, f5, f6, f7]
    refine call_of (rmul_ok hp hr (by omega)) ?_
    simp only [↓R1, R2, R3, R4, TY, reduceIte, Nat.reduceEqDiff, Nat.reduceAdd, Nat.reduceMul, Nat.reduceLT, Nat.reduceLeDiff, reduceCtorEq, decide_true, decide_false, Int.reduceLE, Int.reduceLT, Int.reduceToNat, Int.reduceAdd, Int.reduceSub, Int.reduceMul, Int.reduceEq, ratV_def, t7, t8, t9, v0, v1, v2, v3, v4, v5, v6, v7, v8, w0, w1, w2, heq, hgt, f1, f2, f3, f4, f5, f6, f7]
    refine call_of (radd_ok mpq mpr (by omega)) ?_
    simp only [↓R1, R2, R3, R4, TY, reduceIte, Nat.reduceEqDiff, Nat.reduceAdd, Nat.reduceMul, Nat.reduceLT, Nat.reduceLeDiff, reduceCtorEq, decide_true, decide_false, Int.reduceLE, Int.reduceLT, Int.reduceToNat, Int.reduceAdd, Int.reduceSub, Int.reduceMul, Int.reduceEq, ratV_def, t7, t8, t9, v0, v1, v2, v3, v4, v5, v6, v7, v8, w0, w1, w2, heq, hgt, f1, f2, f3, f4, f5, f6, f7]
    refine call_of (radd_ok hp hq (by omega)) ?_
    simp only [↓R1, R2, R3, R4, TY, reduceIte, Nat.reduceEqDiff, Nat.reduceAdd, Nat.reduceMul, Nat.reduceLT, Nat.reduceLeDiff, reduceCtorEq, decide_true, decide_false, Int.reduceLE, Int.reduceLT, Int.reduceToNat, Int.reduceAdd, Int.reduceSub, Int.reduceMul, Int.reduceEq, ratV_def, t7, t8, t9, v0, v1, v2, v3, v4, v5, v6, v7, v8, w0, w1, w2, heq, hgt, f1, f2, f3, f4, f5, f6, f7]
    refine call_of (radd_ok spq hr (by omega)) ?_
    simp only [↓R1, R2, R3, R4, TY, reduceIte, Nat.reduceEqDiff, Nat.reduceAdd, Nat.reduceMul, Nat.reduceLT, Nat.reduceLeDiff, reduceCtorEq, decide_true, decide_false, Int.reduceLE, Int.reduceLT, Int.reduceToNat, Int.reduceAdd, Int.reduceSub, Int.reduceMul, Int.reduceEq, ratV_def, t7, t8, t9, v0, v1, v2, v3, v4, v5, v6, v7, v8, w0, w1, w2, heq, hgt, f1, f2, f3, f4, f5, f6, f7]
    refine call_of (radd_ok hq hr (by omega)) ?_
    simp only [↓R1, R2, R3, R4, TY, reduceIte, Nat.reduceEqDiff, Nat.reduceAdd, Nat.reduceMul, Nat.reduceLT, Nat.reduceLeDiff, reduceCtorEq, decide_true, decide_false, Int.reduceLE, Int.reduceLT, Int.reduceToNat, Int.reduceAdd, Int.reduceSub, Int.reduceMul, Int.reduceEq, ratV_def, t7, t8, t9, v0, v1, v2, v3, v4, v5, v6, v7, v8, w0, w1, w2, heq, hgt, f1, f2, f3, f4, f5, f6, f7]
    refine call_of (radd_ok hp sqr (by omega)) ?_
    simp only [↓R1, R2, R3, R4, TY, reduceIte, Nat.reduceEqDiff, Nat.reduceAdd, Nat.reduceMul, Nat.reduceLT, Nat.reduceLeDiff, reduceCtorEq, decide_true, decide_false, Int.reduceLE, Int.reduceLT, Int.reduceToNat, Int.reduceAdd, Int.reduceSub, Int.reduceMul, Int.reduceEq, ratV_def, t7, t8, t9, v0, v1, v2, v3, v4, v5, v6, v7, v8, w0, w1, w2, heq, hgt, f1, f2, f3, f4, f5, f6, f7]
    refine call_of (rmul_ok hp hq (by omega)) ?_
    simp only [↓R1, R2, R3, R4, TY, reduceIte, Nat.reduceEqDiff, Nat.reduceAdd, Nat.reduceMul, Nat.reduceLT, Nat.reduceLeDiff, reduceCtorEq, decide_true, decide_false, Int.reduceLE, Int.reduceLT, Int.reduceToNat, Int.reduceAdd, Int.reduceSub, Int.reduceMul, Int.reduceEq, ratV_def, t7, t8, t9, v0, v1, v2, v3, v4, v5, v6, v7, v8, w0, w1, w2, heq, hgt, f1, f2, f3, f4, f5, f6, f7]
    refine call_of (rmul_ok mpq hr (by omega)) ?_
    simp only [↓R1, R2, R3, R4, TY, reduceIte, Nat.reduceEqDiff, Nat.reduceAdd, Nat.reduceMul, Nat.reduceLT, Nat.reduceLeDiff, reduceCtorEq, decide_true, decide_false, Int.reduceLE, Int.reduceLT, Int.reduceToNat, Int.reduceAdd, Int.reduceSub, Int.reduceMul, Int.reduceEq, ratV_def, t7, t8, t9, v0, v1, v2, v3, v4, v5, v6, v7, v8, w0, w1, w2, heq, hgt, f1, f2, f3, f4, f5, f6, f7]
    refine call_of (rmul_ok hq hr (by omega)) ?_
    simp only [↓R1, R2, R3, R4, TY, reduceIte, Nat.reduceEqDiff, Nat.reduceAdd, Nat.reduceMul, Nat.reduceLT, Nat.reduceLeDiff, reduceCtorEq, decide_true, decide_false, Int.reduceLE, Int.reduceLT, Int.reduceToNat, Int.reduceAdd, Int.reduceSub, Int.reduceMul, Int.reduceEq, ratV_def, t7, t8, t9, v0, v1, v2, v3, v4, v5, v6, v7, v8, w0, w1, w2, heq, hgt, f1, f2, f3, f4, f5, f6, f7]
    refine call_of (rmul_ok hp mqr (by omega)) ?_
    simp only [↓R1, R2, R3, R4, TY, reduceIte, Nat.reduceEqDiff, Nat.reduceAdd, Nat.reduceMul, Nat.reduceLT, Nat.reduceLeDiff, reduceCtorEq, decide_true, decide_false, Int.reduceLE, Int.reduceLT, Int.reduceToNat, Int.reduceAdd, Int.reduceSub, Int.reduceMul, Int.reduceEq, ratV_def, t7, t8, t9, v0, v1, v2, v3, v4, v5, v6, v7, v8, w0, w1, w2, heq, hgt, f1, f2, f3, f4, f5, f6, f7]
    refine call_of (rof_ok (n := 1) (by omega) (by omega)) ?_
    simp only [↓R1, R2, R3, R4, TY, reduceIte, Nat.reduceEqDiff, Nat.reduceAdd, Nat.reduceMul, Nat.reduceLT, Nat.reduceLeDiff, reduceCtorEq, decide_true, decide_false, Int.reduceLE, Int.reduceLT, Int.reduceToNat, Int.reduceAdd, Int.reduceSub, Int.reduceMul, Int.reduceEq, ratV_def, t7, t8, t9, v0, v1, v2, v3, v4, v5, v6, v7, v8, w0, w1, w2, heq, hgt, f1, f2, f3, f4, f5, f6, f7]
    refine call_of (rmul_ok hp s1 (by omega)) ?_
    simp only [↓R1, R2, R3, R4, TY, reduceIte, Nat.reduceEqDiff, Nat.reduceAdd, Nat.reduceMul, Nat.reduceLT, Nat.reduceLeDiff, reduceCtorEq, decide_true, decide_false, Int.reduceLE, Int.reduceLT, Int.reduceToNat, Int.reduceAdd, Int.reduceSub, Int.reduceMul, Int.reduceEq, ratV_def, t7, t8, t9, v0, v1, v2, v3, v4, v5, v6, v7, v8, w0, w1, w2, heq, hgt, f1, f2, f3, f4, f5, f6, f7]
    refine call_of (rof_ok (n := 0) (by omega) (by omega)) ?_
    simp only [↓R1, R2, R3, R4, TY, reduceIte, Nat.reduceEqDiff, Nat.reduceAdd, Nat.reduceMul, Nat.reduceLT, Nat.reduceLeDiff, reduceCtorEq, decide_true, decide_false, Int.reduceLE, Int.reduceLT, Int.reduceToNat, Int.reduceAdd, Int.reduceSub, Int.reduceMul, Int.reduceEq, ratV_def, t7, t8, t9, v0, v1, v2, v3, v4, v5, v6, v7, v8, w0, w1, w2, heq, hgt, f1, f2, f3, f4, f5, f6, f7]
    refine call_of (radd_ok hp s0 (by omega)) ?_
    simp only [↓R1, R2, R3, R4, TY, reduceIte, Nat.reduceEqDiff, Nat.reduceAdd, Nat.reduceMul, Nat.reduceLT, Nat.reduceLeDiff, reduceCtorEq, decide_true, decide_false, Int.reduceLE, Int.reduceLT, Int.reduceToNat, Int.reduceAdd, Int.reduceSub, Int.reduceMul, Int.reduceEq, ratV_def, t7, t8, t9, v0, v1, v2, v3, v4, v5, v6, v7, v8, w0, w1, w2, heq, hgt, f1, f2, f3, f4, f5, f6, f7]
    exact fin _ _ hAF rfl
  · refine call_of (rdiv_ok hp hq (by omega) hq0) ?_
    have hsg : (rsign q = 0) = False := by rw [rsign, if_neg hq0]; split <;> simp
    simp only [↓R1, R2, R3, R4, TY, reduceIte, Nat.reduceEqDiff, Nat.reduceAdd, Nat.reduceMul, Nat.reduceLT, Nat.reduceLeDiff, reduceCtorEq, decide_true, decide_false, Int.reduceLE, Int.reduceLT, Int.reduceToNat, Int.reduceAdd, Int.reduceSub, Int.reduceMul, Int.reduceEq, ratV_def, r7, r8, r9, g0', g1', g2', g3', g4', g5', g6', g7', g8', hflD, n0, n1, n2, lt0, lt1, lt2]
    have hsn := fun fl A => rsign_ok (G := G) (fl := fl) (A := A) hq (by omega)
    refine call_of (hsn _ _) ?_
    simp only [↓R1, R2, R3, R4, TY, reduceIte, Nat.reduceEqDiff, Nat.reduceAdd, Nat.reduceMul, Nat.reduceLT, Nat.reduceLeDiff, reduceCtorEq, decide_true, decide_false, Int.reduceLE, Int.reduceLT, Int.reduceToNat, Int.reduceAdd, Int.reduceSub, Int.reduceMul, Int.reduceEq, ratV_def, r7, r8, r9, g0', g1', g2', g3', g4', g5', g6', g7', g8', hflD, n0, n1, n2, lt0, lt1, lt2, hsg, ft_ne, tf_ne, beq_self_eq_true]
    have hdsz := hp.div hq hq0
    refine call_of (rmul_ok hdsz hq (by omega)) ?_
    have hdc : p / q * q = p := Rat.div_mul_cancel (fun e => hq0 (by rw [e]; rfl))
    rw [hdc]
    simp only [↓R1, R2, R3, R4, TY, reduceIte, Nat.reduceEqDiff, Nat.reduceAdd, Nat.reduceMul, Nat.reduceLT, Nat.reduceLeDiff, reduceCtorEq, decide_true, decide_false, Int.reduceLE, Int.reduceLT, Int.reduceToNat, Int.reduceAdd, Int.reduceSub, Int.reduceMul, Int.reduceEq, ratV_def, r7, r8, r9, g0', g1', g2', g3', g4', g5', g6', g7', g8', hflD, n0, n1, n2, lt0, lt1, lt2, hsg, ft_ne, tf_ne, beq_self_eq_true, hgt, heq]
    generalize hτ : updO _ _ _ = τ2
    generalize hE : Hp.put _ _ _ = E
    have t7 : τ2 7 = some (.pointer (some ⟨A.next, 0, some 0⟩)) := by rw [← hτ]; exact r7
    have t8 : τ2 8 = some (.pointer (some ⟨A.next + 1, 0, some 0⟩)) := by rw [← hτ]; exact r8
    have t9 : τ2 9 = some (.pointer (some ⟨A.next + 2, 0, some 0⟩)) := by rw [← hτ]; exact r9
    have t69 : τ2 69 = some (.agg #[.bool (decide (p.num < 0)), .string (S (nb p.num.natAbs)), .string (S (nb p.den))]) := by rw [← hτ]; rfl
    clear hτ
    have hEn : E.next = D.next + 1 := by rw [← hE]; rfl
    have hEx : Xt D.next D E := by rw [← hE]; exact ((Xt.refl D).push _).put (Nat.le_refl _) _
    clear hE
    have hAE : Xt A.next A E := hAD.trans hEx
    have u0 := (hEx.get (G := G) (a := ⟨A.next, 0, some 0⟩) (by simp only; omega)).trans g0'
    have u1 := (hEx.get (G := G) (a := ⟨A.next, 1, some 0⟩) (by simp only; omega)).trans g1'
    have u2 := (hEx.get (G := G) (a := ⟨A.next, 2, some 0⟩) (by simp only; omega)).trans g2'
    have u3 := (hEx.get (G := G) (a := ⟨A.next + 1, 0, some 0⟩) (by simp only; omega)).trans g3'
    have u4 := (hEx.get (G := G) (a := ⟨A.next + 1, 1, some 0⟩) (by simp only; omega)).trans g4'
    have u5 := (hEx.get (G := G) (a := ⟨A.next + 1, 2, some 0⟩) (by simp only; omega)).trans g5'
    have u6 := (hEx.get (G := G) (a := ⟨A.next + 2, 0, some 0⟩) (by simp only; omega)).trans g6'
    have u7 := (hEx.get (G := G) (a := ⟨A.next + 2, 1, some 0⟩) (by simp only; omega)).trans g7'
    have u8 := (hEx.get (G := G) (a := ⟨A.next + 2, 2, some 0⟩) (by simp only; omega)).trans g8'
    clear r7 r8 r9 g0' g1' g2' g3' g4' g5' g6' g7' g8' hflD n0 n1 n2 lt0 lt1 lt2 ns0 e12 hEx
    have hflE : fl ≤ E.next := by omega
    have n0 : (A.next = E.next) = False := eq_false (by omega)
    have n1 : (A.next + 1 = E.next) = False := eq_false (by omega)
    have n2 : (A.next + 2 = E.next) = False := eq_false (by omega)
    have lt0 : A.next < E.next := by omega
    have lt1 : A.next + 1 < E.next := by omega
    have lt2 : A.next + 2 < E.next := by omega
    have ns0 : (E.next = A.next) = False := eq_false (by omega)
    have sqr := hq.add hr
    have mqr := hq.mul hr
    have mpr := hp.mul hr
    have s0 := sz_of (n := 0) (k := 1) (by omega) (by omega)
    have s1 := sz_of (n := 1) (k := 1) (by omega) (by omega)
    have f1 : (p + -p = rOf 0) = True := eq_true (by rw [Rat.add_neg_cancel, rOf_eq]; rfl)
    have f2 : (p - q = p + -q) = True := eq_true (Rat.sub_eq_add_neg p q)
    have f3 : (p * (q + r) = p * q + p * r) = True := eq_true (Rat.mul_add p q r)
    have f4 : (p + q + r = p + (q + r)) = True := eq_true (Rat.add_assoc p q r)
    have f5 : (p * q * r = p * (q * r)) = True := eq_true (Rat.mul_assoc p q r)
    have f6 : (p * rOf 1 = p) = True := eq_true (by rw [rOf_eq]; exact Rat.mul_one p)
    have f7 : (p + rOf 0 = p) = True := eq_true (by rw [rOf_eq]; exact Rat.add_zero p)
    refine call_of (radd_ok hq hr (by omega)) ?_
    simp only [↓R1, R2, R3, R4, TY, reduceIte, Nat.reduceEqDiff, Nat.reduceAdd, Nat.reduceMul, Nat.reduceLT, Nat.reduceLeDiff, reduceCtorEq, decide_true, decide_false, Int.reduceLE, Int.reduceLT, Int.reduceToNat, Int.reduceAdd, Int.reduceSub, Int.reduceMul, Int.reduceEq, ratV_def, t69, t7, t8, t9, u0, u1, u2, u3, u4, u5, u6, u7, u8, lt0, lt1, lt2, n0, n1, n2, ns0, hflE, heq, hgt]
    refine call_of (rmul_ok hp sqr (by omega)) ?_
    simp only [↓R1, R2, R3, R4, TY, reduceIte, Nat.reduceEqDiff, Nat.reduceAdd, Nat.reduceMul, Nat.reduceLT, Nat.reduceLeDiff, reduceCtorEq, decide_true, decide_false, Int.reduceLE, Int.reduceLT, Int.reduceToNat, Int.reduceAdd, Int.reduceSub, Int.reduceMul, Int.reduceEq, ratV_def, t69, t7, t8, t9, u0, u1, u2, u3, u4, u5, u6, u7, u8, lt0, lt1, lt2, n0, n1, n2, ns0, hflE, heq, hgt]
    rw [floOf_wr (by kernel_rfl)]
    simp only [↓R1, R2, R3, R4, TY, reduceIte, Nat.reduceEqDiff, Nat.reduceAdd, Nat.reduceMul, Nat.reduceLT, Nat.reduceLeDiff, reduceCtorEq, decide_true, decide_false, Int.reduceLE, Int.reduceLT, Int.reduceToNat, Int.reduceAdd, Int.reduceSub, Int.reduceMul, Int.reduceEq, ratV_def, t69, t7, t8, t9, u0, u1, u2, u3, u4, u5, u6, u7, u8, lt0, lt1, lt2, n0, n1, n2, ns0, hflE, heq, hgt, append_eq, List.cons_append, List.nil_append]
    generalize hF : Hp.put _ _ _ = F
    have hFx : Xt E.next E F := by rw [← hF]; exact ((Xt.refl E).push _).put (Nat.le_refl _) _
    have hAF : Xt A.next A F := hAE.trans hFx
    have v0 := (hFx.get (G := G) (a := ⟨A.next, 0, some 0⟩) (by simp only; omega)).trans u0
    have v1 := (hFx.get (G := G) (a := ⟨A.next, 1, some 0⟩) (by simp only; omega)).trans u1
    have v2 := (hFx.get (G := G) (a := ⟨A.next, 2, some 0⟩) (by simp only; omega)).trans u2
    have v3 := (hFx.get (G := G) (a := ⟨A.next + 1, 0, some 0⟩) (by simp only; omega)).trans u3
    have v4 := (hFx.get (G := G) (a := ⟨A.next + 1, 1, some 0⟩) (by simp only; omega)).trans u4
    have v5 := (hFx.get (G := G) (a := ⟨A.next + 1, 2, some 0⟩) (by simp only; omega)).trans u5
    have v6 := (hFx.get (G := G) (a := ⟨A.next + 2, 0, some 0⟩) (by simp only; omega)).trans u6
    have v7 := (hFx.get (G := G) (a := ⟨A.next + 2, 1, some 0⟩) (by simp only; omega)).trans u7
    have v8 := (hFx.get (G := G) (a := ⟨A.next + 2, 2, some 0⟩) (by simp only; omega)).trans u8
    have w0 : F.get G ⟨E.next, 0, some 0⟩ = some (.bool (decide ((p * (q + r)).num < 0))) := by rw [← hF]; simp [Hp.get, Hp.put_blk]
    have w1 : F.get G ⟨E.next, 1, some 0⟩ = some (.string (S (nb (p * (q + r)).num.natAbs))) := by rw [← hF]; simp [Hp.get, Hp.put_blk]
    have w2 : F.get G ⟨E.next, 2, some 0⟩ = some (.string (S (nb (p * (q + r)).den))) := by rw [← hF]; simp [Hp.get, Hp.put_blk]
    clear hF u0 u1 u2 u3 u4 u5 u6 u7 u8 hAE n0 n1 n2 lt0 lt1 lt2 ns0 hflE hFx
    refine call_of (rneg_ok hp (by omega)) ?_
    simp only [↓R1, R2, R3, R4, TY, reduceIte, Nat.reduceEqDiff, Nat.reduceAdd, Nat.reduceMul, Nat.reduceLT, Nat.reduceLeDiff, reduceCtorEq, decide_true, decide_false, Int.reduceLE, Int.reduceLT, Int.reduceToNat, Int.reduceAdd, Int.reduceSub, Int.reduceMul, Int.reduceEq, ratV_def, t7, t8, t9, v0, v1, v2, v3, v4, v5, v6, v7, v8, w0, w1, w2, heq, hgt, f1, f2, f3, f4, f5, f6, f7]
    refine call_of (radd_ok hp hp.neg (by omega)) ?_
    simp only [↓R1, R2, R3, R4, TY, reduceIte, Nat.reduceEqDiff, Nat.reduceAdd, Nat.reduceMul, Nat.reduceLT, Nat.reduceLeDiff, reduceCtorEq, decide_true, decide_false, Int.reduceLE, Int.reduceLT, Int.reduceToNat, Int.reduceAdd, Int.reduceSub, Int.reduceMul, Int.reduceEq, ratV_def, t7, t8, t9, v0, v1, v2, v3, v4, v5, v6, v7, v8, w0, w1, w2, heq, hgt, f1, f2, f3, f4, f5, f6, f7]
    refine call_of (rof_ok (n := 0) (by omega) (by omega)) ?_
    simp only [↓R1, R2, R3, R4, TY, reduceIte, Nat.reduceEqDiff, Nat.reduceAdd, Nat.reduceMul, Nat.reduceLT, Nat.reduceLeDiff, reduceCtorEq, decide_true, decide_false, Int.reduceLE, Int.reduceLT, Int.reduceToNat, Int.reduceAdd, Int.reduceSub, Int.reduceMul, Int.reduceEq, ratV_def, t7, t8, t9, v0, v1, v2, v3, v4, v5, v6, v7, v8, w0, w1, w2, heq, hgt, f1, f2, f3, f4, f5, f6, f7]
    refine call_of (rsub_ok hp hq (by omega)) ?_
    simp only [↓R1, R2, R3, R4, TY, reduceIte, Nat.reduceEqDiff, Nat.reduceAdd, Nat.reduceMul, Nat.reduceLT, Nat.reduceLeDiff, reduceCtorEq, decide_true, decide_false, Int.reduceLE, Int.reduceLT, Int.reduceToNat, Int.reduceAdd, Int.reduceSub, Int.reduceMul, Int.reduceEq, ratV_def, t7, t8, t9, v0, v1, v2, v3, v4, v5, v6, v7, v8, w0, w1, w2, heq, hgt, f1, f2, f3, f4, f5, f6, f7]
    refine call_of (rneg_ok hq (by omega)) ?_
    simp only [↓R1, R2, R3, R4, TY, reduceIte, Nat.reduceEqDiff, Nat.reduceAdd, Nat.reduceMul, Nat.reduceLT, Nat.reduceLeDiff, reduceCtorEq, decide_true, decide_false, Int.reduceLE, Int.reduceLT, Int.reduceToNat, Int.reduceAdd, Int.reduceSub, Int.reduceMul, Int.reduceEq, ratV_def, t7, t8, t9, v0, v1, v2, v3, v4, v5, v6, v7, v8, w0, w1, w2, heq, hgt, f1, f2, f3, f4, f5, f6, f7]
    refine call_of (radd_ok hp hq.neg (by omega)) ?_
    simp only [↓R1, R2, R3, R4, TY, reduceIte, Nat.reduceEqDiff, Nat.reduceAdd, Nat.reduceMul, Nat.reduceLT, Nat.reduceLeDiff, reduceCtorEq, decide_true, decide_false, Int.reduceLE, Int.reduceLT, Int.reduceToNat, Int.reduceAdd, Int.reduceSub, Int.reduceMul, Int.reduceEq, ratV_def, t7, t8, t9, v0, v1, v2, v3, v4, v5, v6, v7, v8, w0, w1, w2, heq, hgt, f1, f2, f3, f4, f5, f6, f7]
    refine call_of (rmul_ok hp hq (by omega)) ?_
    simp only [↓R1, R2, R3, R4, TY, reduceIte, Nat.reduceEqDiff, Nat.reduceAdd, Nat.reduceMul, Nat.reduceLT, Nat.reduceLeDiff, reduceCtorEq, decide_true, decide_false, Int.reduceLE, Int.reduceLT, Int.reduceToNat, Int.reduceAdd, Int.reduceSub, Int.reduceMul, Int.reduceEq, ratV_def, t7, t8, t9, v0, v1, v2, v3, v4, v5, v6, v7, v8, w0, w1, w2, heq, hgt, f1, f2, f3, f4, f5, f6, f7]
    refine call_of (rmul_ok hp hr (by omega)) ?_
    simp only [↓R1, R2, R3, R4, TY, reduceIte, Nat.reduceEqDiff, Nat.reduceAdd, Nat.reduceMul, Nat.reduceLT, Nat.reduceLeDiff, reduceCtorEq, decide_true, decide_false, Int.reduceLE, Int.reduceLT, Int.reduceToNat, Int.reduceAdd, Int.reduceSub, Int.reduceMul, Int.reduceEq, ratV_def, t7, t8, t9, v0, v1, v2, v3, v4, v5, v6, v7, v8, w0, w1, w2, heq, hgt, f1, f2, f3, f4, f5, f6, f7]
    refine call_of (radd_ok mpq mpr (by omega)) ?_
    simp only [↓R1, R2, R3, R4, TY, reduceIte, Nat.reduceEqDiff, Nat.reduceAdd, Nat.reduceMul, Nat.reduceLT, Nat.reduceLeDiff, reduceCtorEq, decide_true, decide_false, Int.reduceLE, Int.reduceLT, Int.reduceToNat, Int.reduceAdd, Int.reduceSub, Int.reduceMul, Int.reduceEq, ratV_def, t7, t8, t9, v0, v1, v2, v3, v4, v5, v6, v7, v8, w0, w1, w2, heq, hgt, f1, f2, f3, f4, f5, f6, f7]
    refine call_of (radd_ok hp hq (by omega)) ?_
    simp only [↓R1, R2, R3, R4, TY, reduceIte, Nat.reduceEqDiff, Nat.reduceAdd, Nat.reduceMul, Nat.reduceLT, Nat.reduceLeDiff, reduceCtorEq, decide_true, decide_false, Int.reduceLE, Int.reduceLT, Int.reduceToNat, Int.reduceAdd, Int.reduceSub, Int.reduceMul, Int.reduceEq, ratV_def, t7, t8, t9, v0, v1, v2, v3, v4, v5, v6, v7, v8, w0, w1, w2, heq, hgt, f1, f2, f3, f4, f5, f6, f7]
    refine call_of (radd_ok spq hr (by omega)) ?_
    simp only [↓R1, R2, R3, R4, TY, reduceIte, Nat.reduceEqDiff, Nat.reduceAdd, Nat.reduceMul, Nat.reduceLT, Nat.reduceLeDiff, reduceCtorEq, decide_true, decide_false, Int.reduceLE, Int.reduceLT, Int.reduceToNat, Int.reduceAdd, Int.reduceSub, Int.reduceMul, Int.reduceEq, ratV_def, t7, t8, t9, v0, v1, v2, v3, v4, v5, v6, v7, v8, w0, w1, w2, heq, hgt, f1, f2, f3, f4, f5, f6, f7]
    refine call_of (radd_ok hq hr (by omega)) ?_
    simp only [↓R1, R2, R3, R4, TY, reduceIte, Nat.reduceEqDiff, Nat.reduceAdd, Nat.reduceMul, Nat.reduceLT, Nat.reduceLeDiff, reduceCtorEq, decide_true, decide_false, Int.reduceLE, Int.reduceLT, Int.reduceToNat, Int.reduceAdd, Int.reduceSub, Int.reduceMul, Int.reduceEq, ratV_def, t7, t8, t9, v0, v1, v2, v3, v4, v5, v6, v7, v8, w0, w1, w2, heq, hgt, f1, f2, f3, f4, f5, f6, f7]
    refine call_of (radd_ok hp sqr (by omega)) ?_
    simp only [↓R1, R2, R3, R4, TY, reduceIte, Nat.reduceEqDiff, Nat.reduceAdd, Nat.reduceMul, Nat.reduceLT, Nat.reduceLeDiff, reduceCtorEq, decide_true, decide_false, Int.reduceLE, Int.reduceLT, Int.reduceToNat, Int.reduceAdd, Int.reduceSub, Int.reduceMul, Int.reduceEq, ratV_def, t7, t8, t9, v0, v1, v2, v3, v4, v5, v6, v7, v8, w0, w1, w2, heq, hgt, f1, f2, f3, f4, f5, f6, f7]
    refine call_of (rmul_ok hp hq (by omega)) ?_
    simp only [↓R1, R2, R3, R4, TY, reduceIte, Nat.reduceEqDiff, Nat.reduceAdd, Nat.reduceMul, Nat.reduceLT, Nat.reduceLeDiff, reduceCtorEq, decide_true, decide_false, Int.reduceLE, Int.reduceLT, Int.reduceToNat, Int.reduceAdd, Int.reduceSub, Int.reduceMul, Int.reduceEq, ratV_def, t7, t8, t9, v0, v1, v2, v3, v4, v5, v6, v7, v8, w0, w1, w2, heq, hgt, f1, f2, f3, f4, f5, f6, f7]
    refine call_of (rmul_ok mpq hr (by omega)) ?_
    simp only [↓R1, R2, R3, R4, TY, reduceIte, Nat.reduceEqDiff, Nat.reduceAdd, Nat.reduceMul, Nat.reduceLT, Nat.reduceLeDiff, reduceCtorEq, decide_true, decide_false, Int.reduceLE, Int.reduceLT, Int.reduceToNat, Int.reduceAdd, Int.reduceSub, Int.reduceMul, Int.reduceEq, ratV_def, t7, t8, t9, v0, v1, v2, v3, v4, v5, v6, v7, v8, w0, w1, w2, heq, hgt, f1, f2, f3, f4, f5, f6, f7]
    refine call_of (rmul_ok hq hr (by omega)) ?_
    simp only [↓R1, R2, R3, R4, TY, reduceIte, Nat.reduceEqDiff, Nat.reduceAdd, Nat.reduceMul, Nat.reduceLT, Nat.reduceLeDiff, reduceCtorEq, decide_true, decide_false, Int.reduceLE, Int.reduceLT, Int.reduceToNat, Int.reduceAdd, Int.reduceSub, Int.reduceMul, Int.reduceEq, ratV_def, t7, t8, t9, v0, v1, v2, v3, v4, v5, v6, v7, v8, w0, w1, w2, heq, hgt, f1, f2, f3, f4, f5, f6, f7]
    refine call_of (rmul_ok hp mqr (by omega)) ?_
    simp only [↓R1, R2, R3, R4, TY, reduceIte, Nat.reduceEqDiff, Nat.reduceAdd, Nat.reduceMul, Nat.reduceLT, Nat.reduceLeDiff, reduceCtorEq, decide_true, decide_false, Int.reduceLE, Int.reduceLT, Int.reduceToNat, Int.reduceAdd, Int.reduceSub, Int.reduceMul, Int.reduceEq, ratV_def, t7, t8, t9, v0, v1, v2, v3, v4, v5, v6, v7, v8, w0, w1, w2, heq, hgt, f1, f2, f3, f4, f5, f6, f7]
    refine call_of (rof_ok (n := 1) (by omega) (by omega)) ?_
    simp only [↓R1, R2, R3, R4, TY, reduceIte, Nat.reduceEqDiff, Nat.reduceAdd, Nat.reduceMul, Nat.reduceLT, Nat.reduceLeDiff, reduceCtorEq, decide_true, decide_false, Int.reduceLE, Int.reduceLT, Int.reduceToNat, Int.reduceAdd, Int.reduceSub, Int.reduceMul, Int.reduceEq, ratV_def, t7, t8, t9, v0, v1, v2, v3, v4, v5, v6, v7, v8, w0, w1, w2, heq, hgt, f1, f2, f3, f4, f5, f6, f7]
    refine call_of (rmul_ok hp s1 (by omega)) ?_
    simp only [↓R1, R2, R3, R4, TY, reduceIte, Nat.reduceEqDiff, Nat.reduceAdd, Nat.reduceMul, Nat.reduceLT, Nat.reduceLeDiff, reduceCtorEq, decide_true, decide_false, Int.reduceLE, Int.reduceLT, Int.reduceToNat, Int.reduceAdd, Int.reduceSub, Int.reduceMul, Int.reduceEq, ratV_def, t7, t8, t9, v0, v1, v2, v3, v4, v5, v6, v7, v8, w0, w1, w2, heq, hgt, f1, f2, f3, f4, f5, f6, f7]
    refine call_of (rof_ok (n := 0) (by omega) (by omega)) ?_
    simp only [↓R1, R2, R3, R4, TY, reduceIte, Nat.reduceEqDiff, Nat.reduceAdd, Nat.reduceMul, Nat.reduceLT, Nat.reduceLeDiff, reduceCtorEq, decide_true, decide_false, Int.reduceLE, Int.reduceLT, Int.reduceToNat, Int.reduceAdd, Int.reduceSub, Int.reduceMul, Int.reduceEq, ratV_def, t7, t8, t9, v0, v1, v2, v3, v4, v5, v6, v7, v8, w0, w1, w2, heq, hgt, f1, f2, f3, f4, f5, f6, f7]
    refine call_of (radd_ok hp s0 (by omega)) ?_
    simp only [↓R1, R2, R3, R4, TY, reduceIte, Nat.reduceEqDiff, Nat.reduceAdd, Nat.reduceMul, Nat.reduceLT, Nat.reduceLeDiff, reduceCtorEq, decide_true, decide_false, Int.reduceLE, Int.reduceLT, Int.reduceToNat, Int.reduceAdd, Int.reduceSub, Int.reduceMul, Int.reduceEq, ratV_def, t7, t8, t9, v0, v1, v2, v3, v4, v5, v6, v7, v8, w0, w1, w2, heq, hgt, f1, f2, f3, f4, f5, f6, f7]
    exact fin _ _ hAF rfl
end
end Go.Proofs.YtpaffoiiipgkeaaDoor.Ab
