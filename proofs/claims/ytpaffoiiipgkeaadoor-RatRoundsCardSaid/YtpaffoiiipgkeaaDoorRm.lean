/- Rounded numbers are multiples and less than a unit away. -/
import Derived.Test.YtpaffoiiipgkeaaDoorRl
namespace Go.Proofs.YtpaffoiiipgkeaaDoor.Ab
open Go.RowKit
set_option linter.unusedVariables false
set_option linter.unusedSimpArgs false
set_option maxRecDepth 100000

section
variable {G : Gl} {fl : Nat} {A : Hp}

set_option maxHeartbeats 8000000 in
theorem ratRounds_calls {x1 x2 : Int} (k1 : -9223372036854775808 ≤ x1 ∧ x1 ≤ 9223372036854775807) (k2 : -9223372036854775808 ≤ x2 ∧ x2 ≤ 9223372036854775807) :
    ∀ (μ : Mu) (w : World) (args' : Array Value), HR G μ fl A w → fl ≤ A.next → VRa μ A [.int .i64 x1, .int .i64 x2].toArray args' →
    Calls Tryd.prog 8 args' w fun e w' => ∃ u, e = .returned u ∧ ∃ ν, VR ν A (.bool true) u ∧ HR G ν fl A w' ∧ Trans fl μ A w ν A w' := by
  refine calls_of mixed Tryd.func8 Tryd.ntmps8 Tryd.results8 (by kernel_rfl) rfl (by kernel_rfl) (by simp) fun hA => ?_
  have fin : ∀ (b : Bool) (B : Hp), Xt A.next A B → b = true → Ended A (.bool b) B (.bool true) A := fun b B hB hb => Ended.back hA hB (congrArg _ hb) (RB.bool _)
  have hp := mrat_sz x1
  have hfl : fl ≤ A.next := hA.floor
  have hfl1 : fl ≤ A.next + 1 := by omega
  have hfl2 : fl ≤ A.next + 2 := by omega
  have hfl3 : fl ≤ A.next + 3 := by omega
  have hbr := below_range (x := x2) (n := 40) (by omega)
  obtain ⟨d, hd⟩ : ∃ d : Nat, 1 + below x2 40 = (d : Int) := ⟨(1 + below x2 40).toNat, by omega⟩
  have hd1 : 0 < d := by omega
  have hd40 : d ≤ 40 := by omega
  have w1 : IntKind.i64.wrap (1 + below x2 40) = ((d : Nat) : Int) := by rw [wrapI (by omega), hd]
  have s1 : Sz (rOf 1) 1 := sz_of (by decide) (by omega)
  have sd : Sz (rOf d) 40 := sz_nat hd40 (by omega)
  have su := s1.div sd (by rw [rOf_num]; omega)
  simp only [↓R1, R2, R3, R4, TY, reduceIte, Nat.reduceEqDiff, Nat.reduceAdd, Nat.reduceMul, Nat.reduceLT, Nat.reduceLeDiff, reduceCtorEq, decide_true, decide_false, Int.reduceLE, Int.reduceLT, Int.reduceToNat, Int.reduceAdd, Int.reduceSub, Int.reduceMul, Int.reduceEq]
  refine call_of ratBegun_ok ?_
  simp only [↓R1, R2, R3, R4, TY, reduceIte, Nat.reduceEqDiff, Nat.reduceAdd, Nat.reduceMul, Nat.reduceLT, Nat.reduceLeDiff, reduceCtorEq, decide_true, decide_false, Int.reduceLE, Int.reduceLT, Int.reduceToNat, Int.reduceAdd, Int.reduceSub, Int.reduceMul, Int.reduceEq]
  refine call_of (mrat_ok k1.1 k1.2) ?_
  simp only [↓R1, R2, R3, R4, TY, reduceIte, Nat.reduceEqDiff, Nat.reduceAdd, Nat.reduceMul, Nat.reduceLT, Nat.reduceLeDiff, reduceCtorEq, decide_true, decide_false, Int.reduceLE, Int.reduceLT, Int.reduceToNat, Int.reduceAdd, Int.reduceSub, Int.reduceMul, Int.reduceEq]
  refine call_of (below_ok (by omega) (by omega) k2.1 k2.2) ?_
  generalize mrat x1 = p at *
  simp only [↓R1, R2, R3, R4, TY, reduceIte, Nat.reduceEqDiff, Nat.reduceAdd, Nat.reduceMul, Nat.reduceLT, Nat.reduceLeDiff, reduceCtorEq, decide_true, decide_false, Int.reduceLE, Int.reduceLT, Int.reduceToNat, Int.reduceAdd, Int.reduceSub, Int.reduceMul, Int.reduceEq, ratV_def, hfl, hfl1, hfl2, hfl3, NE, w1]
  refine call_of (rmake_ok (by omega) (by omega) (by omega) (by omega) (by omega)) ?_
  generalize hu : rOf 1 / rOf d = u at *
  simp only [↓R1, R2, R3, R4, TY, reduceIte, Nat.reduceEqDiff, Nat.reduceAdd, Nat.reduceMul, Nat.reduceLT, Nat.reduceLeDiff, reduceCtorEq, decide_true, decide_false, Int.reduceLE, Int.reduceLT, Int.reduceToNat, Int.reduceAdd, Int.reduceSub, Int.reduceMul, Int.reduceEq, ratV_def, hfl, hfl1, hfl2, hfl3, NE, w1]
  generalize hB : Hp.put _ _ _ = B
  have hBn : B.next = A.next + 2 := by rw [← hB]; rfl
  have hBx : Xt A.next A B := by rw [← hB]; exact ((((Xt.refl A).push _).put (Nat.le_refl _) _).push _).put (by omega) _
  have g0 : B.get G ⟨A.next, 0, some 0⟩ = some (.bool (decide (p.num < 0))) := by rw [← hB]; simp [Hp.get, Hp.put_blk, Hp.push_blk, Nat.add_assoc]
  have g1 : B.get G ⟨A.next, 1, some 0⟩ = some (.string (S (nb p.num.natAbs))) := by rw [← hB]; simp [Hp.get, Hp.put_blk, Hp.push_blk, Nat.add_assoc]
  have g2 : B.get G ⟨A.next, 2, some 0⟩ = some (.string (S (nb p.den))) := by rw [← hB]; simp [Hp.get, Hp.put_blk, Hp.push_blk, Nat.add_assoc]
  have g3 : B.get G ⟨A.next + 1, 0, some 0⟩ = some (.bool (decide (u.num < 0))) := by rw [← hB]; simp [Hp.get, Hp.put_blk, Hp.push_blk, Nat.add_assoc]
  have g4 : B.get G ⟨A.next + 1, 1, some 0⟩ = some (.string (S (nb u.num.natAbs))) := by rw [← hB]; simp [Hp.get, Hp.put_blk, Hp.push_blk, Nat.add_assoc]
  have g5 : B.get G ⟨A.next + 1, 2, some 0⟩ = some (.string (S (nb u.den))) := by rw [← hB]; simp [Hp.get, Hp.put_blk, Hp.push_blk, Nat.add_assoc]
  clear hB
  have hflB : fl ≤ B.next := by omega
  have hflB1 : fl ≤ B.next + 1 := by omega
  have lt0 : A.next < B.next := by omega
  have lt1 : A.next + 1 < B.next := by omega
  refine call_of (rdown_ok (d := d) (j := 64) hp hd1 (by omega) (by omega)) ?_
  simp only [↓R1, R2, R3, R4, TY, reduceIte, Nat.reduceEqDiff, Nat.reduceAdd, Nat.reduceMul, Nat.reduceLT, Nat.reduceLeDiff, reduceCtorEq, decide_true, decide_false, Int.reduceLE, Int.reduceLT, Int.reduceToNat, Int.reduceAdd, Int.reduceSub, Int.reduceMul, Int.reduceEq, ratV_def, g0, g1, g2, g3, g4, g5, hflB, hflB1, lt0, lt1, NE]
  refine call_of (rup_ok (d := d) (j := 64) hp hd1 (by omega) (by omega)) ?_
  simp only [↓R1, R2, R3, R4, TY, reduceIte, Nat.reduceEqDiff, Nat.reduceAdd, Nat.reduceMul, Nat.reduceLT, Nat.reduceLeDiff, reduceCtorEq, decide_true, decide_false, Int.reduceLE, Int.reduceLT, Int.reduceToNat, Int.reduceAdd, Int.reduceSub, Int.reduceMul, Int.reduceEq, ratV_def, g0, g1, g2, g3, g4, g5, hflB, hflB1, lt0, lt1, NE]
  rw [floOf_wr (by kernel_rfl)]
  simp only [↓R1, R2, R3, R4, TY, reduceIte, Nat.reduceEqDiff, Nat.reduceAdd, Nat.reduceMul, Nat.reduceLT, Nat.reduceLeDiff, reduceCtorEq, decide_true, decide_false, Int.reduceLE, Int.reduceLT, Int.reduceToNat, Int.reduceAdd, Int.reduceSub, Int.reduceMul, Int.reduceEq, ratV_def, g0, g1, g2, g3, g4, g5, hflB, hflB1, lt0, lt1, NE]
  rw [floOf_wr (by kernel_rfl)]
  simp only [↓R1, R2, R3, R4, TY, reduceIte, Nat.reduceEqDiff, Nat.reduceAdd, Nat.reduceMul, Nat.reduceLT, Nat.reduceLeDiff, reduceCtorEq, decide_true, decide_false, Int.reduceLE, Int.reduceLT, Int.reduceToNat, Int.reduceAdd, Int.reduceSub, Int.reduceMul, Int.reduceEq, ratV_def, g0, g1, g2, g3, g4, g5, hflB, hflB1, lt0, lt1, NE]
  generalize hE : Hp.put _ _ _ = E
  have hEx : Xt B.next B E := by rw [← hE]; exact ((((Xt.refl B).push _).push _).put (Nat.le_refl _) _).put (by omega) _
  have hAE : Xt A.next A E := hBx.trans hEx
  have v0 := (hEx.get (G := G) (a := ⟨A.next, 0, some 0⟩) (by simp only; omega)).trans g0
  have v1 := (hEx.get (G := G) (a := ⟨A.next, 1, some 0⟩) (by simp only; omega)).trans g1
  have v2 := (hEx.get (G := G) (a := ⟨A.next, 2, some 0⟩) (by simp only; omega)).trans g2
  have v3 := (hEx.get (G := G) (a := ⟨A.next + 1, 0, some 0⟩) (by simp only; omega)).trans g3
  have v4 := (hEx.get (G := G) (a := ⟨A.next + 1, 1, some 0⟩) (by simp only; omega)).trans g4
  have v5 := (hEx.get (G := G) (a := ⟨A.next + 1, 2, some 0⟩) (by simp only; omega)).trans g5
  have v6 : E.get G ⟨B.next, 0, some 0⟩ = some (.bool (decide ((rdown p d).num < 0))) := by rw [← hE]; simp [Hp.get, Hp.put_blk, Hp.push_blk, Nat.add_assoc]
  have v7 : E.get G ⟨B.next, 1, some 0⟩ = some (.string (S (nb (rdown p d).num.natAbs))) := by rw [← hE]; simp [Hp.get, Hp.put_blk, Hp.push_blk, Nat.add_assoc]
  have v8 : E.get G ⟨B.next, 2, some 0⟩ = some (.string (S (nb (rdown p d).den))) := by rw [← hE]; simp [Hp.get, Hp.put_blk, Hp.push_blk, Nat.add_assoc]
  have v9 : E.get G ⟨B.next + 1, 0, some 0⟩ = some (.bool (decide ((rup p d).num < 0))) := by rw [← hE]; simp [Hp.get, Hp.put_blk, Hp.push_blk, Nat.add_assoc]
  have v10 : E.get G ⟨B.next + 1, 1, some 0⟩ = some (.string (S (nb (rup p d).num.natAbs))) := by rw [← hE]; simp [Hp.get, Hp.put_blk, Hp.push_blk, Nat.add_assoc]
  have v11 : E.get G ⟨B.next + 1, 2, some 0⟩ = some (.string (S (nb (rup p d).den))) := by rw [← hE]; simp [Hp.get, Hp.put_blk, Hp.push_blk, Nat.add_assoc]
  clear hE g0 g1 g2 g3 g4 g5
  have hgt : Tryd.prog.eqGuardType Tryd.prog.depth 35 = false := by kernel_rfl
  have heq := fun x y => eqD_rat x y
  simp only [ratV_def] at heq
  have slo := hp.down (d := d) hd40 (by omega)
  have shi := (hp.neg.down (d := d) hd40 (by omega)).neg
  rw [show -rdown (-p) d = rup p d from rfl] at shi
  have slu := slo.add su
  have shu := shi.sub su
  have sld := slo.mul sd
  have hk : (rdown p d * rOf d).floor = (p * rOf d).floor := by rw [rdown_mul p hd1, floor_of]
  have sk := sld.floor
  rw [hk] at sk
  have hkb := sk.1
  rw [rOf_num] at hkb
  have hfb := hp.floor.1
  rw [rOf_num] at hfb
  have c1 : (0 < rcmp (rdown p d) p) = False := eq_false (by have := rcmp_le (rdown_le p hd1); omega)
  have c2 : (0 ≤ rcmp p (rdown p d + u)) = False := eq_false (by rw [← hu, rcmp_lt (rdown_lt p hd1)]; omega)
  have c3 : (rcmp (rup p d) p < 0) = False := eq_false (by have := rcmp_ge (rup_ge p hd1); omega)
  have c4 : (0 ≤ rcmp (rup p d - u) p) = False := eq_false (by rw [← hu, rcmp_lt (rup_lt p hd1)]; omega)
  have f1 : (rOf (p * rOf d).floor * u = rdown p d) = True := eq_true (by rw [← hu]; exact mkRat_unit hd1)
  have f2 : (rdown (rdown p d) d = rdown p d) = True := eq_true (rdown_down p hd1)
  have f3 : (rup (rdown p d) d = rdown p d) = True := eq_true (rup_down p hd1)
  have f4 : (rup p d = -rdown (-p) d) = True := eq_true rfl
  have f5 : (rOf p.floor = rdown p 1) = True := eq_true (rdown_one p)
  have sdl := slo.down (d := d) hd40 (by omega)
  have hd1' := fun fl A => rdown_ok (G := G) (fl := fl) (A := A) (d := 1) hp (by omega) (by omega) (by omega)
  rw [show ((1 : Nat) : Int) = 1 from rfl] at hd1'
  refine call_of (rfloor_ok hp (by omega)) ?_
  simp only [↓R1, R2, R3, R4, TY, reduceIte, Nat.reduceEqDiff, Nat.reduceAdd, Nat.reduceMul, Nat.reduceLT, Nat.reduceLeDiff, reduceCtorEq, decide_true, decide_false, Int.reduceLE, Int.reduceLT, Int.reduceToNat, Int.reduceAdd, Int.reduceSub, Int.reduceMul, Int.reduceEq, ratV_def, v0, v1, v2, v3, v4, v5, v6, v7, v8, v9, v10, v11, heq, hgt, c1, c2, c3, c4, f1, f2, f3, f4, f5, append_eq, List.cons_append, List.nil_append]
  refine call_of (rcmp_ok slo hp (by omega)) ?_
  simp only [↓R1, R2, R3, R4, TY, reduceIte, Nat.reduceEqDiff, Nat.reduceAdd, Nat.reduceMul, Nat.reduceLT, Nat.reduceLeDiff, reduceCtorEq, decide_true, decide_false, Int.reduceLE, Int.reduceLT, Int.reduceToNat, Int.reduceAdd, Int.reduceSub, Int.reduceMul, Int.reduceEq, ratV_def, v0, v1, v2, v3, v4, v5, v6, v7, v8, v9, v10, v11, heq, hgt, c1, c2, c3, c4, f1, f2, f3, f4, f5, append_eq, List.cons_append, List.nil_append]
  refine call_of (radd_ok slo su (by omega)) ?_
  simp only [↓R1, R2, R3, R4, TY, reduceIte, Nat.reduceEqDiff, Nat.reduceAdd, Nat.reduceMul, Nat.reduceLT, Nat.reduceLeDiff, reduceCtorEq, decide_true, decide_false, Int.reduceLE, Int.reduceLT, Int.reduceToNat, Int.reduceAdd, Int.reduceSub, Int.reduceMul, Int.reduceEq, ratV_def, v0, v1, v2, v3, v4, v5, v6, v7, v8, v9, v10, v11, heq, hgt, c1, c2, c3, c4, f1, f2, f3, f4, f5, append_eq, List.cons_append, List.nil_append]
  refine call_of (rcmp_ok hp slu (by omega)) ?_
  simp only [↓R1, R2, R3, R4, TY, reduceIte, Nat.reduceEqDiff, Nat.reduceAdd, Nat.reduceMul, Nat.reduceLT, Nat.reduceLeDiff, reduceCtorEq, decide_true, decide_false, Int.reduceLE, Int.reduceLT, Int.reduceToNat, Int.reduceAdd, Int.reduceSub, Int.reduceMul, Int.reduceEq, ratV_def, v0, v1, v2, v3, v4, v5, v6, v7, v8, v9, v10, v11, heq, hgt, c1, c2, c3, c4, f1, f2, f3, f4, f5, append_eq, List.cons_append, List.nil_append]
  refine call_of (rcmp_ok shi hp (by omega)) ?_
  simp only [↓R1, R2, R3, R4, TY, reduceIte, Nat.reduceEqDiff, Nat.reduceAdd, Nat.reduceMul, Nat.reduceLT, Nat.reduceLeDiff, reduceCtorEq, decide_true, decide_false, Int.reduceLE, Int.reduceLT, Int.reduceToNat, Int.reduceAdd, Int.reduceSub, Int.reduceMul, Int.reduceEq, ratV_def, v0, v1, v2, v3, v4, v5, v6, v7, v8, v9, v10, v11, heq, hgt, c1, c2, c3, c4, f1, f2, f3, f4, f5, append_eq, List.cons_append, List.nil_append]
  refine call_of (rsub_ok shi su (by omega)) ?_
  simp only [↓R1, R2, R3, R4, TY, reduceIte, Nat.reduceEqDiff, Nat.reduceAdd, Nat.reduceMul, Nat.reduceLT, Nat.reduceLeDiff, reduceCtorEq, decide_true, decide_false, Int.reduceLE, Int.reduceLT, Int.reduceToNat, Int.reduceAdd, Int.reduceSub, Int.reduceMul, Int.reduceEq, ratV_def, v0, v1, v2, v3, v4, v5, v6, v7, v8, v9, v10, v11, heq, hgt, c1, c2, c3, c4, f1, f2, f3, f4, f5, append_eq, List.cons_append, List.nil_append]
  refine call_of (rcmp_ok shu hp (by omega)) ?_
  simp only [↓R1, R2, R3, R4, TY, reduceIte, Nat.reduceEqDiff, Nat.reduceAdd, Nat.reduceMul, Nat.reduceLT, Nat.reduceLeDiff, reduceCtorEq, decide_true, decide_false, Int.reduceLE, Int.reduceLT, Int.reduceToNat, Int.reduceAdd, Int.reduceSub, Int.reduceMul, Int.reduceEq, ratV_def, v0, v1, v2, v3, v4, v5, v6, v7, v8, v9, v10, v11, heq, hgt, c1, c2, c3, c4, f1, f2, f3, f4, f5, append_eq, List.cons_append, List.nil_append]
  refine call_of (rof_ok (n := d) (by omega) (by omega)) ?_
  simp only [↓R1, R2, R3, R4, TY, reduceIte, Nat.reduceEqDiff, Nat.reduceAdd, Nat.reduceMul, Nat.reduceLT, Nat.reduceLeDiff, reduceCtorEq, decide_true, decide_false, Int.reduceLE, Int.reduceLT, Int.reduceToNat, Int.reduceAdd, Int.reduceSub, Int.reduceMul, Int.reduceEq, ratV_def, v0, v1, v2, v3, v4, v5, v6, v7, v8, v9, v10, v11, heq, hgt, c1, c2, c3, c4, f1, f2, f3, f4, f5, append_eq, List.cons_append, List.nil_append]
  refine call_of (rmul_ok slo sd (by omega)) ?_
  simp only [↓R1, R2, R3, R4, TY, reduceIte, Nat.reduceEqDiff, Nat.reduceAdd, Nat.reduceMul, Nat.reduceLT, Nat.reduceLeDiff, reduceCtorEq, decide_true, decide_false, Int.reduceLE, Int.reduceLT, Int.reduceToNat, Int.reduceAdd, Int.reduceSub, Int.reduceMul, Int.reduceEq, ratV_def, v0, v1, v2, v3, v4, v5, v6, v7, v8, v9, v10, v11, heq, hgt, c1, c2, c3, c4, f1, f2, f3, f4, f5, append_eq, List.cons_append, List.nil_append]
  refine call_of (rfloor_ok sld (by omega)) ?_
  rw [hk]
  simp only [↓R1, R2, R3, R4, TY, reduceIte, Nat.reduceEqDiff, Nat.reduceAdd, Nat.reduceMul, Nat.reduceLT, Nat.reduceLeDiff, reduceCtorEq, decide_true, decide_false, Int.reduceLE, Int.reduceLT, Int.reduceToNat, Int.reduceAdd, Int.reduceSub, Int.reduceMul, Int.reduceEq, ratV_def, v0, v1, v2, v3, v4, v5, v6, v7, v8, v9, v10, v11, heq, hgt, c1, c2, c3, c4, f1, f2, f3, f4, f5, append_eq, List.cons_append, List.nil_append]
  refine call_of (rof_ok (by omega) (by omega)) ?_
  simp only [↓R1, R2, R3, R4, TY, reduceIte, Nat.reduceEqDiff, Nat.reduceAdd, Nat.reduceMul, Nat.reduceLT, Nat.reduceLeDiff, reduceCtorEq, decide_true, decide_false, Int.reduceLE, Int.reduceLT, Int.reduceToNat, Int.reduceAdd, Int.reduceSub, Int.reduceMul, Int.reduceEq, ratV_def, v0, v1, v2, v3, v4, v5, v6, v7, v8, v9, v10, v11, heq, hgt, c1, c2, c3, c4, f1, f2, f3, f4, f5, append_eq, List.cons_append, List.nil_append]
  refine call_of (rmul_ok sk su (by omega)) ?_
  simp only [↓R1, R2, R3, R4, TY, reduceIte, Nat.reduceEqDiff, Nat.reduceAdd, Nat.reduceMul, Nat.reduceLT, Nat.reduceLeDiff, reduceCtorEq, decide_true, decide_false, Int.reduceLE, Int.reduceLT, Int.reduceToNat, Int.reduceAdd, Int.reduceSub, Int.reduceMul, Int.reduceEq, ratV_def, v0, v1, v2, v3, v4, v5, v6, v7, v8, v9, v10, v11, heq, hgt, c1, c2, c3, c4, f1, f2, f3, f4, f5, append_eq, List.cons_append, List.nil_append]
  refine call_of (rdown_ok (d := d) slo hd1 (by omega) (by omega)) ?_
  simp only [↓R1, R2, R3, R4, TY, reduceIte, Nat.reduceEqDiff, Nat.reduceAdd, Nat.reduceMul, Nat.reduceLT, Nat.reduceLeDiff, reduceCtorEq, decide_true, decide_false, Int.reduceLE, Int.reduceLT, Int.reduceToNat, Int.reduceAdd, Int.reduceSub, Int.reduceMul, Int.reduceEq, ratV_def, v0, v1, v2, v3, v4, v5, v6, v7, v8, v9, v10, v11, heq, hgt, c1, c2, c3, c4, f1, f2, f3, f4, f5, append_eq, List.cons_append, List.nil_append]
  refine call_of (rup_ok (d := d) slo hd1 (by omega) (by omega)) ?_
  simp only [↓R1, R2, R3, R4, TY, reduceIte, Nat.reduceEqDiff, Nat.reduceAdd, Nat.reduceMul, Nat.reduceLT, Nat.reduceLeDiff, reduceCtorEq, decide_true, decide_false, Int.reduceLE, Int.reduceLT, Int.reduceToNat, Int.reduceAdd, Int.reduceSub, Int.reduceMul, Int.reduceEq, ratV_def, v0, v1, v2, v3, v4, v5, v6, v7, v8, v9, v10, v11, heq, hgt, c1, c2, c3, c4, f1, f2, f3, f4, f5, append_eq, List.cons_append, List.nil_append]
  refine call_of (rneg_ok hp (by omega)) ?_
  simp only [↓R1, R2, R3, R4, TY, reduceIte, Nat.reduceEqDiff, Nat.reduceAdd, Nat.reduceMul, Nat.reduceLT, Nat.reduceLeDiff, reduceCtorEq, decide_true, decide_false, Int.reduceLE, Int.reduceLT, Int.reduceToNat, Int.reduceAdd, Int.reduceSub, Int.reduceMul, Int.reduceEq, ratV_def, v0, v1, v2, v3, v4, v5, v6, v7, v8, v9, v10, v11, heq, hgt, c1, c2, c3, c4, f1, f2, f3, f4, f5, append_eq, List.cons_append, List.nil_append]
  refine call_of (rdown_ok (d := d) hp.neg hd1 (by omega) (by omega)) ?_
  simp only [↓R1, R2, R3, R4, TY, reduceIte, Nat.reduceEqDiff, Nat.reduceAdd, Nat.reduceMul, Nat.reduceLT, Nat.reduceLeDiff, reduceCtorEq, decide_true, decide_false, Int.reduceLE, Int.reduceLT, Int.reduceToNat, Int.reduceAdd, Int.reduceSub, Int.reduceMul, Int.reduceEq, ratV_def, v0, v1, v2, v3, v4, v5, v6, v7, v8, v9, v10, v11, heq, hgt, c1, c2, c3, c4, f1, f2, f3, f4, f5, append_eq, List.cons_append, List.nil_append]
  refine call_of (rneg_ok (hp.neg.down (d := d) hd40 (by omega)) (by omega)) ?_
  simp only [↓R1, R2, R3, R4, TY, reduceIte, Nat.reduceEqDiff, Nat.reduceAdd, Nat.reduceMul, Nat.reduceLT, Nat.reduceLeDiff, reduceCtorEq, decide_true, decide_false, Int.reduceLE, Int.reduceLT, Int.reduceToNat, Int.reduceAdd, Int.reduceSub, Int.reduceMul, Int.reduceEq, ratV_def, v0, v1, v2, v3, v4, v5, v6, v7, v8, v9, v10, v11, heq, hgt, c1, c2, c3, c4, f1, f2, f3, f4, f5, append_eq, List.cons_append, List.nil_append]
  refine call_of (rof_ok (by omega) (by omega)) ?_
  simp only [↓R1, R2, R3, R4, TY, reduceIte, Nat.reduceEqDiff, Nat.reduceAdd, Nat.reduceMul, Nat.reduceLT, Nat.reduceLeDiff, reduceCtorEq, decide_true, decide_false, Int.reduceLE, Int.reduceLT, Int.reduceToNat, Int.reduceAdd, Int.reduceSub, Int.reduceMul, Int.reduceEq, ratV_def, v0, v1, v2, v3, v4, v5, v6, v7, v8, v9, v10, v11, heq, hgt, c1, c2, c3, c4, f1, f2, f3, f4, f5, append_eq, List.cons_append, List.nil_append]
  refine call_of (hd1' _ _) ?_
  simp only [↓R1, R2, R3, R4, TY, reduceIte, Nat.reduceEqDiff, Nat.reduceAdd, Nat.reduceMul, Nat.reduceLT, Nat.reduceLeDiff, reduceCtorEq, decide_true, decide_false, Int.reduceLE, Int.reduceLT, Int.reduceToNat, Int.reduceAdd, Int.reduceSub, Int.reduceMul, Int.reduceEq, ratV_def, v0, v1, v2, v3, v4, v5, v6, v7, v8, v9, v10, v11, heq, hgt, c1, c2, c3, c4, f1, f2, f3, f4, f5, append_eq, List.cons_append, List.nil_append]
  exact fin _ _ hAE rfl
end
end Go.Proofs.YtpaffoiiipgkeaaDoor.Ab
