/- Spans: squares, quotients, Make. -/
import Derived.Test.YtipcpehbgomdeaaDoorUc
namespace Go.Proofs.YtipcpehbgomdeaaDoor.Ab
open Go.RowKit
set_option linter.unusedVariables false
set_option linter.unusedSimpArgs false
set_option maxRecDepth 100000

def sqlo (a b : Rat) : Rat := if a ≤ 0 ∧ 0 ≤ b then 0 else rmin (a * a) (b * b)
def sqhi (a b : Rat) : Rat := rmax (a * a) (b * b)
theorem set2r (z : List Value) (hz : z.length = 6) (p q : Rat) : (((((z.set 0 (.bool (decide (p.num < 0)))).set 1 (.string (S (nb p.num.natAbs)))).set 2 (.string (S (nb p.den)))).set 3 (.bool (decide (q.num < 0)))).set 4 (.string (S (nb q.num.natAbs)))).set 5 (.string (S (nb q.den))) = ([p, q].map ratC).flatten := by
  match z, hz with
  | [_, _, _, _, _, _], _ => rfl
theorem fold2 (f : Rat → Rat → Rat) (p q : Rat) : f p q = List.foldl f p [q] := by simp only [List.foldl_cons, List.foldl_nil]
theorem rOf_zero : rOf 0 = 0 := rfl

theorem ne9_4 {n : Nat} : (n + 4 = n) = False := eq_false (by omega)
theorem ne9_4' {n : Nat} : (n = n + 4) = False := eq_false (by omega)
theorem ne9_5 {n : Nat} : (n + 5 = n) = False := eq_false (by omega)
theorem ne9_5' {n : Nat} : (n = n + 5) = False := eq_false (by omega)
theorem ne9_6 {n : Nat} : (n + 6 = n) = False := eq_false (by omega)
theorem ne9_6' {n : Nat} : (n = n + 6) = False := eq_false (by omega)
theorem ne9_7 {n : Nat} : (n + 7 = n) = False := eq_false (by omega)
theorem ne9_7' {n : Nat} : (n = n + 7) = False := eq_false (by omega)
theorem ne9_8 {n : Nat} : (n + 8 = n) = False := eq_false (by omega)
theorem ne9_8' {n : Nat} : (n = n + 8) = False := eq_false (by omega)
theorem ne9_9 {n : Nat} : (n + 9 = n) = False := eq_false (by omega)
theorem ne9_9' {n : Nat} : (n = n + 9) = False := eq_false (by omega)
theorem ne9_10 {n : Nat} : (n + 10 = n) = False := eq_false (by omega)
theorem ne9_10' {n : Nat} : (n = n + 10) = False := eq_false (by omega)
theorem ne9_11 {n : Nat} : (n + 11 = n) = False := eq_false (by omega)
theorem ne9_11' {n : Nat} : (n = n + 11) = False := eq_false (by omega)
set_option linter.defProp false in
def NE9 := And.intro @ne9_4 (And.intro @ne9_5 (And.intro @ne9_6 (And.intro @ne9_7 (And.intro @ne9_8 (And.intro @ne9_9 (And.intro @ne9_10 (And.intro @ne9_11 (And.intro @ne9_4' (And.intro @ne9_5' (And.intro @ne9_6' (And.intro @ne9_7' (And.intro @ne9_8' (And.intro @ne9_9' (And.intro @ne9_10' (@ne9_11')))))))))))))))
theorem inv_le_pos {c d : Rat} (hc : 0 < c) (h : c ≤ d) : 1 / d ≤ 1 / c := by
  have hd : 0 < d := by grind
  have hu : 0 < c⁻¹ := Rat.inv_pos.2 hc
  have hv : 0 < d⁻¹ := Rat.inv_pos.2 hd
  have h1 : 0 ≤ (d - c) * (c⁻¹ * d⁻¹) := Rat.mul_nonneg (by grind) (Rat.le_of_lt (Rat.mul_pos hu hv))
  have e : (d - c) * (c⁻¹ * d⁻¹) = 1 / c - 1 / d := by grind
  rw [e] at h1
  grind
theorem inv_le_neg {c d : Rat} (hd : d < 0) (h : c ≤ d) : 1 / d ≤ 1 / c := by
  have h1 := inv_le_pos (c := -d) (d := -c) (by grind) (by grind)
  have e1 : 1 / -c = -(1 / c) := by grind
  have e2 : 1 / -d = -(1 / d) := by grind
  rw [e1, e2] at h1
  grind
theorem inv_le {c d : Rat} (h : c ≤ d) (hz : ¬ rsign c * rsign d ≤ 0) : 1 / d ≤ 1 / c := by
  rw [rsign_eq, rsign_eq] at hz
  by_cases hc : 0 < c
  · exact inv_le_pos hc h
  · by_cases hd : d < 0
    · exact inv_le_neg hd h
    · refine absurd ?_ hz
      by_cases hc0 : c = 0
      · rw [if_pos hc0, Int.zero_mul]; omega
      · by_cases hd0 : d = 0
        · rw [show (if d = 0 then (0 : Int) else if d < 0 then -1 else 1) = 0 from if_pos hd0, Int.mul_zero]; omega
        · rw [if_neg hc0, if_pos (by grind), if_neg hd0, if_neg hd]; omega

section
variable {G : Gl} {fl : Nat} {A : Hp}

set_option maxHeartbeats 2000000 in
theorem ssq {a b : Rat} {k : Nat} (hG : G 2 = some tabV) (h : Sp a b k) (hk : 2 * k ≤ 50000) : Sound Tryd.prog G 34 [prV a b] fl A (prV (sqlo a b) (sqhi a b)) A := by
  refine Sound.of mixed Tryd.func34 Tryd.ntmps34 Tryd.results34 (by kernel_rfl) rfl (by kernel_rfl) (by simp) fun hA => ?_
  have hfl : fl ≤ A.next := by have := hA.floor; omega
  have hfl1 : fl ≤ A.next + 1 := by have := hA.floor; omega
  have hfl2 : fl ≤ A.next + 2 := by have := hA.floor; omega
  have hfl3 : fl ≤ A.next + 3 := by have := hA.floor; omega
  have hfl4 : fl ≤ A.next + 4 := by have := hA.floor; omega
  have hfl5 : fl ≤ A.next + 5 := by have := hA.floor; omega
  have hfl6 : fl ≤ A.next + 6 := by have := hA.floor; omega
  have f1 := fun fl A => sfit (G := G) (fl := fl) (A := A) hG h (by omega)
  have o1 := fun fl A => qmul (G := G) (fl := fl) (A := A) hG h.low h.low (by omega)
  have o2 := fun fl A => qmul (G := G) (fl := fl) (A := A) hG h.high h.high (by omega)
  have z0 := fun fl A => rof_ok (G := G) (fl := fl) (A := A) (n := 0) (by decide) (by decide)
  have ha := fun fl A => shas (G := G) (fl := fl) (A := A) hG h (Rz.of (n := 0) (k := 1) (by simp [nb_zero]) (Nat.le_refl _)) (by omega)
  have hrb := prV_rb A.next (sqlo a b) (sqhi a b)
  rw [ratV_def (a * a)] at o1
  rw [ratV_def (b * b)] at o2
  rw [prV_def] at f1 ha
  rw [ratV_def] at ha
  rw [rOf_zero] at z0 ha
  rw [ratV_def] at z0
  rw [prV_def] at hrb ⊢
  rw [prV_def]
  simp only [↓R1, R2, R3, R4, TY, reduceIte, Nat.reduceEqDiff, Nat.reduceAdd, Nat.reduceMul, Nat.reduceLT, Nat.reduceLeDiff, reduceCtorEq, decide_true, decide_false, Int.reduceLE, Int.reduceLT, Int.reduceToNat, Int.reduceAdd, Int.reduceSub, Int.reduceMul, Int.reduceEq, hfl, hfl1, hfl2, hfl3, hfl4, hfl5, hfl6, NE, zl_len, List.length_set]
  refine call_of (f1 _ _) ?_
  simp only [↓R1, R2, R3, R4, TY, reduceIte, Nat.reduceEqDiff, Nat.reduceAdd, Nat.reduceMul, Nat.reduceLT, Nat.reduceLeDiff, reduceCtorEq, decide_true, decide_false, Int.reduceLE, Int.reduceLT, Int.reduceToNat, Int.reduceAdd, Int.reduceSub, Int.reduceMul, Int.reduceEq, hfl, hfl1, hfl2, hfl3, hfl4, hfl5, hfl6, NE, zl_len, List.length_set]
  refine call_of (o1 _ _) ?_
  simp only [↓R1, R2, R3, R4, TY, reduceIte, Nat.reduceEqDiff, Nat.reduceAdd, Nat.reduceMul, Nat.reduceLT, Nat.reduceLeDiff, reduceCtorEq, decide_true, decide_false, Int.reduceLE, Int.reduceLT, Int.reduceToNat, Int.reduceAdd, Int.reduceSub, Int.reduceMul, Int.reduceEq, hfl, hfl1, hfl2, hfl3, hfl4, hfl5, hfl6, NE, zl_len, List.length_set]
  refine call_of (o2 _ _) ?_
  simp only [↓R1, R2, R3, R4, TY, reduceIte, Nat.reduceEqDiff, Nat.reduceAdd, Nat.reduceMul, Nat.reduceLT, Nat.reduceLeDiff, reduceCtorEq, decide_true, decide_false, Int.reduceLE, Int.reduceLT, Int.reduceToNat, Int.reduceAdd, Int.reduceSub, Int.reduceMul, Int.reduceEq, hfl, hfl1, hfl2, hfl3, hfl4, hfl5, hfl6, NE, zl_len, List.length_set]
  have r1 := h.low.mul h.low
  have r2 := h.high.mul h.high
  generalize hB : Hp.push (Hp.put _ A.next _) _ = B
  have hB1 : B.blk (A.next + 1 + 1) = some (.row (((a * a :: [b * b]).map ratC).flatten) 0 3) := by
    rw [← hB]; exact (push_at rfl).trans (congrArg (fun c => some (Blk.row c 0 3)) (set2r _ zl_len _ _))
  have hBn : B.next = A.next + 3 := by rw [← hB]; rfl
  have hBx : Xt A.next A B := by
    rw [← hB]
    simp (maxDischargeDepth := 20) only [xt_push, xt_put, xt_refl, Nat.le_refl, Nat.le_add_right, Nat.add_assoc, Nat.reduceAdd]
  have hB2 : B.blk (A.next + 1) = some (.row [.bool false, .string (S []), .string (S []), .bool false, .string (S []), .string (S [])] 0 6) := by
    rw [← hB, Hp.push_blk, if_neg (by simp only [Hp.put_next, Hp.push_next]; omega), Hp.put_blk, if_neg (by omega)]; exact push_at rfl
  have hB0 : B.blk A.next = some (.row [.bool (decide (a.num < 0)), .string (S (nb a.num.natAbs)), .string (S (nb a.den)), .bool (decide (b.num < 0)), .string (S (nb b.num.natAbs)), .string (S (nb b.den))] 0 6) := by
    rw [← hB, Hp.push_blk, if_neg (by simp only [Hp.put_next, Hp.push_next]; omega), Hp.put_blk, if_pos rfl]
  clear hB
  have key : ∀ fl', Sound Tryd.prog G 53 [.slice (some ⟨A.next + 1 + 1, 0, some 0⟩) 2 2] fl' B (prV (rmin (a * a) (b * b)) (rmax (a * a) (b * b))) B := fun fl' => by
    rw [fold2 rmin, fold2 rmax]
    refine saround hG (by omega) (by simp) hB1 r1 ?_ (by omega) (by omega)
    simp only [List.mem_cons, List.not_mem_nil, or_false]
    rintro x h
    rw [h]; assumption
  rw [prV_def] at key
  have gB : ∀ i, B.get G ⟨A.next, i, some 0⟩ = ([.bool (decide (a.num < 0)), .string (S (nb a.num.natAbs)), .string (S (nb a.den)), .bool (decide (b.num < 0)), .string (S (nb b.num.natAbs)), .string (S (nb b.den))] : List Value)[i]? := fun i => by simp only [Hp.get, hB0, if_true]
  have x1 : (A.next = A.next + 3) = False := eq_false (by omega)
  have x2 : (A.next + 1 = A.next + 3) = False := eq_false (by omega)
  have x3 : (A.next + 3 = A.next + 1) = False := eq_false (by omega)
  refine call_of (key _) ?_
  simp only [↓R1, R2, R3, R4, TY, reduceIte, Nat.reduceEqDiff, Nat.reduceAdd, Nat.reduceMul, Nat.reduceLT, Nat.reduceLeDiff, reduceCtorEq, decide_true, decide_false, Int.reduceLE, Int.reduceLT, Int.reduceToNat, Int.reduceAdd, Int.reduceSub, Int.reduceMul, Int.reduceEq, hfl, hfl1, hfl2, hfl3, hfl4, hfl5, hfl6, NE, hBn, hB2, gB, x1, x2, x3, List.getElem?_cons_zero, List.getElem?_cons_succ]
  rw [floOf_wr (by kernel_rfl)]
  simp only [↓R1, R2, R3, R4, TY, reduceIte, Nat.reduceEqDiff, Nat.reduceAdd, Nat.reduceMul, Nat.reduceLT, Nat.reduceLeDiff, reduceCtorEq, decide_true, decide_false, Int.reduceLE, Int.reduceLT, Int.reduceToNat, Int.reduceAdd, Int.reduceSub, Int.reduceMul, Int.reduceEq, hfl, hfl1, hfl2, hfl3, hfl4, hfl5, hfl6, NE, hBn, hB2, gB, x1, x2, x3, List.getElem?_cons_zero, List.getElem?_cons_succ]
  refine call_of (z0 _ _) ?_
  simp only [↓R1, R2, R3, R4, TY, reduceIte, Nat.reduceEqDiff, Nat.reduceAdd, Nat.reduceMul, Nat.reduceLT, Nat.reduceLeDiff, reduceCtorEq, decide_true, decide_false, Int.reduceLE, Int.reduceLT, Int.reduceToNat, Int.reduceAdd, Int.reduceSub, Int.reduceMul, Int.reduceEq, hfl, hfl1, hfl2, hfl3, hfl4, hfl5, hfl6, NE, hBn, hB2, gB, x1, x2, x3, List.getElem?_cons_zero, List.getElem?_cons_succ]
  refine call_of (ha _ _) ?_
  simp only [↓R1, R2, R3, R4, TY, reduceIte, Nat.reduceEqDiff, Nat.reduceAdd, Nat.reduceMul, Nat.reduceLT, Nat.reduceLeDiff, reduceCtorEq, decide_true, decide_false, Int.reduceLE, Int.reduceLT, Int.reduceToNat, Int.reduceAdd, Int.reduceSub, Int.reduceMul, Int.reduceEq, hfl, hfl1, hfl2, hfl3, hfl4, hfl5, hfl6, NE, hBn, hB2, gB, x1, x2, x3, List.getElem?_cons_zero, List.getElem?_cons_succ]
  refine ⟨fun hz => ?_, fun hz => ?_⟩
  · have e : sqlo a b = 0 := if_pos hz
    rw [e] at hrb ⊢
    refine call_of (z0 _ _) ?_
    simp only [↓R1, R2, R3, R4, TY, reduceIte, Nat.reduceEqDiff, Nat.reduceAdd, Nat.reduceMul, Nat.reduceLT, Nat.reduceLeDiff, reduceCtorEq, decide_true, decide_false, Int.reduceLE, Int.reduceLT, Int.reduceToNat, Int.reduceAdd, Int.reduceSub, Int.reduceMul, Int.reduceEq, hfl, hfl1, hfl2, hfl3, hfl4, hfl5, hfl6, NE, hBn, hB2, gB, x1, x2, x3, List.getElem?_cons_zero, List.getElem?_cons_succ]
    refine Ended.back hA ?_ rfl hrb
    simp (maxDischargeDepth := 20) only [xt_push, xt_put, hBx, Nat.le_refl, Nat.le_add_right, Nat.add_assoc, Nat.reduceAdd]
  · have e : sqlo a b = rmin (a * a) (b * b) := if_neg hz
    rw [e] at hrb ⊢
    refine Ended.back hA ?_ rfl hrb
    simp (maxDischargeDepth := 20) only [xt_push, xt_put, hBx, Nat.le_refl, Nat.le_add_right, Nat.add_assoc, Nat.reduceAdd]

set_option maxHeartbeats 2000000 in
theorem smake {a b : Rat} {j k : Nat} (hG : G 2 = some tabV) (ha : Rz a j) (hb : Rz b k) (hab : a ≤ b) (hk : j + k ≤ 50000) : Sound Tryd.prog G 19 [ratV a, ratV b] fl A (.tuple [prV a b, Value.int .i64 0].toArray) A := by
  refine Sound.of mixed Tryd.func19 Tryd.ntmps19 Tryd.results19 (by kernel_rfl) rfl (by kernel_rfl) (by simp) fun hA => ?_
  have hfl : fl ≤ A.next := by have := hA.floor; omega
  have hfl1 : fl ≤ A.next + 1 := by have := hA.floor; omega
  have hfl2 : fl ≤ A.next + 2 := by have := hA.floor; omega
  have hfl3 : fl ≤ A.next + 3 := by have := hA.floor; omega
  have hfl4 : fl ≤ A.next + 4 := by have := hA.floor; omega
  have hfl5 : fl ≤ A.next + 5 := by have := hA.floor; omega
  have hfl6 : fl ≤ A.next + 6 := by have := hA.floor; omega
  have c := fun fl A => qcmp (G := G) (fl := fl) (A := A) hG ha hb (by omega)
  have m1 := fun fl A => qmin (G := G) (fl := fl) (A := A) hG ha ha (by omega)
  have m2 := fun fl A => qmin (G := G) (fl := fl) (A := A) hG hb hb (by omega)
  have hle : rcmp a b ≤ 0 := rcmp_le hab
  have hng : (0 < rcmp a b) = False := eq_false (by omega)
  have rm : ∀ x : Rat, rmin x x = x := fun x => by unfold rmin; split <;> rfl
  have hrb := prV_rb A.next a b
  rw [rm, ratV_def] at m1 m2
  rw [prV_def] at hrb ⊢
  rw [ratV_def, ratV_def]
  simp only [↓R1, R2, R3, R4, TY, reduceIte, Nat.reduceEqDiff, Nat.reduceAdd, Nat.reduceMul, Nat.reduceLT, Nat.reduceLeDiff, reduceCtorEq, decide_true, decide_false, Int.reduceLE, Int.reduceLT, Int.reduceToNat, Int.reduceAdd, Int.reduceSub, Int.reduceMul, Int.reduceEq, hfl, hfl1, hfl2, hfl3, hfl4, hfl5, hfl6, NE, hng]
  refine call_of (c _ _) ?_
  simp only [↓R1, R2, R3, R4, TY, reduceIte, Nat.reduceEqDiff, Nat.reduceAdd, Nat.reduceMul, Nat.reduceLT, Nat.reduceLeDiff, reduceCtorEq, decide_true, decide_false, Int.reduceLE, Int.reduceLT, Int.reduceToNat, Int.reduceAdd, Int.reduceSub, Int.reduceMul, Int.reduceEq, hfl, hfl1, hfl2, hfl3, hfl4, hfl5, hfl6, NE, hng]
  refine call_of (m1 _ _) ?_
  simp only [↓R1, R2, R3, R4, TY, reduceIte, Nat.reduceEqDiff, Nat.reduceAdd, Nat.reduceMul, Nat.reduceLT, Nat.reduceLeDiff, reduceCtorEq, decide_true, decide_false, Int.reduceLE, Int.reduceLT, Int.reduceToNat, Int.reduceAdd, Int.reduceSub, Int.reduceMul, Int.reduceEq, hfl, hfl1, hfl2, hfl3, hfl4, hfl5, hfl6, NE, hng]
  refine call_of (m2 _ _) ?_
  simp only [↓R1, R2, R3, R4, TY, reduceIte, Nat.reduceEqDiff, Nat.reduceAdd, Nat.reduceMul, Nat.reduceLT, Nat.reduceLeDiff, reduceCtorEq, decide_true, decide_false, Int.reduceLE, Int.reduceLT, Int.reduceToNat, Int.reduceAdd, Int.reduceSub, Int.reduceMul, Int.reduceEq, hfl, hfl1, hfl2, hfl3, hfl4, hfl5, hfl6, NE, hng]
  rw [floOf_wr (by kernel_rfl)]
  simp only [↓R1, R2, R3, R4, TY, reduceIte, Nat.reduceEqDiff, Nat.reduceAdd, Nat.reduceMul, Nat.reduceLT, Nat.reduceLeDiff, reduceCtorEq, decide_true, decide_false, Int.reduceLE, Int.reduceLT, Int.reduceToNat, Int.reduceAdd, Int.reduceSub, Int.reduceMul, Int.reduceEq, hfl, hfl1, hfl2, hfl3, hfl4, hfl5, hfl6, NE, hng]
  refine Ended.back hA ?_ rfl (RB.tuple fun w hw => ?_)
  · simp (maxDischargeDepth := 20) only [xt_push, xt_put, xt_refl, Nat.le_refl, Nat.le_add_right, Nat.add_assoc, Nat.reduceAdd]
  · simp only [List.mem_cons, List.not_mem_nil, or_false] at hw
    rcases hw with rfl | rfl
    · exact hrb
    · exact RB.int _ _

end
end Go.Proofs.YtipcpehbgomdeaaDoor.Ab

/- Spans: comparison; made, part, num, spanBegun. -/
namespace Go.Proofs.YtipcpehbgomdeaaDoor.Ab
open Go.RowKit
set_option linter.unusedVariables false
set_option linter.unusedSimpArgs false
set_option maxRecDepth 100000

theorem rat_beq (p q : Rat) : (decide (p.num < 0) == decide (q.num < 0) && (decide (nb p.num.natAbs = nb q.num.natAbs) && decide (nb p.den = nb q.den))) = decide (p = q) := by
  by_cases h : p = q
  · subst h; simp
  · rw [decide_eq_false h]
    apply Bool.eq_false_iff.2
    intro hc
    simp only [Bool.and_eq_true, beq_iff_eq, decide_eq_true_eq] at hc
    apply h
    refine Rat.ext ?_ (nb_inj hc.2.2)
    rw [← sgn_num p.num, ← sgn_num q.num, hc.1, nb_inj hc.2.1]
theorem eqD_span (p q r s : Rat) : eqD Tryd.prog 20 27 (prV p q) (prV r s) = some (decide (p = r) && decide (q = s)) := by
  have hst : Tryd.prog.stoodInHeld 25 = false := by kernel_rfl
  have hst2 : Tryd.prog.stoodInHeld 27 = false := by kernel_rfl
  simp [eqD, prV, Tryd.underlying25, Tryd.underlying27, Tryd.underlying9, Tryd.underlying4, eqFs, partV, ty9, ty4, ty25, hst, hst2, S_inj]
  rw [rat_beq, rat_beq]
theorem guard_span : Tryd.prog.eqGuardType Tryd.prog.depth 27 = false := by kernel_rfl
theorem guard_rat : Tryd.prog.eqGuardType Tryd.prog.depth 25 = false := by kernel_rfl
theorem rmin_le_rmax (p q : Rat) : rmin p q ≤ rmax p q := rcmp_le_iff.1 (rminmax p q).1
theorem mrat_rz (x : Int) : Rz (mrat x) 1 := (mrat_sz x).rz (nb_len_le.2 (by omega))
theorem made_sp (x y : Int) : Sp (rmin (mrat x) (mrat y)) (rmax (mrat x) (mrat y)) 1 := ⟨(mrat_rz x).min (mrat_rz y), (mrat_rz x).max (mrat_rz y), rmin_le_rmax _ _⟩
theorem rOf_div (m n : Int) : rOf m / rOf n = (m : Rat) / (n : Rat) := by rw [rOf_eq, rOf_eq]

/-- A part of the way from one end to the other. -/
def prt (a b : Rat) (k : Int) : Rat := a + ((below k 9 : Int) : Rat) / ((8 : Int) : Rat) * (b - a)
theorem num_rz {m n : Int} (h1 : -1000000 ≤ m) (h2 : m ≤ 1000000) (h3 : -1000000 ≤ n) (h4 : n ≤ 1000000) (h0 : n ≠ 0) : Rz ((m : Rat) / (n : Rat)) 6 := by
  rw [← rOf_div]
  exact (Rz.of (k := 3) (nb_len_le.2 (by omega)) (by omega)).div (Rz.of (k := 3) (nb_len_le.2 (by omega)) (by omega)) (by rw [rOf_num]; exact h0)
theorem prt_rz {a b : Rat} {j : Nat} (ha : Rz a j) (hb : Rz b j) (k : Int) : Rz (prt a b k) (3 * j + 8) := by
  have hr := below_range (x := k) (n := 9) (by omega)
  have h := ha.add ((num_rz (m := below k 9) (n := 8) (by omega) (by omega) (by omega) (by omega) (by omega)).mul (hb.sub ha))
  exact h.mono (by omega)
theorem sq_begun : sqlo (((-1 : Int) : Rat) / ((2 : Int) : Rat)) (((2 : Int) : Rat) / ((1 : Int) : Rat)) = ((0 : Int) : Rat) / ((1 : Int) : Rat) ∧ sqhi (((-1 : Int) : Rat) / ((2 : Int) : Rat)) (((2 : Int) : Rat) / ((1 : Int) : Rat)) = ((4 : Int) : Rat) / ((1 : Int) : Rat) := by decide +kernel

section
variable {G : Gl} {fl : Nat} {A : Hp}

set_option maxHeartbeats 2000000 in
theorem made_span {x y : Int} (hG : G 2 = some tabV) (kx : -9223372036854775808 ≤ x ∧ x ≤ 9223372036854775807) (ky : -9223372036854775808 ≤ y ∧ y ≤ 9223372036854775807) : Sound Tryd.prog G 8 [.int .i64 x, .int .i64 y] fl A (prV (rmin (mrat x) (mrat y)) (rmax (mrat x) (mrat y))) A := by
  refine Sound.of mixed Tryd.func8 Tryd.ntmps8 Tryd.results8 (by kernel_rfl) rfl (by kernel_rfl) (by simp) fun hA => ?_
  have hfl : fl ≤ A.next := by have := hA.floor; omega
  have hfl1 : fl ≤ A.next + 1 := by have := hA.floor; omega
  have hfl2 : fl ≤ A.next + 2 := by have := hA.floor; omega
  have hfl3 : fl ≤ A.next + 3 := by have := hA.floor; omega
  have hfl4 : fl ≤ A.next + 4 := by have := hA.floor; omega
  have hfl5 : fl ≤ A.next + 5 := by have := hA.floor; omega
  have hfl6 : fl ≤ A.next + 6 := by have := hA.floor; omega
  have r1 := fun fl A => mrat_ok (G := G) (fl := fl) (A := A) kx.1 kx.2
  have r2 := fun fl A => mrat_ok (G := G) (fl := fl) (A := A) ky.1 ky.2
  have m1 := fun fl A => qmin (G := G) (fl := fl) (A := A) hG (mrat_rz x) (mrat_rz y) (by omega)
  have m2 := fun fl A => qmax (G := G) (fl := fl) (A := A) hG (mrat_rz x) (mrat_rz y) (by omega)
  have hrb := prV_rb A.next (rmin (mrat x) (mrat y)) (rmax (mrat x) (mrat y))
  rw [ratV_def] at r1 r2
  rw [ratV_def (rmin _ _)] at m1
  rw [ratV_def (rmax _ _)] at m2
  rw [prV_def] at hrb ⊢
  simp only [↓R1, R2, R3, R4, TY, reduceIte, Nat.reduceEqDiff, Nat.reduceAdd, Nat.reduceMul, Nat.reduceLT, Nat.reduceLeDiff, reduceCtorEq, decide_true, decide_false, Int.reduceLE, Int.reduceLT, Int.reduceToNat, Int.reduceAdd, Int.reduceSub, Int.reduceMul, Int.reduceEq, hfl, hfl1, hfl2, hfl3, hfl4, hfl5, hfl6, NE]
  refine call_of (r1 _ _) ?_
  simp only [↓R1, R2, R3, R4, TY, reduceIte, Nat.reduceEqDiff, Nat.reduceAdd, Nat.reduceMul, Nat.reduceLT, Nat.reduceLeDiff, reduceCtorEq, decide_true, decide_false, Int.reduceLE, Int.reduceLT, Int.reduceToNat, Int.reduceAdd, Int.reduceSub, Int.reduceMul, Int.reduceEq, hfl, hfl1, hfl2, hfl3, hfl4, hfl5, hfl6, NE]
  refine call_of (r2 _ _) ?_
  simp only [↓R1, R2, R3, R4, TY, reduceIte, Nat.reduceEqDiff, Nat.reduceAdd, Nat.reduceMul, Nat.reduceLT, Nat.reduceLeDiff, reduceCtorEq, decide_true, decide_false, Int.reduceLE, Int.reduceLT, Int.reduceToNat, Int.reduceAdd, Int.reduceSub, Int.reduceMul, Int.reduceEq, hfl, hfl1, hfl2, hfl3, hfl4, hfl5, hfl6, NE]
  refine call_of (m1 _ _) ?_
  simp only [↓R1, R2, R3, R4, TY, reduceIte, Nat.reduceEqDiff, Nat.reduceAdd, Nat.reduceMul, Nat.reduceLT, Nat.reduceLeDiff, reduceCtorEq, decide_true, decide_false, Int.reduceLE, Int.reduceLT, Int.reduceToNat, Int.reduceAdd, Int.reduceSub, Int.reduceMul, Int.reduceEq, hfl, hfl1, hfl2, hfl3, hfl4, hfl5, hfl6, NE]
  refine call_of (m2 _ _) ?_
  simp only [↓R1, R2, R3, R4, TY, reduceIte, Nat.reduceEqDiff, Nat.reduceAdd, Nat.reduceMul, Nat.reduceLT, Nat.reduceLeDiff, reduceCtorEq, decide_true, decide_false, Int.reduceLE, Int.reduceLT, Int.reduceToNat, Int.reduceAdd, Int.reduceSub, Int.reduceMul, Int.reduceEq, hfl, hfl1, hfl2, hfl3, hfl4, hfl5, hfl6, NE]
  rw [floOf_wr (by kernel_rfl)]
  simp only [↓R1, R2, R3, R4, TY, reduceIte, Nat.reduceEqDiff, Nat.reduceAdd, Nat.reduceMul, Nat.reduceLT, Nat.reduceLeDiff, reduceCtorEq, decide_true, decide_false, Int.reduceLE, Int.reduceLT, Int.reduceToNat, Int.reduceAdd, Int.reduceSub, Int.reduceMul, Int.reduceEq, hfl, hfl1, hfl2, hfl3, hfl4, hfl5, hfl6, NE]
  refine Ended.back hA ?_ rfl hrb
  simp (maxDischargeDepth := 20) only [xt_push, xt_put, xt_refl, Nat.le_refl, Nat.le_add_right, Nat.add_assoc, Nat.reduceAdd]

set_option maxHeartbeats 2000000 in
theorem num_ok {m n : Int} (hG : G 2 = some tabV) (h1 : -1000000 ≤ m) (h2 : m ≤ 1000000) (h3 : -1000000 ≤ n) (h4 : n ≤ 1000000) (h0 : n ≠ 0) : Sound Tryd.prog G 13 [.int .i64 m, .int .i64 n] fl A (ratV ((m : Rat) / (n : Rat))) A := by
  refine Sound.of mixed Tryd.func13 Tryd.ntmps13 Tryd.results13 (by kernel_rfl) rfl (by kernel_rfl) (by simp) fun hA => ?_
  have hfl : fl ≤ A.next := by have := hA.floor; omega
  have hfl1 : fl ≤ A.next + 1 := by have := hA.floor; omega
  have hfl2 : fl ≤ A.next + 2 := by have := hA.floor; omega
  have hfl3 : fl ≤ A.next + 3 := by have := hA.floor; omega
  have hfl4 : fl ≤ A.next + 4 := by have := hA.floor; omega
  have hfl5 : fl ≤ A.next + 5 := by have := hA.floor; omega
  have hfl6 : fl ≤ A.next + 6 := by have := hA.floor; omega
  have r1 := fun fl A => rmake_ok (G := G) (fl := fl) (A := A) h1 h2 h3 h4 h0
  have hrb := ratV_rb A.next ((m : Rat) / (n : Rat))
  rw [rOf_div] at r1
  rw [ratV_def] at r1 hrb ⊢
  simp only [↓R1, R2, R3, R4, TY, reduceIte, Nat.reduceEqDiff, Nat.reduceAdd, Nat.reduceMul, Nat.reduceLT, Nat.reduceLeDiff, reduceCtorEq, decide_true, decide_false, Int.reduceLE, Int.reduceLT, Int.reduceToNat, Int.reduceAdd, Int.reduceSub, Int.reduceMul, Int.reduceEq, hfl, hfl1, hfl2, hfl3, hfl4, hfl5, hfl6, NE]
  refine call_of (r1 _ _) ?_
  simp only [↓R1, R2, R3, R4, TY, reduceIte, Nat.reduceEqDiff, Nat.reduceAdd, Nat.reduceMul, Nat.reduceLT, Nat.reduceLeDiff, reduceCtorEq, decide_true, decide_false, Int.reduceLE, Int.reduceLT, Int.reduceToNat, Int.reduceAdd, Int.reduceSub, Int.reduceMul, Int.reduceEq, hfl, hfl1, hfl2, hfl3, hfl4, hfl5, hfl6, NE]
  refine Ended.back hA ?_ rfl hrb
  simp (maxDischargeDepth := 20) only [xt_push, xt_put, xt_refl, Nat.le_refl, Nat.le_add_right, Nat.add_assoc, Nat.reduceAdd]

set_option maxHeartbeats 2000000 in
theorem spanBegun_ok  (hG : G 2 = some tabV)  : Sound Tryd.prog G 11 [] fl A (.bool true) A := by
  refine Sound.of mixed Tryd.func11 Tryd.ntmps11 Tryd.results11 (by kernel_rfl) rfl (by kernel_rfl) (by simp) fun hA => ?_
  have hfl : fl ≤ A.next := by have := hA.floor; omega
  have hfl1 : fl ≤ A.next + 1 := by have := hA.floor; omega
  have hfl2 : fl ≤ A.next + 2 := by have := hA.floor; omega
  have hfl3 : fl ≤ A.next + 3 := by have := hA.floor; omega
  have hfl4 : fl ≤ A.next + 4 := by have := hA.floor; omega
  have hfl5 : fl ≤ A.next + 5 := by have := hA.floor; omega
  have hfl6 : fl ≤ A.next + 6 := by have := hA.floor; omega
  have n1 := fun fl A => num_ok (G := G) (fl := fl) (A := A) (m := -1) (n := 2) hG (by omega) (by omega) (by omega) (by omega) (by omega)
  have n2 := fun fl A => num_ok (G := G) (fl := fl) (A := A) (m := 2) (n := 1) hG (by omega) (by omega) (by omega) (by omega) (by omega)
  have n3 := fun fl A => num_ok (G := G) (fl := fl) (A := A) (m := 0) (n := 1) hG (by omega) (by omega) (by omega) (by omega) (by omega)
  have n4 := fun fl A => num_ok (G := G) (fl := fl) (A := A) (m := 4) (n := 1) hG (by omega) (by omega) (by omega) (by omega) (by omega)
  have z1 := num_rz (m := -1) (n := 2) (by omega) (by omega) (by omega) (by omega) (by omega)
  have z2 := num_rz (m := 2) (n := 1) (by omega) (by omega) (by omega) (by omega) (by omega)
  have hle : ((-1 : Int) : Rat) / ((2 : Int) : Rat) ≤ ((2 : Int) : Rat) / ((1 : Int) : Rat) := by decide +kernel
  have mk := fun fl A => smake (G := G) (fl := fl) (A := A) hG z1 z2 hle (by omega)
  have bg := fun fl A => ratBegun_ok (G := G) (fl := fl) (A := A)
  have gd := fun fl A => sgood (G := G) (fl := fl) (A := A) hG z1 z2 (by omega)
  have sq := fun fl A => ssq (G := G) (fl := fl) (A := A) hG ⟨z1, z2, hle⟩ (by omega)
  have hd := eqD_span (((0 : Int) : Rat) / ((1 : Int) : Rat)) (((4 : Int) : Rat) / ((1 : Int) : Rat)) (((0 : Int) : Rat) / ((1 : Int) : Rat)) (((4 : Int) : Rat) / ((1 : Int) : Rat))
  rw [sq_begun.1, sq_begun.2] at sq
  rw [decide_eq_true hle] at gd
  generalize ((-1 : Int) : Rat) / ((2 : Int) : Rat) = u1 at *
  generalize ((2 : Int) : Rat) / ((1 : Int) : Rat) = u2 at *
  generalize ((0 : Int) : Rat) / ((1 : Int) : Rat) = u3 at *
  generalize ((4 : Int) : Rat) / ((1 : Int) : Rat) = u4 at *
  rw [prV_def] at hd gd
  rw [prV_def, prV_def] at sq
  rw [ratV_def] at n1 n2 n3 n4
  rw [ratV_def, ratV_def, prV_def] at mk
  simp only [↓R1, R2, R3, R4, TY, reduceIte, Nat.reduceEqDiff, Nat.reduceAdd, Nat.reduceMul, Nat.reduceLT, Nat.reduceLeDiff, reduceCtorEq, decide_true, decide_false, Int.reduceLE, Int.reduceLT, Int.reduceToNat, Int.reduceAdd, Int.reduceSub, Int.reduceMul, Int.reduceEq, hfl, hfl1, hfl2, hfl3, hfl4, hfl5, hfl6, NE, guard_span, hd]
  refine call_of (n1 _ _) ?_
  simp only [↓R1, R2, R3, R4, TY, reduceIte, Nat.reduceEqDiff, Nat.reduceAdd, Nat.reduceMul, Nat.reduceLT, Nat.reduceLeDiff, reduceCtorEq, decide_true, decide_false, Int.reduceLE, Int.reduceLT, Int.reduceToNat, Int.reduceAdd, Int.reduceSub, Int.reduceMul, Int.reduceEq, hfl, hfl1, hfl2, hfl3, hfl4, hfl5, hfl6, NE, guard_span, hd]
  refine call_of (n2 _ _) ?_
  simp only [↓R1, R2, R3, R4, TY, reduceIte, Nat.reduceEqDiff, Nat.reduceAdd, Nat.reduceMul, Nat.reduceLT, Nat.reduceLeDiff, reduceCtorEq, decide_true, decide_false, Int.reduceLE, Int.reduceLT, Int.reduceToNat, Int.reduceAdd, Int.reduceSub, Int.reduceMul, Int.reduceEq, hfl, hfl1, hfl2, hfl3, hfl4, hfl5, hfl6, NE, guard_span, hd]
  refine call_of (mk _ _) ?_
  simp only [↓R1, R2, R3, R4, TY, reduceIte, Nat.reduceEqDiff, Nat.reduceAdd, Nat.reduceMul, Nat.reduceLT, Nat.reduceLeDiff, reduceCtorEq, decide_true, decide_false, Int.reduceLE, Int.reduceLT, Int.reduceToNat, Int.reduceAdd, Int.reduceSub, Int.reduceMul, Int.reduceEq, hfl, hfl1, hfl2, hfl3, hfl4, hfl5, hfl6, NE, guard_span, hd]
  refine call_of (bg _ _) ?_
  simp only [↓R1, R2, R3, R4, TY, reduceIte, Nat.reduceEqDiff, Nat.reduceAdd, Nat.reduceMul, Nat.reduceLT, Nat.reduceLeDiff, reduceCtorEq, decide_true, decide_false, Int.reduceLE, Int.reduceLT, Int.reduceToNat, Int.reduceAdd, Int.reduceSub, Int.reduceMul, Int.reduceEq, hfl, hfl1, hfl2, hfl3, hfl4, hfl5, hfl6, NE, guard_span, hd]
  refine call_of (gd _ _) ?_
  simp only [↓R1, R2, R3, R4, TY, reduceIte, Nat.reduceEqDiff, Nat.reduceAdd, Nat.reduceMul, Nat.reduceLT, Nat.reduceLeDiff, reduceCtorEq, decide_true, decide_false, Int.reduceLE, Int.reduceLT, Int.reduceToNat, Int.reduceAdd, Int.reduceSub, Int.reduceMul, Int.reduceEq, hfl, hfl1, hfl2, hfl3, hfl4, hfl5, hfl6, NE, guard_span, hd]
  refine call_of (sq _ _) ?_
  simp only [↓R1, R2, R3, R4, TY, reduceIte, Nat.reduceEqDiff, Nat.reduceAdd, Nat.reduceMul, Nat.reduceLT, Nat.reduceLeDiff, reduceCtorEq, decide_true, decide_false, Int.reduceLE, Int.reduceLT, Int.reduceToNat, Int.reduceAdd, Int.reduceSub, Int.reduceMul, Int.reduceEq, hfl, hfl1, hfl2, hfl3, hfl4, hfl5, hfl6, NE, guard_span, hd]
  refine call_of (n3 _ _) ?_
  simp only [↓R1, R2, R3, R4, TY, reduceIte, Nat.reduceEqDiff, Nat.reduceAdd, Nat.reduceMul, Nat.reduceLT, Nat.reduceLeDiff, reduceCtorEq, decide_true, decide_false, Int.reduceLE, Int.reduceLT, Int.reduceToNat, Int.reduceAdd, Int.reduceSub, Int.reduceMul, Int.reduceEq, hfl, hfl1, hfl2, hfl3, hfl4, hfl5, hfl6, NE, guard_span, hd]
  refine call_of (n4 _ _) ?_
  simp only [↓R1, R2, R3, R4, TY, reduceIte, Nat.reduceEqDiff, Nat.reduceAdd, Nat.reduceMul, Nat.reduceLT, Nat.reduceLeDiff, reduceCtorEq, decide_true, decide_false, Int.reduceLE, Int.reduceLT, Int.reduceToNat, Int.reduceAdd, Int.reduceSub, Int.reduceMul, Int.reduceEq, hfl, hfl1, hfl2, hfl3, hfl4, hfl5, hfl6, NE, guard_span, hd]
  refine Ended.back hA ?_ rfl (RB.bool _)
  simp (maxDischargeDepth := 20) only [xt_push, xt_put, xt_refl, Nat.le_refl, Nat.le_add_right, Nat.add_assoc, Nat.reduceAdd]

end
end Go.Proofs.YtipcpehbgomdeaaDoor.Ab
