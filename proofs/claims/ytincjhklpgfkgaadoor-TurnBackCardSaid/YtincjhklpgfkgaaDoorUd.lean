/- Spans: squares, quotients, Make. -/
import Derived.Test.YtincjhklpgfkgaaDoorUc
namespace Go.Proofs.YtincjhklpgfkgaaDoor.Ab
open Go.RowKit
set_option linter.unusedVariables false
set_option linter.unusedSimpArgs false
set_option maxRecDepth 100000

def sqlo (a b : Rat) : Rat := if a ≤ 0 ∧ 0 ≤ b then 0 else rmin (a * a) (b * b)
def sqhi (a b : Rat) : Rat := rmax (a * a) (b * b)
theorem set2r (z : List Value) (hz : z.length = 6) (p q : Rat) : (((((z.set 0 (.bool (decide (p.num < 0)))).set 1 (.string (S (nb p.num.natAbs)))).set 2 (.string (S (nb p.den)))).set 3 (.bool (decide (q.num < 0)))).set 4 (.string (S (nb q.num.natAbs)))).set 5 (.string (S (nb q.den))) = ([p, q].map ratC).flatten := by
  match z, hz with
  | [_, _, _, _, _, _], _ => rfl
theorem fold2 (f : Rat → Rat → Rat) (p q : Rat) : f p q = List.foldl f p [q] := by simp only [List.foldl_cons, List.foldl_nil]
theorem rOf_zero : rOf 0 = 0 := rfl

theorem ne9_4 {n : Nat} : (n + 4 = n) = False := eq_false (by omega)
theorem ne9_4' {n : Nat} : (n = n + 4) = False := eq_false (by omega)
theorem ne9_5 {n : Nat} : (n + 5 = n) = False := eq_false (by omega)
theorem ne9_5' {n : Nat} : (n = n + 5) = False := eq_false (by omega)
theorem ne9_6 {n : Nat} : (n + 6 = n) = False := eq_false (by omega)
theorem ne9_6' {n : Nat} : (n = n + 6) = False := eq_false (by omega)
theorem ne9_7 {n : Nat} : (n + 7 = n) = False := eq_false (by omega)
theorem ne9_7' {n : Nat} : (n = n + 7) = False := eq_false (by omega)
theorem ne9_8 {n : Nat} : (n + 8 = n) = False := eq_false (by omega)
theorem ne9_8' {n : Nat} : (n = n + 8) = False := eq_false (by omega)
theorem ne9_9 {n : Nat} : (n + 9 = n) = False := eq_false (by omega)
theorem ne9_9' {n : Nat} : (n = n + 9) = False := eq_false (by omega)
theorem ne9_10 {n : Nat} : (n + 10 = n) = False := eq_false (by omega)
theorem ne9_10' {n : Nat} : (n = n + 10) = False := eq_false (by omega)
theorem ne9_11 {n : Nat} : (n + 11 = n) = False := eq_false (by omega)
theorem ne9_11' {n : Nat} : (n = n + 11) = False := eq_false (by omega)
set_option linter.defProp false in
def NE9 := And.intro @ne9_4 (And.intro @ne9_5 (And.intro @ne9_6 (And.intro @ne9_7 (And.intro @ne9_8 (And.intro @ne9_9 (And.intro @ne9_10 (And.intro @ne9_11 (And.intro @ne9_4' (And.intro @ne9_5' (And.intro @ne9_6' (And.intro @ne9_7' (And.intro @ne9_8' (And.intro @ne9_9' (And.intro @ne9_10' (@ne9_11')))))))))))))))
theorem inv_le_pos {c d : Rat} (hc : 0 < c) (h : c ≤ d) : 1 / d ≤ 1 / c := by
  have hd : 0 < d := by grind
  have hu : 0 < c⁻¹ := Rat.inv_pos.2 hc
  have hv : 0 < d⁻¹ := Rat.inv_pos.2 hd
  have h1 : 0 ≤ (d - c) * (c⁻¹ * d⁻¹) := Rat.mul_nonneg (by grind) (Rat.le_of_lt (Rat.mul_pos hu hv))
  have e : (d - c) * (c⁻¹ * d⁻¹) = 1 / c - 1 / d := by grind
  rw [e] at h1
  grind
theorem inv_le_neg {c d : Rat} (hd : d < 0) (h : c ≤ d) : 1 / d ≤ 1 / c := by
  have h1 := inv_le_pos (c := -d) (d := -c) (by grind) (by grind)
  have e1 : 1 / -c = -(1 / c) := by grind
  have e2 : 1 / -d = -(1 / d) := by grind
  rw [e1, e2] at h1
  grind
theorem inv_le {c d : Rat} (h : c ≤ d) (hz : ¬ rsign c * rsign d ≤ 0) : 1 / d ≤ 1 / c := by
  rw [rsign_eq, rsign_eq] at hz
  by_cases hc : 0 < c
  · exact inv_le_pos hc h
  · by_cases hd : d < 0
    · exact inv_le_neg hd h
    · refine absurd ?_ hz
      by_cases hc0 : c = 0
      · rw [if_pos hc0, Int.zero_mul]; omega
      · by_cases hd0 : d = 0
        · rw [show (if d = 0 then (0 : Int) else if d < 0 then -1 else 1) = 0 from if_pos hd0, Int.mul_zero]; omega
        · rw [if_neg hc0, if_pos (by grind), if_neg hd0, if_neg hd]; omega

section
variable {G : Gl} {fl : Nat} {A : Hp}

set_option maxHeartbeats 2000000 in
theorem ssq {a b : Rat} {k : Nat} (hG : G 2 = some tabV) (h : Sp a b k) (hk : 2 * k ≤ 50000) : Sound Tryd.prog G 32 [prV a b] fl A (prV (sqlo a b) (sqhi a b)) A := by
  refine Sound.of mixed Tryd.func32 Tryd.ntmps32 Tryd.results32 (by kernel_rfl) rfl (by kernel_rfl) (by simp) fun hA => ?_
  have hfl : fl ≤ A.next := by have := hA.floor; omega
  have hfl1 : fl ≤ A.next + 1 := by have := hA.floor; omega
  have hfl2 : fl ≤ A.next + 2 := by have := hA.floor; omega
  have hfl3 : fl ≤ A.next + 3 := by have := hA.floor; omega
  have hfl4 : fl ≤ A.next + 4 := by have := hA.floor; omega
  have hfl5 : fl ≤ A.next + 5 := by have := hA.floor; omega
  have hfl6 : fl ≤ A.next + 6 := by have := hA.floor; omega
  have f1 := fun fl A => sfit (G := G) (fl := fl) (A := A) hG h (by omega)
  have o1 := fun fl A => qmul (G := G) (fl := fl) (A := A) hG h.low h.low (by omega)
  have o2 := fun fl A => qmul (G := G) (fl := fl) (A := A) hG h.high h.high (by omega)
  have z0 := fun fl A => rof_ok (G := G) (fl := fl) (A := A) (n := 0) (by decide) (by decide)
  have ha := fun fl A => shas (G := G) (fl := fl) (A := A) hG h (Rz.of (n := 0) (k := 1) (by simp [nb_zero]) (Nat.le_refl _)) (by omega)
  have hrb := prV_rb A.next (sqlo a b) (sqhi a b)
  rw [ratV_def (a * a)] at o1
  rw [ratV_def (b * b)] at o2
  rw [prV_def] at f1 ha
  rw [ratV_def] at ha
  rw [rOf_zero] at z0 ha
  rw [ratV_def] at z0
  rw [prV_def] at hrb ⊢
  rw [prV_def]
  simp only [↓R1, R2, R3, R4, TY, reduceIte, Nat.reduceEqDiff, Nat.reduceAdd, Nat.reduceMul, Nat.reduceLT, Nat.reduceLeDiff, reduceCtorEq, decide_true, decide_false, Int.reduceLE, Int.reduceLT, Int.reduceToNat, Int.reduceAdd, Int.reduceSub, Int.reduceMul, Int.reduceEq, hfl, hfl1, hfl2, hfl3, hfl4, hfl5, hfl6, NE, zl_len, List.length_set]
  refine call_of (f1 _ _) ?_
  simp only [↓R1, R2, R3, R4, TY, reduceIte, Nat.reduceEqDiff, Nat.reduceAdd, Nat.reduceMul, Nat.reduceLT, Nat.reduceLeDiff, reduceCtorEq, decide_true, decide_false, Int.reduceLE, Int.reduceLT, Int.reduceToNat, Int.reduceAdd, Int.reduceSub, Int.reduceMul, Int.reduceEq, hfl, hfl1, hfl2, hfl3, hfl4, hfl5, hfl6, NE, zl_len, List.length_set]
  refine call_of (o1 _ _) ?_
  simp only [↓R1, R2, R3, R4, TY, reduceIte, Nat.reduceEqDiff, Nat.reduceAdd, Nat.reduceMul, Nat.reduceLT, Nat.reduceLeDiff, reduceCtorEq, decide_true, decide_false, Int.reduceLE, Int.reduceLT, Int.reduceToNat, Int.reduceAdd, Int.reduceSub, Int.reduceMul, Int.reduceEq, hfl, hfl1, hfl2, hfl3, hfl4, hfl5, hfl6, NE, zl_len, List.length_set]
  refine call_of (o2 _ _) ?_
  simp only [↓R1, R2, R3, R4, TY, reduceIte, Nat.reduceEqDiff, Nat.reduceAdd, Nat.reduceMul, Nat.reduceLT, Nat.reduceLeDiff, reduceCtorEq, decide_true, decide_false, Int.reduceLE, Int.reduceLT, Int.reduceToNat, Int.reduceAdd, Int.reduceSub, Int.reduceMul, Int.reduceEq, hfl, hfl1, hfl2, hfl3, hfl4, hfl5, hfl6, NE, zl_len, List.length_set]
  have r1 := h.low.mul h.low
  have r2 := h.high.mul h.high
  generalize hB : Hp.push (Hp.put _ A.next _) _ = B
  have hB1 : B.blk (A.next + 1 + 1) = some (.row (((a * a :: [b * b]).map ratC).flatten) 0 3) := by
    rw [← hB]; exact (push_at rfl).trans (congrArg (fun c => some (Blk.row c 0 3)) (set2r _ zl_len _ _))
  have hBn : B.next = A.next + 3 := by rw [← hB]; rfl
  have hBx : Xt A.next A B := by
    rw [← hB]
    simp (maxDischargeDepth := 20) only [xt_push, xt_put, xt_refl, Nat.le_refl, Nat.le_add_right, Nat.add_assoc, Nat.reduceAdd]
  have hB2 : B.blk (A.next + 1) = some (.row [.bool false, .string (S []), .string (S []), .bool false, .string (S []), .string (S [])] 0 6) := by
    rw [← hB, Hp.push_blk, if_neg (by simp only [Hp.put_next, Hp.push_next]; omega), Hp.put_blk, if_neg (by omega)]; exact push_at rfl
  have hB0 : B.blk A.next = some (.row [.bool (decide (a.num < 0)), .string (S (nb a.num.natAbs)), .string (S (nb a.den)), .bool (decide (b.num < 0)), .string (S (nb b.num.natAbs)), .string (S (nb b.den))] 0 6) := by
    rw [← hB, Hp.push_blk, if_neg (by simp only [Hp.put_next, Hp.push_next]; omega), Hp.put_blk, if_pos rfl]
  clear hB
  have key : ∀ fl', Sound Tryd.prog G 77 [.slice (some ⟨A.next + 1 + 1, 0, some 0⟩) 2 2] fl' B (prV (rmin (a * a) (b * b)) (rmax (a * a) (b * b))) B := fun fl' => by
    rw [fold2 rmin, fold2 rmax]
    refine saround hG (by omega) (by simp) hB1 r1 ?_ (by omega) (by omega)
    simp only [List.mem_cons, List.not_mem_nil, or_false]
    rintro x h
    rw [h]; assumption
  rw [prV_def] at key
  have gB : ∀ i, B.get G ⟨A.next, i, some 0⟩ = ([.bool (decide (a.num < 0)), .string (S (nb a.num.natAbs)), .string (S (nb a.den)), .bool (decide (b.num < 0)), .string (S (nb b.num.natAbs)), .string (S (nb b.den))] : List Value)[i]? := fun i => by simp only [Hp.get, hB0, if_true]
  have x1 : (A.next = A.next + 3) = False := eq_false (by omega)
  have x2 : (A.next + 1 = A.next + 3) = False := eq_false (by omega)
  have x3 : (A.next + 3 = A.next + 1) = False := eq_false (by omega)
  refine call_of (key _) ?_
  simp only [↓R1, R2, R3, R4, TY, reduceIte, Nat.reduceEqDiff, Nat.reduceAdd, Nat.reduceMul, Nat.reduceLT, Nat.reduceLeDiff, reduceCtorEq, decide_true, decide_false, Int.reduceLE, Int.reduceLT, Int.reduceToNat, Int.reduceAdd, Int.reduceSub, Int.reduceMul, Int.reduceEq, hfl, hfl1, hfl2, hfl3, hfl4, hfl5, hfl6, NE, hBn, hB2, gB, x1, x2, x3, List.getElem?_cons_zero, List.getElem?_cons_succ]
  rw [floOf_wr (by kernel_rfl)]
  simp only [↓R1, R2, R3, R4, TY, reduceIte, Nat.reduceEqDiff, Nat.reduceAdd, Nat.reduceMul, Nat.reduceLT, Nat.reduceLeDiff, reduceCtorEq, decide_true, decide_false, Int.reduceLE, Int.reduceLT, Int.reduceToNat, Int.reduceAdd, Int.reduceSub, Int.reduceMul, Int.reduceEq, hfl, hfl1, hfl2, hfl3, hfl4, hfl5, hfl6, NE, hBn, hB2, gB, x1, x2, x3, List.getElem?_cons_zero, List.getElem?_cons_succ]
  refine call_of (z0 _ _) ?_
  simp only [↓R1, R2, R3, R4, TY, reduceIte, Nat.reduceEqDiff, Nat.reduceAdd, Nat.reduceMul, Nat.reduceLT, Nat.reduceLeDiff, reduceCtorEq, decide_true, decide_false, Int.reduceLE, Int.reduceLT, Int.reduceToNat, Int.reduceAdd, Int.reduceSub, Int.reduceMul, Int.reduceEq, hfl, hfl1, hfl2, hfl3, hfl4, hfl5, hfl6, NE, hBn, hB2, gB, x1, x2, x3, List.getElem?_cons_zero, List.getElem?_cons_succ]
  refine call_of (ha _ _) ?_
  simp only [↓R1, R2, R3, R4, TY, reduceIte, Nat.reduceEqDiff, Nat.reduceAdd, Nat.reduceMul, Nat.reduceLT, Nat.reduceLeDiff, reduceCtorEq, decide_true, decide_false, Int.reduceLE, Int.reduceLT, Int.reduceToNat, Int.reduceAdd, Int.reduceSub, Int.reduceMul, Int.reduceEq, hfl, hfl1, hfl2, hfl3, hfl4, hfl5, hfl6, NE, hBn, hB2, gB, x1, x2, x3, List.getElem?_cons_zero, List.getElem?_cons_succ]
  refine ⟨fun hz => ?_, fun hz => ?_⟩
  · have e : sqlo a b = 0 := if_pos hz
    rw [e] at hrb ⊢
    refine call_of (z0 _ _) ?_
    simp only [↓R1, R2, R3, R4, TY, reduceIte, Nat.reduceEqDiff, Nat.reduceAdd, Nat.reduceMul, Nat.reduceLT, Nat.reduceLeDiff, reduceCtorEq, decide_true, decide_false, Int.reduceLE, Int.reduceLT, Int.reduceToNat, Int.reduceAdd, Int.reduceSub, Int.reduceMul, Int.reduceEq, hfl, hfl1, hfl2, hfl3, hfl4, hfl5, hfl6, NE, hBn, hB2, gB, x1, x2, x3, List.getElem?_cons_zero, List.getElem?_cons_succ]
    refine Ended.back hA ?_ rfl hrb
    simp (maxDischargeDepth := 20) only [xt_push, xt_put, hBx, Nat.le_refl, Nat.le_add_right, Nat.add_assoc, Nat.reduceAdd]
  · have e : sqlo a b = rmin (a * a) (b * b) := if_neg hz
    rw [e] at hrb ⊢
    refine Ended.back hA ?_ rfl hrb
    simp (maxDischargeDepth := 20) only [xt_push, xt_put, hBx, Nat.le_refl, Nat.le_add_right, Nat.add_assoc, Nat.reduceAdd]

set_option maxHeartbeats 2000000 in
theorem smake {a b : Rat} {j k : Nat} (hG : G 2 = some tabV) (ha : Rz a j) (hb : Rz b k) (hab : a ≤ b) (hk : j + k ≤ 50000) : Sound Tryd.prog G 64 [ratV a, ratV b] fl A (.tuple [prV a b, Value.int .i64 0].toArray) A := by
  refine Sound.of mixed Tryd.func64 Tryd.ntmps64 Tryd.results64 (by kernel_rfl) rfl (by kernel_rfl) (by simp) fun hA => ?_
  have hfl : fl ≤ A.next := by have := hA.floor; omega
  have hfl1 : fl ≤ A.next + 1 := by have := hA.floor; omega
  have hfl2 : fl ≤ A.next + 2 := by have := hA.floor; omega
  have hfl3 : fl ≤ A.next + 3 := by have := hA.floor; omega
  have hfl4 : fl ≤ A.next + 4 := by have := hA.floor; omega
  have hfl5 : fl ≤ A.next + 5 := by have := hA.floor; omega
  have hfl6 : fl ≤ A.next + 6 := by have := hA.floor; omega
  have c := fun fl A => qcmp (G := G) (fl := fl) (A := A) hG ha hb (by omega)
  have m1 := fun fl A => qmin (G := G) (fl := fl) (A := A) hG ha ha (by omega)
  have m2 := fun fl A => qmin (G := G) (fl := fl) (A := A) hG hb hb (by omega)
  have hle : rcmp a b ≤ 0 := rcmp_le hab
  have hng : (0 < rcmp a b) = False := eq_false (by omega)
  have rm : ∀ x : Rat, rmin x x = x := fun x => by unfold rmin; split <;> rfl
  have hrb := prV_rb A.next a b
  rw [rm, ratV_def] at m1 m2
  rw [prV_def] at hrb ⊢
  rw [ratV_def, ratV_def]
  simp only [↓R1, R2, R3, R4, TY, reduceIte, Nat.reduceEqDiff, Nat.reduceAdd, Nat.reduceMul, Nat.reduceLT, Nat.reduceLeDiff, reduceCtorEq, decide_true, decide_false, Int.reduceLE, Int.reduceLT, Int.reduceToNat, Int.reduceAdd, Int.reduceSub, Int.reduceMul, Int.reduceEq, hfl, hfl1, hfl2, hfl3, hfl4, hfl5, hfl6, NE, hng]
  refine call_of (c _ _) ?_
  simp only [↓R1, R2, R3, R4, TY, reduceIte, Nat.reduceEqDiff, Nat.reduceAdd, Nat.reduceMul, Nat.reduceLT, Nat.reduceLeDiff, reduceCtorEq, decide_true, decide_false, Int.reduceLE, Int.reduceLT, Int.reduceToNat, Int.reduceAdd, Int.reduceSub, Int.reduceMul, Int.reduceEq, hfl, hfl1, hfl2, hfl3, hfl4, hfl5, hfl6, NE, hng]
  refine call_of (m1 _ _) ?_
  simp only [↓R1, R2, R3, R4, TY, reduceIte, Nat.reduceEqDiff, Nat.reduceAdd, Nat.reduceMul, Nat.reduceLT, Nat.reduceLeDiff, reduceCtorEq, decide_true, decide_false, Int.reduceLE, Int.reduceLT, Int.reduceToNat, Int.reduceAdd, Int.reduceSub, Int.reduceMul, Int.reduceEq, hfl, hfl1, hfl2, hfl3, hfl4, hfl5, hfl6, NE, hng]
  refine call_of (m2 _ _) ?_
  simp only [↓R1, R2, R3, R4, TY, reduceIte, Nat.reduceEqDiff, Nat.reduceAdd, Nat.reduceMul, Nat.reduceLT, Nat.reduceLeDiff, reduceCtorEq, decide_true, decide_false, Int.reduceLE, Int.reduceLT, Int.reduceToNat, Int.reduceAdd, Int.reduceSub, Int.reduceMul, Int.reduceEq, hfl, hfl1, hfl2, hfl3, hfl4, hfl5, hfl6, NE, hng]
  rw [floOf_wr (by kernel_rfl)]
  simp only [↓R1, R2, R3, R4, TY, reduceIte, Nat.reduceEqDiff, Nat.reduceAdd, Nat.reduceMul, Nat.reduceLT, Nat.reduceLeDiff, reduceCtorEq, decide_true, decide_false, Int.reduceLE, Int.reduceLT, Int.reduceToNat, Int.reduceAdd, Int.reduceSub, Int.reduceMul, Int.reduceEq, hfl, hfl1, hfl2, hfl3, hfl4, hfl5, hfl6, NE, hng]
  refine Ended.back hA ?_ rfl (RB.tuple fun w hw => ?_)
  · simp (maxDischargeDepth := 20) only [xt_push, xt_put, xt_refl, Nat.le_refl, Nat.le_add_right, Nat.add_assoc, Nat.reduceAdd]
  · simp only [List.mem_cons, List.not_mem_nil, or_false] at hw
    rcases hw with rfl | rfl
    · exact hrb
    · exact RB.int _ _

set_option maxHeartbeats 2000000 in
theorem sdivz {a b c d : Rat} {j k : Nat} (hG : G 2 = some tabV) (h : Sp a b j) (h' : Sp c d k) (hk : j + k ≤ 20000) (hz : rsign c * rsign d ≤ 0) : Sound Tryd.prog G 30 [prV a b, prV c d] fl A (.tuple [Value.agg #[.bool false, .string (S []), .string (S []), .bool false, .string (S []), .string (S [])], Value.int .i64 12].toArray) A := by
  refine Sound.of mixed Tryd.func30 Tryd.ntmps30 Tryd.results30 (by kernel_rfl) rfl (by kernel_rfl) (by simp) fun hA => ?_
  have hfl : fl ≤ A.next := by have := hA.floor; omega
  have hfl1 : fl ≤ A.next + 1 := by have := hA.floor; omega
  have hfl2 : fl ≤ A.next + 2 := by have := hA.floor; omega
  have hfl3 : fl ≤ A.next + 3 := by have := hA.floor; omega
  have hfl4 : fl ≤ A.next + 4 := by have := hA.floor; omega
  have hfl5 : fl ≤ A.next + 5 := by have := hA.floor; omega
  have hfl6 : fl ≤ A.next + 6 := by have := hA.floor; omega
  have f1 := fun fl A => sfit (G := G) (fl := fl) (A := A) hG h (by omega)
  have f2 := fun fl A => sfit (G := G) (fl := fl) (A := A) hG h' (by omega)
  have s1 := fun fl A => qsign (G := G) (fl := fl) (A := A) hG h'.low (by omega)
  have s2 := fun fl A => qsign (G := G) (fl := fl) (A := A) hG h'.high (by omega)
  have hs1 := rsign_bound c
  have hs2 := rsign_bound d
  have hsp : IntKind.i64.wrap (rsign c * rsign d) = rsign c * rsign d := wrapI (by rcases (by omega : rsign c = -1 ∨ rsign c = 0 ∨ rsign c = 1) with e | e | e <;> rw [e] <;> omega)
  rw [prV_def] at f1 f2
  rw [prV_def, prV_def]
  simp only [↓R1, R2, R3, R4, TY, reduceIte, Nat.reduceEqDiff, Nat.reduceAdd, Nat.reduceMul, Nat.reduceLT, Nat.reduceLeDiff, reduceCtorEq, decide_true, decide_false, Int.reduceLE, Int.reduceLT, Int.reduceToNat, Int.reduceAdd, Int.reduceSub, Int.reduceMul, Int.reduceEq, hfl, hfl1, hfl2, hfl3, hfl4, hfl5, hfl6, NE, hsp, hz]
  refine call_of (f1 _ _) ?_
  simp only [↓R1, R2, R3, R4, TY, reduceIte, Nat.reduceEqDiff, Nat.reduceAdd, Nat.reduceMul, Nat.reduceLT, Nat.reduceLeDiff, reduceCtorEq, decide_true, decide_false, Int.reduceLE, Int.reduceLT, Int.reduceToNat, Int.reduceAdd, Int.reduceSub, Int.reduceMul, Int.reduceEq, hfl, hfl1, hfl2, hfl3, hfl4, hfl5, hfl6, NE, hsp, hz]
  refine call_of (f2 _ _) ?_
  simp only [↓R1, R2, R3, R4, TY, reduceIte, Nat.reduceEqDiff, Nat.reduceAdd, Nat.reduceMul, Nat.reduceLT, Nat.reduceLeDiff, reduceCtorEq, decide_true, decide_false, Int.reduceLE, Int.reduceLT, Int.reduceToNat, Int.reduceAdd, Int.reduceSub, Int.reduceMul, Int.reduceEq, hfl, hfl1, hfl2, hfl3, hfl4, hfl5, hfl6, NE, hsp, hz]
  rw [floOf_wr (by kernel_rfl)]
  simp only [↓R1, R2, R3, R4, TY, reduceIte, Nat.reduceEqDiff, Nat.reduceAdd, Nat.reduceMul, Nat.reduceLT, Nat.reduceLeDiff, reduceCtorEq, decide_true, decide_false, Int.reduceLE, Int.reduceLT, Int.reduceToNat, Int.reduceAdd, Int.reduceSub, Int.reduceMul, Int.reduceEq, hfl, hfl1, hfl2, hfl3, hfl4, hfl5, hfl6, NE, hsp, hz]
  rw [floOf_wr (by kernel_rfl)]
  simp only [↓R1, R2, R3, R4, TY, reduceIte, Nat.reduceEqDiff, Nat.reduceAdd, Nat.reduceMul, Nat.reduceLT, Nat.reduceLeDiff, reduceCtorEq, decide_true, decide_false, Int.reduceLE, Int.reduceLT, Int.reduceToNat, Int.reduceAdd, Int.reduceSub, Int.reduceMul, Int.reduceEq, hfl, hfl1, hfl2, hfl3, hfl4, hfl5, hfl6, NE, hsp, hz]
  refine call_of (s1 _ _) ?_
  simp only [↓R1, R2, R3, R4, TY, reduceIte, Nat.reduceEqDiff, Nat.reduceAdd, Nat.reduceMul, Nat.reduceLT, Nat.reduceLeDiff, reduceCtorEq, decide_true, decide_false, Int.reduceLE, Int.reduceLT, Int.reduceToNat, Int.reduceAdd, Int.reduceSub, Int.reduceMul, Int.reduceEq, hfl, hfl1, hfl2, hfl3, hfl4, hfl5, hfl6, NE, hsp, hz]
  refine call_of (s2 _ _) ?_
  simp only [↓R1, R2, R3, R4, TY, reduceIte, Nat.reduceEqDiff, Nat.reduceAdd, Nat.reduceMul, Nat.reduceLT, Nat.reduceLeDiff, reduceCtorEq, decide_true, decide_false, Int.reduceLE, Int.reduceLT, Int.reduceToNat, Int.reduceAdd, Int.reduceSub, Int.reduceMul, Int.reduceEq, hfl, hfl1, hfl2, hfl3, hfl4, hfl5, hfl6, NE, hsp, hz]
  refine Ended.back hA ?_ rfl (RB.tuple fun w hw => ?_)
  · simp (maxDischargeDepth := 20) only [xt_push, xt_put, xt_refl, Nat.le_refl, Nat.le_add_right, Nat.add_assoc, Nat.reduceAdd]
  · simp only [List.mem_cons, List.not_mem_nil, or_false] at hw
    rcases hw with rfl | rfl
    · refine RB.agg fun v hv => ?_
      simp only [List.mem_cons, List.not_mem_nil, or_false] at hv
      rcases hv with rfl | rfl | rfl | rfl | rfl | rfl <;> exact RB.zc rfl
    · exact RB.int _ _

set_option maxHeartbeats 2000000 in
theorem sdiv {a b c d : Rat} {j k : Nat} (hG : G 2 = some tabV) (h : Sp a b j) (h' : Sp c d k) (hk : j + k ≤ 20000) (hz : ¬ rsign c * rsign d ≤ 0) : Sound Tryd.prog G 30 [prV a b, prV c d] fl A (.tuple [prV (smlo a b (1 / d) (1 / c)) (smhi a b (1 / d) (1 / c)), Value.int .i64 0].toArray) A := by
  refine Sound.of mixed Tryd.func30 Tryd.ntmps30 Tryd.results30 (by kernel_rfl) rfl (by kernel_rfl) (by simp) fun hA => ?_
  have hfl : fl ≤ A.next := by have := hA.floor; omega
  have hfl1 : fl ≤ A.next + 1 := by have := hA.floor; omega
  have hfl2 : fl ≤ A.next + 2 := by have := hA.floor; omega
  have hfl3 : fl ≤ A.next + 3 := by have := hA.floor; omega
  have hfl4 : fl ≤ A.next + 4 := by have := hA.floor; omega
  have hfl5 : fl ≤ A.next + 5 := by have := hA.floor; omega
  have hfl6 : fl ≤ A.next + 6 := by have := hA.floor; omega
  have hc0 : c.num ≠ 0 := fun e => hz (by rw [rsign, if_pos e]; omega)
  have hd0 : d.num ≠ 0 := fun e => hz (by rw [show rsign d = 0 from by rw [rsign, if_pos e]]; omega)
  have f1 := fun fl A => sfit (G := G) (fl := fl) (A := A) hG h (by omega)
  have f2 := fun fl A => sfit (G := G) (fl := fl) (A := A) hG h' (by omega)
  have s1 := fun fl A => qsign (G := G) (fl := fl) (A := A) hG h'.low (by omega)
  have s2 := fun fl A => qsign (G := G) (fl := fl) (A := A) hG h'.high (by omega)
  have hs1 := rsign_bound c
  have hs2 := rsign_bound d
  have hsp : IntKind.i64.wrap (rsign c * rsign d) = rsign c * rsign d := wrapI (by rcases (by omega : rsign c = -1 ∨ rsign c = 0 ∨ rsign c = 1) with e | e | e <;> rw [e] <;> omega)
  have ro : Rz 1 1 := Rz.of (n := 1) (k := 1) (by rw [show (1 : Int).natAbs = 1 from rfl, nb_one]; decide) (Nat.le_refl _)
  have z1 := fun fl A => rof_ok (G := G) (fl := fl) (A := A) (n := 1) (by decide) (by decide)
  have d1 := fun fl A => qdiv (G := G) (fl := fl) (A := A) hG ro h'.high (by omega) hd0
  have d2 := fun fl A => qdiv (G := G) (fl := fl) (A := A) hG ro h'.low (by omega) hc0
  have hinv : Sp (1 / d) (1 / c) (1 + k) := ⟨ro.div h'.high hd0, ro.div h'.low hc0, inv_le h'.le hz⟩
  have mm := fun fl A => smul (G := G) (fl := fl) (A := A) hG h hinv (by omega)
  have hrb := prV_rb A.next (smlo a b (1 / d) (1 / c)) (smhi a b (1 / d) (1 / c))
  rw [prV_def] at f1 f2
  rw [rOf_one] at z1
  rw [ratV_def 1] at z1
  rw [ratV_def (1 / d), ratV_def 1] at d1
  rw [ratV_def (1 / c), ratV_def 1] at d2
  rw [prV_def, prV_def, prV_def] at mm
  rw [prV_def] at hrb ⊢
  rw [prV_def, prV_def]
  simp only [↓R1, R2, R3, R4, TY, reduceIte, Nat.reduceEqDiff, Nat.reduceAdd, Nat.reduceMul, Nat.reduceLT, Nat.reduceLeDiff, reduceCtorEq, decide_true, decide_false, Int.reduceLE, Int.reduceLT, Int.reduceToNat, Int.reduceAdd, Int.reduceSub, Int.reduceMul, Int.reduceEq, hfl, hfl1, hfl2, hfl3, hfl4, hfl5, hfl6, NE, hsp, hz, NE9, Nat.add_assoc]
  refine call_of (f1 _ _) ?_
  simp only [↓R1, R2, R3, R4, TY, reduceIte, Nat.reduceEqDiff, Nat.reduceAdd, Nat.reduceMul, Nat.reduceLT, Nat.reduceLeDiff, reduceCtorEq, decide_true, decide_false, Int.reduceLE, Int.reduceLT, Int.reduceToNat, Int.reduceAdd, Int.reduceSub, Int.reduceMul, Int.reduceEq, hfl, hfl1, hfl2, hfl3, hfl4, hfl5, hfl6, NE, hsp, hz, NE9, Nat.add_assoc]
  refine call_of (f2 _ _) ?_
  simp only [↓R1, R2, R3, R4, TY, reduceIte, Nat.reduceEqDiff, Nat.reduceAdd, Nat.reduceMul, Nat.reduceLT, Nat.reduceLeDiff, reduceCtorEq, decide_true, decide_false, Int.reduceLE, Int.reduceLT, Int.reduceToNat, Int.reduceAdd, Int.reduceSub, Int.reduceMul, Int.reduceEq, hfl, hfl1, hfl2, hfl3, hfl4, hfl5, hfl6, NE, hsp, hz, NE9, Nat.add_assoc]
  rw [floOf_wr (by kernel_rfl)]
  simp only [↓R1, R2, R3, R4, TY, reduceIte, Nat.reduceEqDiff, Nat.reduceAdd, Nat.reduceMul, Nat.reduceLT, Nat.reduceLeDiff, reduceCtorEq, decide_true, decide_false, Int.reduceLE, Int.reduceLT, Int.reduceToNat, Int.reduceAdd, Int.reduceSub, Int.reduceMul, Int.reduceEq, hfl, hfl1, hfl2, hfl3, hfl4, hfl5, hfl6, NE, hsp, hz, NE9, Nat.add_assoc]
  rw [floOf_wr (by kernel_rfl)]
  simp only [↓R1, R2, R3, R4, TY, reduceIte, Nat.reduceEqDiff, Nat.reduceAdd, Nat.reduceMul, Nat.reduceLT, Nat.reduceLeDiff, reduceCtorEq, decide_true, decide_false, Int.reduceLE, Int.reduceLT, Int.reduceToNat, Int.reduceAdd, Int.reduceSub, Int.reduceMul, Int.reduceEq, hfl, hfl1, hfl2, hfl3, hfl4, hfl5, hfl6, NE, hsp, hz, NE9, Nat.add_assoc]
  refine call_of (s1 _ _) ?_
  simp only [↓R1, R2, R3, R4, TY, reduceIte, Nat.reduceEqDiff, Nat.reduceAdd, Nat.reduceMul, Nat.reduceLT, Nat.reduceLeDiff, reduceCtorEq, decide_true, decide_false, Int.reduceLE, Int.reduceLT, Int.reduceToNat, Int.reduceAdd, Int.reduceSub, Int.reduceMul, Int.reduceEq, hfl, hfl1, hfl2, hfl3, hfl4, hfl5, hfl6, NE, hsp, hz, NE9, Nat.add_assoc]
  refine call_of (s2 _ _) ?_
  simp only [↓R1, R2, R3, R4, TY, reduceIte, Nat.reduceEqDiff, Nat.reduceAdd, Nat.reduceMul, Nat.reduceLT, Nat.reduceLeDiff, reduceCtorEq, decide_true, decide_false, Int.reduceLE, Int.reduceLT, Int.reduceToNat, Int.reduceAdd, Int.reduceSub, Int.reduceMul, Int.reduceEq, hfl, hfl1, hfl2, hfl3, hfl4, hfl5, hfl6, NE, hsp, hz, NE9, Nat.add_assoc]
  refine call_of (z1 _ _) ?_
  simp only [↓R1, R2, R3, R4, TY, reduceIte, Nat.reduceEqDiff, Nat.reduceAdd, Nat.reduceMul, Nat.reduceLT, Nat.reduceLeDiff, reduceCtorEq, decide_true, decide_false, Int.reduceLE, Int.reduceLT, Int.reduceToNat, Int.reduceAdd, Int.reduceSub, Int.reduceMul, Int.reduceEq, hfl, hfl1, hfl2, hfl3, hfl4, hfl5, hfl6, NE, hsp, hz, NE9, Nat.add_assoc]
  refine call_of (d1 _ _) ?_
  simp only [↓R1, R2, R3, R4, TY, reduceIte, Nat.reduceEqDiff, Nat.reduceAdd, Nat.reduceMul, Nat.reduceLT, Nat.reduceLeDiff, reduceCtorEq, decide_true, decide_false, Int.reduceLE, Int.reduceLT, Int.reduceToNat, Int.reduceAdd, Int.reduceSub, Int.reduceMul, Int.reduceEq, hfl, hfl1, hfl2, hfl3, hfl4, hfl5, hfl6, NE, hsp, hz, NE9, Nat.add_assoc]
  rw [floOf_wr (by kernel_rfl)]
  simp only [↓R1, R2, R3, R4, TY, reduceIte, Nat.reduceEqDiff, Nat.reduceAdd, Nat.reduceMul, Nat.reduceLT, Nat.reduceLeDiff, reduceCtorEq, decide_true, decide_false, Int.reduceLE, Int.reduceLT, Int.reduceToNat, Int.reduceAdd, Int.reduceSub, Int.reduceMul, Int.reduceEq, hfl, hfl1, hfl2, hfl3, hfl4, hfl5, hfl6, NE, hsp, hz, NE9, Nat.add_assoc]
  refine call_of (z1 _ _) ?_
  simp only [↓R1, R2, R3, R4, TY, reduceIte, Nat.reduceEqDiff, Nat.reduceAdd, Nat.reduceMul, Nat.reduceLT, Nat.reduceLeDiff, reduceCtorEq, decide_true, decide_false, Int.reduceLE, Int.reduceLT, Int.reduceToNat, Int.reduceAdd, Int.reduceSub, Int.reduceMul, Int.reduceEq, hfl, hfl1, hfl2, hfl3, hfl4, hfl5, hfl6, NE, hsp, hz, NE9, Nat.add_assoc]
  refine call_of (d2 _ _) ?_
  simp only [↓R1, R2, R3, R4, TY, reduceIte, Nat.reduceEqDiff, Nat.reduceAdd, Nat.reduceMul, Nat.reduceLT, Nat.reduceLeDiff, reduceCtorEq, decide_true, decide_false, Int.reduceLE, Int.reduceLT, Int.reduceToNat, Int.reduceAdd, Int.reduceSub, Int.reduceMul, Int.reduceEq, hfl, hfl1, hfl2, hfl3, hfl4, hfl5, hfl6, NE, hsp, hz, NE9, Nat.add_assoc]
  rw [floOf_wr (by kernel_rfl)]
  simp only [↓R1, R2, R3, R4, TY, reduceIte, Nat.reduceEqDiff, Nat.reduceAdd, Nat.reduceMul, Nat.reduceLT, Nat.reduceLeDiff, reduceCtorEq, decide_true, decide_false, Int.reduceLE, Int.reduceLT, Int.reduceToNat, Int.reduceAdd, Int.reduceSub, Int.reduceMul, Int.reduceEq, hfl, hfl1, hfl2, hfl3, hfl4, hfl5, hfl6, NE, hsp, hz, NE9, Nat.add_assoc]
  refine call_of (mm _ _) ?_
  simp only [↓R1, R2, R3, R4, TY, reduceIte, Nat.reduceEqDiff, Nat.reduceAdd, Nat.reduceMul, Nat.reduceLT, Nat.reduceLeDiff, reduceCtorEq, decide_true, decide_false, Int.reduceLE, Int.reduceLT, Int.reduceToNat, Int.reduceAdd, Int.reduceSub, Int.reduceMul, Int.reduceEq, hfl, hfl1, hfl2, hfl3, hfl4, hfl5, hfl6, NE, NE9, Nat.add_assoc]
  refine Ended.back hA ?_ rfl (RB.tuple fun w hw => ?_)
  · simp (maxDischargeDepth := 20) only [xt_push, xt_put, xt_refl, Nat.le_refl, Nat.le_add_right, Nat.add_assoc, Nat.reduceAdd]
  · simp only [List.mem_cons, List.not_mem_nil, or_false] at hw
    rcases hw with rfl | rfl
    · exact hrb
    · exact RB.int _ _

end
end Go.Proofs.YtincjhklpgfkgaaDoor.Ab
