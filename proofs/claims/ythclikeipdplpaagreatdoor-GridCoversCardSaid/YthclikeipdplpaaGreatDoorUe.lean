/- Spans: their values; Good, fit, Of. -/
import Derived.Test.YthclikeipdplpaaGreatDoorQc
namespace Go.Proofs.YthclikeipdplpaaGreatDoor.Ab
open Go.RowKit
set_option linter.unusedVariables false
set_option linter.unusedSimpArgs false
set_option maxRecDepth 100000

/-- The value of a struct of two numbers. -/
def prV (p q : Rat) : Value := .agg #[.bool (decide (p.num < 0)), .string (S (nb p.num.natAbs)), .string (S (nb p.den)), .bool (decide (q.num < 0)), .string (S (nb q.num.natAbs)), .string (S (nb q.den))]
theorem prV_def (p q : Rat) : prV p q = .agg #[.bool (decide (p.num < 0)), .string (S (nb p.num.natAbs)), .string (S (nb p.den)), .bool (decide (q.num < 0)), .string (S (nb q.num.natAbs)), .string (S (nb q.den))] := rfl
theorem prV_rb (n : Nat) (p q : Rat) : RB n (prV p q) := RB.agg fun v hv => by
  simp only [List.mem_cons, List.not_mem_nil, or_false] at hv
  rcases hv with rfl | rfl | rfl | rfl | rfl | rfl <;> exact RB.zc rfl
theorem rcmp_le_iff {p q : Rat} : rcmp p q ≤ 0 ↔ p ≤ q := by
  refine ⟨fun h => Rat.not_lt.1 fun hn => ?_, rcmp_le⟩
  rw [rcmp, if_neg (rlt_asymm hn), if_pos hn] at h; omega

/-- A good span. -/
structure Sp (a b : Rat) (k : Nat) : Prop where
  low : Rz a k
  high : Rz b k
  le : a ≤ b

section
variable {G : Gl} {fl : Nat} {A : Hp}

end
end Go.Proofs.YthclikeipdplpaaGreatDoor.Ab

/- Spans: the least span around numbers; products. -/
namespace Go.Proofs.YthclikeipdplpaaGreatDoor.Ab
open Go.RowKit
set_option linter.unusedVariables false
set_option linter.unusedSimpArgs false
set_option maxRecDepth 100000

def ratC (q : Rat) : List Value := [.bool (decide (q.num < 0)), .string (S (nb q.num.natAbs)), .string (S (nb q.den))]
theorem ratC_length (q : Rat) : (ratC q).length = 3 := rfl
theorem flat3 {l : List Rat} {j : Nat} (h : j < l.length) (i : Nat) (hi : i < 3) : ((l.map ratC).flatten)[3 * j + i]? = (ratC l[j])[i]? := by
  induction l generalizing j with
  | nil => simp at h
  | cons a l ih =>
    cases j with
    | zero =>
      rw [List.map_cons, List.flatten_cons, Nat.mul_zero, Nat.zero_add, List.getElem?_append_left (by rw [ratC_length]; exact hi)]; rfl
    | succ j =>
      rw [List.map_cons, List.flatten_cons, List.getElem?_append_right (by rw [ratC_length]; omega), ratC_length, show 3 * (j + 1) + i - 3 = 3 * j + i by omega, ih (by simpa using h)]; rfl
theorem Rz.lo {l : List Rat} {k : Nat} : ∀ {r : Rat}, Rz r k → (∀ x ∈ l, Rz x k) → Rz (l.foldl rmin r) k := by
  induction l with
  | nil => intro r h _; exact h
  | cons a l ih => intro r h hl; exact ih (h.min (hl a (by simp))) fun x hx => hl x (by simp [hx])
theorem Rz.hi {l : List Rat} {k : Nat} : ∀ {r : Rat}, Rz r k → (∀ x ∈ l, Rz x k) → Rz (l.foldl rmax r) k := by
  induction l with
  | nil => intro r h _; exact h
  | cons a l ih => intro r h hl; exact ih (h.max (hl a (by simp))) fun x hx => hl x (by simp [hx])

section
variable {G : Gl} {fl : Nat} {A : Hp}

end
end Go.Proofs.YthclikeipdplpaaGreatDoor.Ab

/- Spans: products, squares, quotients. -/
namespace Go.Proofs.YthclikeipdplpaaGreatDoor.Ab
open Go.RowKit
set_option linter.unusedVariables false
set_option linter.unusedSimpArgs false
set_option maxRecDepth 100000

def smlo (a b c d : Rat) : Rat := rmin (rmin (rmin (a * c) (a * d)) (b * c)) (b * d)
def smhi (a b c d : Rat) : Rat := rmax (rmax (rmax (a * c) (a * d)) (b * c)) (b * d)

theorem smlo_eq (a b c d : Rat) : smlo a b c d = List.foldl rmin (a * c) [a * d, b * c, b * d] := by unfold smlo; simp only [List.foldl_cons, List.foldl_nil]
theorem smhi_eq (a b c d : Rat) : smhi a b c d = List.foldl rmax (a * c) [a * d, b * c, b * d] := by unfold smhi; simp only [List.foldl_cons, List.foldl_nil]
theorem push_at {A : Hp} {b : Blk} {i : Nat} (h : i = A.next) : (A.push b).blk i = some b := by rw [Hp.push_blk, if_pos h]
theorem zl_len {l : List Value} {n : Nat} : (zl l n).length = n := by simp [zl]
theorem set4r (z : List Value) (hz : z.length = 12) (p q r s : Rat) : (((((((((((z.set 0 (.bool (decide (p.num < 0)))).set 1 (.string (S (nb p.num.natAbs)))).set 2 (.string (S (nb p.den)))).set 3 (.bool (decide (q.num < 0)))).set 4 (.string (S (nb q.num.natAbs)))).set 5 (.string (S (nb q.den)))).set 6 (.bool (decide (r.num < 0)))).set 7 (.string (S (nb r.num.natAbs)))).set 8 (.string (S (nb r.den)))).set 9 (.bool (decide (s.num < 0)))).set 10 (.string (S (nb s.num.natAbs)))).set 11 (.string (S (nb s.den))) = ([p, q, r, s].map ratC).flatten := by
  match z, hz with
  | [_, _, _, _, _, _, _, _, _, _, _, _], _ => rfl

section
variable {G : Gl} {fl : Nat} {A : Hp}

end
end Go.Proofs.YthclikeipdplpaaGreatDoor.Ab

/- Spans: squares, quotients, Make. -/
namespace Go.Proofs.YthclikeipdplpaaGreatDoor.Ab
open Go.RowKit
set_option linter.unusedVariables false
set_option linter.unusedSimpArgs false
set_option maxRecDepth 100000

def sqlo (a b : Rat) : Rat := if a ≤ 0 ∧ 0 ≤ b then 0 else rmin (a * a) (b * b)
def sqhi (a b : Rat) : Rat := rmax (a * a) (b * b)
theorem set2r (z : List Value) (hz : z.length = 6) (p q : Rat) : (((((z.set 0 (.bool (decide (p.num < 0)))).set 1 (.string (S (nb p.num.natAbs)))).set 2 (.string (S (nb p.den)))).set 3 (.bool (decide (q.num < 0)))).set 4 (.string (S (nb q.num.natAbs)))).set 5 (.string (S (nb q.den))) = ([p, q].map ratC).flatten := by
  match z, hz with
  | [_, _, _, _, _, _], _ => rfl
theorem fold2 (f : Rat → Rat → Rat) (p q : Rat) : f p q = List.foldl f p [q] := by simp only [List.foldl_cons, List.foldl_nil]
theorem rOf_zero : rOf 0 = 0 := rfl

theorem ne9_4 {n : Nat} : (n + 4 = n) = False := eq_false (by omega)
theorem ne9_4' {n : Nat} : (n = n + 4) = False := eq_false (by omega)
theorem ne9_5 {n : Nat} : (n + 5 = n) = False := eq_false (by omega)
theorem ne9_5' {n : Nat} : (n = n + 5) = False := eq_false (by omega)
theorem ne9_6 {n : Nat} : (n + 6 = n) = False := eq_false (by omega)
theorem ne9_6' {n : Nat} : (n = n + 6) = False := eq_false (by omega)
theorem ne9_7 {n : Nat} : (n + 7 = n) = False := eq_false (by omega)
theorem ne9_7' {n : Nat} : (n = n + 7) = False := eq_false (by omega)
theorem ne9_8 {n : Nat} : (n + 8 = n) = False := eq_false (by omega)
theorem ne9_8' {n : Nat} : (n = n + 8) = False := eq_false (by omega)
theorem ne9_9 {n : Nat} : (n + 9 = n) = False := eq_false (by omega)
theorem ne9_9' {n : Nat} : (n = n + 9) = False := eq_false (by omega)
theorem ne9_10 {n : Nat} : (n + 10 = n) = False := eq_false (by omega)
theorem ne9_10' {n : Nat} : (n = n + 10) = False := eq_false (by omega)
theorem ne9_11 {n : Nat} : (n + 11 = n) = False := eq_false (by omega)
theorem ne9_11' {n : Nat} : (n = n + 11) = False := eq_false (by omega)
set_option linter.defProp false in
def NE9 := And.intro @ne9_4 (And.intro @ne9_5 (And.intro @ne9_6 (And.intro @ne9_7 (And.intro @ne9_8 (And.intro @ne9_9 (And.intro @ne9_10 (And.intro @ne9_11 (And.intro @ne9_4' (And.intro @ne9_5' (And.intro @ne9_6' (And.intro @ne9_7' (And.intro @ne9_8' (And.intro @ne9_9' (And.intro @ne9_10' (@ne9_11')))))))))))))))
theorem inv_le_pos {c d : Rat} (hc : 0 < c) (h : c ≤ d) : 1 / d ≤ 1 / c := by
  have hd : 0 < d := by grind
  have hu : 0 < c⁻¹ := Rat.inv_pos.2 hc
  have hv : 0 < d⁻¹ := Rat.inv_pos.2 hd
  have h1 : 0 ≤ (d - c) * (c⁻¹ * d⁻¹) := Rat.mul_nonneg (by grind) (Rat.le_of_lt (Rat.mul_pos hu hv))
  have e : (d - c) * (c⁻¹ * d⁻¹) = 1 / c - 1 / d := by grind
  rw [e] at h1
  grind
theorem inv_le_neg {c d : Rat} (hd : d < 0) (h : c ≤ d) : 1 / d ≤ 1 / c := by
  have h1 := inv_le_pos (c := -d) (d := -c) (by grind) (by grind)
  have e1 : 1 / -c = -(1 / c) := by grind
  have e2 : 1 / -d = -(1 / d) := by grind
  rw [e1, e2] at h1
  grind
theorem inv_le {c d : Rat} (h : c ≤ d) (hz : ¬ rsign c * rsign d ≤ 0) : 1 / d ≤ 1 / c := by
  rw [rsign_eq, rsign_eq] at hz
  by_cases hc : 0 < c
  · exact inv_le_pos hc h
  · by_cases hd : d < 0
    · exact inv_le_neg hd h
    · refine absurd ?_ hz
      by_cases hc0 : c = 0
      · rw [if_pos hc0, Int.zero_mul]; omega
      · by_cases hd0 : d = 0
        · rw [show (if d = 0 then (0 : Int) else if d < 0 then -1 else 1) = 0 from if_pos hd0, Int.mul_zero]; omega
        · rw [if_neg hc0, if_pos (by grind), if_neg hd0, if_neg hd]; omega

section
variable {G : Gl} {fl : Nat} {A : Hp}

end
end Go.Proofs.YthclikeipdplpaaGreatDoor.Ab

/- Spans: comparison; made, part, num, spanBegun. -/
namespace Go.Proofs.YthclikeipdplpaaGreatDoor.Ab
open Go.RowKit
set_option linter.unusedVariables false
set_option linter.unusedSimpArgs false
set_option maxRecDepth 100000

theorem rat_beq (p q : Rat) : (decide (p.num < 0) == decide (q.num < 0) && (decide (nb p.num.natAbs = nb q.num.natAbs) && decide (nb p.den = nb q.den))) = decide (p = q) := by
  by_cases h : p = q
  · subst h; simp
  · rw [decide_eq_false h]
    apply Bool.eq_false_iff.2
    intro hc
    simp only [Bool.and_eq_true, beq_iff_eq, decide_eq_true_eq] at hc
    apply h
    refine Rat.ext ?_ (nb_inj hc.2.2)
    rw [← sgn_num p.num, ← sgn_num q.num, hc.1, nb_inj hc.2.1]
theorem eqD_span (p q r s : Rat) : eqD Tryz.prog 20 41 (prV p q) (prV r s) = some (decide (p = r) && decide (q = s)) := by
  have hst : Tryz.prog.stoodInHeld 24 = false := by kernel_rfl
  have hst2 : Tryz.prog.stoodInHeld 41 = false := by kernel_rfl
  simp [eqD, prV, Tryz.underlying24, Tryz.underlying41, Tryz.underlying9, Tryz.underlying4, eqFs, partV, ty9, ty4, ty24, hst, hst2, S_inj]
  rw [rat_beq, rat_beq]
theorem guard_span : Tryz.prog.eqGuardType Tryz.prog.depth 41 = false := by kernel_rfl
theorem guard_rat : Tryz.prog.eqGuardType Tryz.prog.depth 24 = false := by kernel_rfl
theorem rmin_le_rmax (p q : Rat) : rmin p q ≤ rmax p q := rcmp_le_iff.1 (rminmax p q).1
theorem mrat_rz (x : Int) : Rz (mrat x) 1 := (mrat_sz x).rz (nb_len_le.2 (by omega))
theorem made_sp (x y : Int) : Sp (rmin (mrat x) (mrat y)) (rmax (mrat x) (mrat y)) 1 := ⟨(mrat_rz x).min (mrat_rz y), (mrat_rz x).max (mrat_rz y), rmin_le_rmax _ _⟩
theorem rOf_div (m n : Int) : rOf m / rOf n = (m : Rat) / (n : Rat) := by rw [rOf_eq, rOf_eq]

/-- A part of the way from one end to the other. -/
def prt (a b : Rat) (k : Int) : Rat := a + ((below k 9 : Int) : Rat) / ((8 : Int) : Rat) * (b - a)
theorem num_rz {m n : Int} (h1 : -1000000 ≤ m) (h2 : m ≤ 1000000) (h3 : -1000000 ≤ n) (h4 : n ≤ 1000000) (h0 : n ≠ 0) : Rz ((m : Rat) / (n : Rat)) 6 := by
  rw [← rOf_div]
  exact (Rz.of (k := 3) (nb_len_le.2 (by omega)) (by omega)).div (Rz.of (k := 3) (nb_len_le.2 (by omega)) (by omega)) (by rw [rOf_num]; exact h0)
theorem prt_rz {a b : Rat} {j : Nat} (ha : Rz a j) (hb : Rz b j) (k : Int) : Rz (prt a b k) (3 * j + 8) := by
  have hr := below_range (x := k) (n := 9) (by omega)
  have h := ha.add ((num_rz (m := below k 9) (n := 8) (by omega) (by omega) (by omega) (by omega) (by omega)).mul (hb.sub ha))
  exact h.mono (by omega)
theorem sq_begun : sqlo (((-1 : Int) : Rat) / ((2 : Int) : Rat)) (((2 : Int) : Rat) / ((1 : Int) : Rat)) = ((0 : Int) : Rat) / ((1 : Int) : Rat) ∧ sqhi (((-1 : Int) : Rat) / ((2 : Int) : Rat)) (((2 : Int) : Rat) / ((1 : Int) : Rat)) = ((4 : Int) : Rat) / ((1 : Int) : Rat) := by decide +kernel

section
variable {G : Gl} {fl : Nat} {A : Hp}

set_option maxHeartbeats 2000000 in
theorem made_span {x y : Int} (hG : G 1 = some tabV) (kx : -9223372036854775808 ≤ x ∧ x ≤ 9223372036854775807) (ky : -9223372036854775808 ≤ y ∧ y ≤ 9223372036854775807) : Sound Tryz.prog G 35 [.int .i64 x, .int .i64 y] fl A (prV (rmin (mrat x) (mrat y)) (rmax (mrat x) (mrat y))) A := by
  refine Sound.of mixed Tryz.func35 Tryz.ntmps35 Tryz.results35 (by kernel_rfl) rfl (by kernel_rfl) (by simp) fun hA => ?_
  have hfl : fl ≤ A.next := by have := hA.floor; omega
  have hfl1 : fl ≤ A.next + 1 := by have := hA.floor; omega
  have hfl2 : fl ≤ A.next + 2 := by have := hA.floor; omega
  have hfl3 : fl ≤ A.next + 3 := by have := hA.floor; omega
  have hfl4 : fl ≤ A.next + 4 := by have := hA.floor; omega
  have hfl5 : fl ≤ A.next + 5 := by have := hA.floor; omega
  have hfl6 : fl ≤ A.next + 6 := by have := hA.floor; omega
  have r1 := fun fl A => mrat_ok (G := G) (fl := fl) (A := A) kx.1 kx.2
  have r2 := fun fl A => mrat_ok (G := G) (fl := fl) (A := A) ky.1 ky.2
  have m1 := fun fl A => qmin (G := G) (fl := fl) (A := A) hG (mrat_rz x) (mrat_rz y) (by omega)
  have m2 := fun fl A => qmax (G := G) (fl := fl) (A := A) hG (mrat_rz x) (mrat_rz y) (by omega)
  have hrb := prV_rb A.next (rmin (mrat x) (mrat y)) (rmax (mrat x) (mrat y))
  rw [ratV_def] at r1 r2
  rw [ratV_def (rmin _ _)] at m1
  rw [ratV_def (rmax _ _)] at m2
  rw [prV_def] at hrb ⊢
  simp only [↓R1, R2, R3, R4, TY, reduceIte, Nat.reduceEqDiff, Nat.reduceAdd, Nat.reduceMul, Nat.reduceLT, Nat.reduceLeDiff, reduceCtorEq, decide_true, decide_false, Int.reduceLE, Int.reduceLT, Int.reduceToNat, Int.reduceAdd, Int.reduceSub, Int.reduceMul, Int.reduceEq, hfl, hfl1, hfl2, hfl3, hfl4, hfl5, hfl6, NE]
  refine call_of (r1 _ _) ?_
  simp only [↓R1, R2, R3, R4, TY, reduceIte, Nat.reduceEqDiff, Nat.reduceAdd, Nat.reduceMul, Nat.reduceLT, Nat.reduceLeDiff, reduceCtorEq, decide_true, decide_false, Int.reduceLE, Int.reduceLT, Int.reduceToNat, Int.reduceAdd, Int.reduceSub, Int.reduceMul, Int.reduceEq, hfl, hfl1, hfl2, hfl3, hfl4, hfl5, hfl6, NE]
  refine call_of (r2 _ _) ?_
  simp only [↓R1, R2, R3, R4, TY, reduceIte, Nat.reduceEqDiff, Nat.reduceAdd, Nat.reduceMul, Nat.reduceLT, Nat.reduceLeDiff, reduceCtorEq, decide_true, decide_false, Int.reduceLE, Int.reduceLT, Int.reduceToNat, Int.reduceAdd, Int.reduceSub, Int.reduceMul, Int.reduceEq, hfl, hfl1, hfl2, hfl3, hfl4, hfl5, hfl6, NE]
  refine call_of (m1 _ _) ?_
  simp only [↓R1, R2, R3, R4, TY, reduceIte, Nat.reduceEqDiff, Nat.reduceAdd, Nat.reduceMul, Nat.reduceLT, Nat.reduceLeDiff, reduceCtorEq, decide_true, decide_false, Int.reduceLE, Int.reduceLT, Int.reduceToNat, Int.reduceAdd, Int.reduceSub, Int.reduceMul, Int.reduceEq, hfl, hfl1, hfl2, hfl3, hfl4, hfl5, hfl6, NE]
  refine call_of (m2 _ _) ?_
  simp only [↓R1, R2, R3, R4, TY, reduceIte, Nat.reduceEqDiff, Nat.reduceAdd, Nat.reduceMul, Nat.reduceLT, Nat.reduceLeDiff, reduceCtorEq, decide_true, decide_false, Int.reduceLE, Int.reduceLT, Int.reduceToNat, Int.reduceAdd, Int.reduceSub, Int.reduceMul, Int.reduceEq, hfl, hfl1, hfl2, hfl3, hfl4, hfl5, hfl6, NE]
  rw [floOf_wr (by kernel_rfl)]
  simp only [↓R1, R2, R3, R4, TY, reduceIte, Nat.reduceEqDiff, Nat.reduceAdd, Nat.reduceMul, Nat.reduceLT, Nat.reduceLeDiff, reduceCtorEq, decide_true, decide_false, Int.reduceLE, Int.reduceLT, Int.reduceToNat, Int.reduceAdd, Int.reduceSub, Int.reduceMul, Int.reduceEq, hfl, hfl1, hfl2, hfl3, hfl4, hfl5, hfl6, NE]
  refine Ended.back hA ?_ rfl hrb
  simp (maxDischargeDepth := 20) only [xt_push, xt_put, xt_refl, Nat.le_refl, Nat.le_add_right, Nat.add_assoc, Nat.reduceAdd]

set_option maxHeartbeats 2000000 in
theorem num_ok {m n : Int} (hG : G 1 = some tabV) (h1 : -1000000 ≤ m) (h2 : m ≤ 1000000) (h3 : -1000000 ≤ n) (h4 : n ≤ 1000000) (h0 : n ≠ 0) : Sound Tryz.prog G 18 [.int .i64 m, .int .i64 n] fl A (ratV ((m : Rat) / (n : Rat))) A := by
  refine Sound.of mixed Tryz.func18 Tryz.ntmps18 Tryz.results18 (by kernel_rfl) rfl (by kernel_rfl) (by simp) fun hA => ?_
  have hfl : fl ≤ A.next := by have := hA.floor; omega
  have hfl1 : fl ≤ A.next + 1 := by have := hA.floor; omega
  have hfl2 : fl ≤ A.next + 2 := by have := hA.floor; omega
  have hfl3 : fl ≤ A.next + 3 := by have := hA.floor; omega
  have hfl4 : fl ≤ A.next + 4 := by have := hA.floor; omega
  have hfl5 : fl ≤ A.next + 5 := by have := hA.floor; omega
  have hfl6 : fl ≤ A.next + 6 := by have := hA.floor; omega
  have r1 := fun fl A => rmake_ok (G := G) (fl := fl) (A := A) h1 h2 h3 h4 h0
  have hrb := ratV_rb A.next ((m : Rat) / (n : Rat))
  rw [rOf_div] at r1
  rw [ratV_def] at r1 hrb ⊢
  simp only [↓R1, R2, R3, R4, TY, reduceIte, Nat.reduceEqDiff, Nat.reduceAdd, Nat.reduceMul, Nat.reduceLT, Nat.reduceLeDiff, reduceCtorEq, decide_true, decide_false, Int.reduceLE, Int.reduceLT, Int.reduceToNat, Int.reduceAdd, Int.reduceSub, Int.reduceMul, Int.reduceEq, hfl, hfl1, hfl2, hfl3, hfl4, hfl5, hfl6, NE]
  refine call_of (r1 _ _) ?_
  simp only [↓R1, R2, R3, R4, TY, reduceIte, Nat.reduceEqDiff, Nat.reduceAdd, Nat.reduceMul, Nat.reduceLT, Nat.reduceLeDiff, reduceCtorEq, decide_true, decide_false, Int.reduceLE, Int.reduceLT, Int.reduceToNat, Int.reduceAdd, Int.reduceSub, Int.reduceMul, Int.reduceEq, hfl, hfl1, hfl2, hfl3, hfl4, hfl5, hfl6, NE]
  refine Ended.back hA ?_ rfl hrb
  simp (maxDischargeDepth := 20) only [xt_push, xt_put, xt_refl, Nat.le_refl, Nat.le_add_right, Nat.add_assoc, Nat.reduceAdd]

set_option maxHeartbeats 2000000 in
theorem part_ok {a b : Rat} {j : Nat} {k : Int} (hG : G 1 = some tabV) (ha : Rz a j) (hb : Rz b j) (kk : -9223372036854775808 ≤ k ∧ k ≤ 9223372036854775807) (hj : j ≤ 20000) : Sound Tryz.prog G 13 [prV a b, .int .i64 k] fl A (ratV (prt a b k)) A := by
  refine Sound.of mixed Tryz.func13 Tryz.ntmps13 Tryz.results13 (by kernel_rfl) rfl (by kernel_rfl) (by simp) fun hA => ?_
  have hfl : fl ≤ A.next := by have := hA.floor; omega
  have hfl1 : fl ≤ A.next + 1 := by have := hA.floor; omega
  have hfl2 : fl ≤ A.next + 2 := by have := hA.floor; omega
  have hfl3 : fl ≤ A.next + 3 := by have := hA.floor; omega
  have hfl4 : fl ≤ A.next + 4 := by have := hA.floor; omega
  have hfl5 : fl ≤ A.next + 5 := by have := hA.floor; omega
  have hfl6 : fl ≤ A.next + 6 := by have := hA.floor; omega
  have hr := below_range (x := k) (n := 9) (by omega)
  have b1 := fun fl A => below_ok (G := G) (fl := fl) (A := A) (x := k) (n := 9) (by omega) (by omega) kk.1 kk.2
  have n1 := fun fl A => num_ok (G := G) (fl := fl) (A := A) (m := below k 9) (n := 8) hG (by omega) (by omega) (by omega) (by omega) (by omega)
  have s1 := fun fl A => qsub (G := G) (fl := fl) (A := A) hG hb ha (by omega)
  have hn := num_rz (m := below k 9) (n := 8) (by omega) (by omega) (by omega) (by omega) (by omega)
  have m1 := fun fl A => qmul (G := G) (fl := fl) (A := A) hG hn (hb.sub ha) (by omega)
  have a1 := fun fl A => qadd (G := G) (fl := fl) (A := A) hG ha (hn.mul (hb.sub ha)) (by omega)
  have hrb := ratV_rb A.next (prt a b k)
  rw [show a + ((below k 9 : Int) : Rat) / ((8 : Int) : Rat) * (b - a) = prt a b k from rfl] at a1
  rw [ratV_def] at n1
  rw [ratV_def b, ratV_def a, ratV_def (b - a)] at s1
  rw [ratV_def, ratV_def (b - a), ratV_def (_ * _)] at m1
  rw [ratV_def a, ratV_def (_ * _), ratV_def (prt a b k)] at a1
  rw [ratV_def] at hrb ⊢
  rw [prV_def]
  simp only [↓R1, R2, R3, R4, TY, reduceIte, Nat.reduceEqDiff, Nat.reduceAdd, Nat.reduceMul, Nat.reduceLT, Nat.reduceLeDiff, reduceCtorEq, decide_true, decide_false, Int.reduceLE, Int.reduceLT, Int.reduceToNat, Int.reduceAdd, Int.reduceSub, Int.reduceMul, Int.reduceEq, hfl, hfl1, hfl2, hfl3, hfl4, hfl5, hfl6, NE]
  refine call_of (b1 _ _) ?_
  simp only [↓R1, R2, R3, R4, TY, reduceIte, Nat.reduceEqDiff, Nat.reduceAdd, Nat.reduceMul, Nat.reduceLT, Nat.reduceLeDiff, reduceCtorEq, decide_true, decide_false, Int.reduceLE, Int.reduceLT, Int.reduceToNat, Int.reduceAdd, Int.reduceSub, Int.reduceMul, Int.reduceEq, hfl, hfl1, hfl2, hfl3, hfl4, hfl5, hfl6, NE]
  refine call_of (n1 _ _) ?_
  simp only [↓R1, R2, R3, R4, TY, reduceIte, Nat.reduceEqDiff, Nat.reduceAdd, Nat.reduceMul, Nat.reduceLT, Nat.reduceLeDiff, reduceCtorEq, decide_true, decide_false, Int.reduceLE, Int.reduceLT, Int.reduceToNat, Int.reduceAdd, Int.reduceSub, Int.reduceMul, Int.reduceEq, hfl, hfl1, hfl2, hfl3, hfl4, hfl5, hfl6, NE]
  refine call_of (s1 _ _) ?_
  simp only [↓R1, R2, R3, R4, TY, reduceIte, Nat.reduceEqDiff, Nat.reduceAdd, Nat.reduceMul, Nat.reduceLT, Nat.reduceLeDiff, reduceCtorEq, decide_true, decide_false, Int.reduceLE, Int.reduceLT, Int.reduceToNat, Int.reduceAdd, Int.reduceSub, Int.reduceMul, Int.reduceEq, hfl, hfl1, hfl2, hfl3, hfl4, hfl5, hfl6, NE]
  refine call_of (m1 _ _) ?_
  simp only [↓R1, R2, R3, R4, TY, reduceIte, Nat.reduceEqDiff, Nat.reduceAdd, Nat.reduceMul, Nat.reduceLT, Nat.reduceLeDiff, reduceCtorEq, decide_true, decide_false, Int.reduceLE, Int.reduceLT, Int.reduceToNat, Int.reduceAdd, Int.reduceSub, Int.reduceMul, Int.reduceEq, hfl, hfl1, hfl2, hfl3, hfl4, hfl5, hfl6, NE]
  refine call_of (a1 _ _) ?_
  simp only [↓R1, R2, R3, R4, TY, reduceIte, Nat.reduceEqDiff, Nat.reduceAdd, Nat.reduceMul, Nat.reduceLT, Nat.reduceLeDiff, reduceCtorEq, decide_true, decide_false, Int.reduceLE, Int.reduceLT, Int.reduceToNat, Int.reduceAdd, Int.reduceSub, Int.reduceMul, Int.reduceEq, hfl, hfl1, hfl2, hfl3, hfl4, hfl5, hfl6, NE]
  rw [floOf_wr (by kernel_rfl)]
  simp only [↓R1, R2, R3, R4, TY, reduceIte, Nat.reduceEqDiff, Nat.reduceAdd, Nat.reduceMul, Nat.reduceLT, Nat.reduceLeDiff, reduceCtorEq, decide_true, decide_false, Int.reduceLE, Int.reduceLT, Int.reduceToNat, Int.reduceAdd, Int.reduceSub, Int.reduceMul, Int.reduceEq, hfl, hfl1, hfl2, hfl3, hfl4, hfl5, hfl6, NE]
  refine Ended.back hA ?_ rfl hrb
  simp (maxDischargeDepth := 20) only [xt_push, xt_put, xt_refl, Nat.le_refl, Nat.le_add_right, Nat.add_assoc, Nat.reduceAdd]

end
end Go.Proofs.YthclikeipdplpaaGreatDoor.Ab
