/- Cells of a grid: squares, boxes, the law. -/
import Derived.Test.YthclikeipdplpaaGreatDoorZc
namespace Go.Proofs.YthclikeipdplpaaGreatDoor.Ab
open Go.RowKit
set_option linter.unusedVariables false
set_option linter.unusedSimpArgs false
set_option maxRecDepth 100000

theorem mrat_8 (x : Int) : -8 ≤ mrat x ∧ mrat x ≤ 8 := by
  have h1 := mden_range x
  have h2 : -(8 * mden x) ≤ mnum x ∧ mnum x ≤ 8 * mden x := by
    have := below_range (x := x.tdiv 6) (n := 16 * mden x + 1) (by omega)
    unfold mnum; omega
  unfold mrat
  generalize mnum x = m at *
  obtain ⟨d, hd⟩ : ∃ d : Nat, mden x = (d : Int) := ⟨(mden x).toNat, by omega⟩
  rw [hd] at h1 h2 ⊢
  have ec : ((d : Nat) : Rat) = ((d : Int) : Rat) := (Rat.intCast_natCast d).symm
  rw [Int.toNat_natCast, Rat.mkRat_eq_div, ec]
  have e0 : ((d : Int) : Rat) ≠ 0 := fun h => by
    have : (d : Int) = 0 := by exact_mod_cast h
    omega
  have ep : (0 : Rat) < ((d : Int) : Rat) := by
    have : (0 : Int) < (d : Int) := by omega
    exact_mod_cast this
  have k1 : ((m : Int) : Rat) ≤ 8 * ((d : Int) : Rat) := by
    have := Rat.intCast_le_intCast.2 h2.2
    rw [Rat.intCast_mul] at this
    exact this
  have k2 : -(8 * ((d : Int) : Rat)) ≤ ((m : Int) : Rat) := by
    have := Rat.intCast_le_intCast.2 h2.1
    rw [Rat.intCast_neg, Rat.intCast_mul] at this
    exact this
  generalize ((m : Int) : Rat) = M at *
  generalize ((d : Int) : Rat) = D at *
  have em : M / D * D = M := by grind
  generalize M / D = q at *
  subst em
  constructor
  · refine Rat.not_lt.1 fun h => ?_
    have := Rat.mul_pos (show 0 < -8 - q by grind) ep
    grind
  · refine Rat.not_lt.1 fun h => ?_
    have := Rat.mul_pos (show 0 < q - 8 by grind) ep
    grind
theorem rmin_8 {p q : Rat} (h1 : -8 ≤ p ∧ p ≤ 8) (h2 : -8 ≤ q ∧ q ≤ 8) : -8 ≤ rmin p q ∧ rmin p q ≤ 8 := by unfold rmin; split <;> assumption
theorem rmax_8 {p q : Rat} (h1 : -8 ≤ p ∧ p ≤ 8) (h2 : -8 ≤ q ∧ q ≤ 8) : -8 ≤ rmax p q ∧ rmax p q ≤ 8 := by unfold rmax; split <;> assumption
theorem rof_rz {n : Int} (h1 : -1000000 ≤ n) (h2 : n ≤ 1000000) : Rz (rOf n) 3 := Rz.of (k := 3) (nb_len_le.2 (by omega)) (by omega)
/-- The numbers of a cell that meet the numbers from one to another. -/
theorem le_floor' {n : Int} {q : Rat} : n ≤ q.floor ↔ ((n : Int) : Rat) ≤ q := Rat.le_floor_iff
theorem c0_le {n : Int} {p : Rat} : c0 p ≤ n ↔ p ≤ (((n + 1 : Int)) : Rat) := by
  have e1 : (((n + 1 : Int)) : Rat) = ((n : Int) : Rat) + 1 := by rw [Rat.intCast_add]; rfl
  have e2 : (((-(n + 1) : Int)) : Rat) = -(((n : Int) : Rat) + 1) := by rw [Rat.intCast_neg, e1]
  have h := le_floor' (n := -(n + 1)) (q := -p)
  rw [e2] at h
  rw [e1]
  unfold c0
  constructor
  · intro k
    have := h.1 (by omega)
    grind
  · intro k
    have := h.2 (by grind)
    omega
theorem gcl_0 : gcl (c0 0) (c0 0) (nce 0 0) (nce 0 0) = [(-1, -1), (0, -1), (-1, 0), (0, 0)] := by decide +kernel
theorem slc_at {B : Hp} {id : Nat} {l : List Ce} (h : B.blk id = some (.row (l.map cC).flatten 0 2)) : Sl B 2 (.slice (some ⟨id, 0, some 0⟩) l.length l.length) (l.map cC) :=
  ⟨fun c hc => by obtain ⟨p, _, rfl⟩ := List.mem_map.1 hc; rfl, .inr (.inr ⟨⟨id, 0, some 0⟩, l.length, l.length, 0, _, rfl, by simp, rfl, h, fun j x hj => by rw [Nat.zero_add]; exact hj⟩)⟩

section
variable {G : Gl} {fl : Nat} {A : Hp}

set_option maxHeartbeats 2000000 in
theorem square_ok {x y : Int} (hG : G 1 = some tabV) (x1 : -1000 ≤ x) (x2 : x ≤ 1000) (y1 : -1000 ≤ y) (y2 : y ≤ 1000) : Sound Tryz.prog G 12 [.agg #[.int .i64 x, .int .i64 y]] fl A (bxV (rOf x) (rOf y) (rOf (x + 1)) (rOf (y + 1))) A := by
  refine Sound.of mixed Tryz.func12 Tryz.ntmps12 Tryz.results12 (by kernel_rfl) rfl (by kernel_rfl) (by simp) fun hA => ?_
  have hfl : fl ≤ A.next := by have := hA.floor; omega
  have hfl1 : fl ≤ A.next + 1 := by have := hA.floor; omega
  have hfl2 : fl ≤ A.next + 2 := by have := hA.floor; omega
  have hfl3 : fl ≤ A.next + 3 := by have := hA.floor; omega
  have hfl4 : fl ≤ A.next + 4 := by have := hA.floor; omega
  have hfl5 : fl ≤ A.next + 5 := by have := hA.floor; omega
  have hfl6 : fl ≤ A.next + 6 := by have := hA.floor; omega
  have r1 := fun fl A => rof_ok (G := G) (fl := fl) (A := A) (n := x) (by omega) (by omega)
  have r2 := fun fl A => rof_ok (G := G) (fl := fl) (A := A) (n := y) (by omega) (by omega)
  have r3 := fun fl A => rof_ok (G := G) (fl := fl) (A := A) (n := x + 1) (by omega) (by omega)
  have r4 := fun fl A => rof_ok (G := G) (fl := fl) (A := A) (n := y + 1) (by omega) (by omega)
  have w1 : IntKind.i64.wrap (x + 1) = x + 1 := wrapI (by omega)
  have w2 : IntKind.i64.wrap (y + 1) = y + 1 := wrapI (by omega)
  have hrb := bxV_rb A.next (rOf x) (rOf y) (rOf (x + 1)) (rOf (y + 1))
  generalize rOf x = a at *
  generalize rOf y = b at *
  generalize rOf (x + 1) = c at *
  generalize rOf (y + 1) = d at *
  simp only [ratV_def] at r1 r2 r3 r4
  simp only [bxV_def] at hrb ⊢
  simp only [↓R1, R2, R3, R4, TY, reduceIte, Nat.reduceEqDiff, Nat.reduceAdd, Nat.reduceMul, Nat.reduceLT, Nat.reduceLeDiff, reduceCtorEq, decide_true, decide_false, Int.reduceLE, Int.reduceLT, Int.reduceToNat, Int.reduceAdd, Int.reduceSub, Int.reduceMul, Int.reduceEq, hfl, hfl1, hfl2, hfl3, hfl4, hfl5, hfl6, NE, NE9, Nat.add_assoc, w1, w2]
  refine call_of (r1 _ _) ?_
  simp only [↓R1, R2, R3, R4, TY, reduceIte, Nat.reduceEqDiff, Nat.reduceAdd, Nat.reduceMul, Nat.reduceLT, Nat.reduceLeDiff, reduceCtorEq, decide_true, decide_false, Int.reduceLE, Int.reduceLT, Int.reduceToNat, Int.reduceAdd, Int.reduceSub, Int.reduceMul, Int.reduceEq, hfl, hfl1, hfl2, hfl3, hfl4, hfl5, hfl6, NE, NE9, Nat.add_assoc, w1, w2]
  refine call_of (r2 _ _) ?_
  simp only [↓R1, R2, R3, R4, TY, reduceIte, Nat.reduceEqDiff, Nat.reduceAdd, Nat.reduceMul, Nat.reduceLT, Nat.reduceLeDiff, reduceCtorEq, decide_true, decide_false, Int.reduceLE, Int.reduceLT, Int.reduceToNat, Int.reduceAdd, Int.reduceSub, Int.reduceMul, Int.reduceEq, hfl, hfl1, hfl2, hfl3, hfl4, hfl5, hfl6, NE, NE9, Nat.add_assoc, w1, w2]
  refine call_of (r3 _ _) ?_
  simp only [↓R1, R2, R3, R4, TY, reduceIte, Nat.reduceEqDiff, Nat.reduceAdd, Nat.reduceMul, Nat.reduceLT, Nat.reduceLeDiff, reduceCtorEq, decide_true, decide_false, Int.reduceLE, Int.reduceLT, Int.reduceToNat, Int.reduceAdd, Int.reduceSub, Int.reduceMul, Int.reduceEq, hfl, hfl1, hfl2, hfl3, hfl4, hfl5, hfl6, NE, NE9, Nat.add_assoc, w1, w2]
  refine call_of (r4 _ _) ?_
  simp only [↓R1, R2, R3, R4, TY, reduceIte, Nat.reduceEqDiff, Nat.reduceAdd, Nat.reduceMul, Nat.reduceLT, Nat.reduceLeDiff, reduceCtorEq, decide_true, decide_false, Int.reduceLE, Int.reduceLT, Int.reduceToNat, Int.reduceAdd, Int.reduceSub, Int.reduceMul, Int.reduceEq, hfl, hfl1, hfl2, hfl3, hfl4, hfl5, hfl6, NE, NE9, Nat.add_assoc, w1, w2]
  rw [floOf_wr (by kernel_rfl)]
  simp only [↓R1, R2, R3, R4, TY, reduceIte, Nat.reduceEqDiff, Nat.reduceAdd, Nat.reduceMul, Nat.reduceLT, Nat.reduceLeDiff, reduceCtorEq, decide_true, decide_false, Int.reduceLE, Int.reduceLT, Int.reduceToNat, Int.reduceAdd, Int.reduceSub, Int.reduceMul, Int.reduceEq, hfl, hfl1, hfl2, hfl3, hfl4, hfl5, hfl6, NE, NE9, Nat.add_assoc, w1, w2]
  refine Ended.back hA ?_ rfl hrb
  simp (maxDischargeDepth := 20) only [xt_push, xt_put, xt_refl, Nat.le_refl, Nat.le_add_right, Nat.add_assoc, Nat.reduceAdd]

set_option maxHeartbeats 2000000 in
theorem boxed_ok {x y u v : Int} (hG : G 1 = some tabV) (kx : -9223372036854775808 ≤ x ∧ x ≤ 9223372036854775807) (ky : -9223372036854775808 ≤ y ∧ y ≤ 9223372036854775807) (ku : -9223372036854775808 ≤ u ∧ u ≤ 9223372036854775807) (kv : -9223372036854775808 ≤ v ∧ v ≤ 9223372036854775807) : Sound Tryz.prog G 8 [.int .i64 x, .int .i64 y, .int .i64 u, .int .i64 v] fl A (bxV (rmin (mrat x) (mrat y)) (rmin (mrat u) (mrat v)) (rmax (mrat x) (mrat y)) (rmax (mrat u) (mrat v))) A := by
  refine Sound.of mixed Tryz.func8 Tryz.ntmps8 Tryz.results8 (by kernel_rfl) rfl (by kernel_rfl) (by simp) fun hA => ?_
  have hfl : fl ≤ A.next := by have := hA.floor; omega
  have hfl1 : fl ≤ A.next + 1 := by have := hA.floor; omega
  have hfl2 : fl ≤ A.next + 2 := by have := hA.floor; omega
  have hfl3 : fl ≤ A.next + 3 := by have := hA.floor; omega
  have hfl4 : fl ≤ A.next + 4 := by have := hA.floor; omega
  have hfl5 : fl ≤ A.next + 5 := by have := hA.floor; omega
  have hfl6 : fl ≤ A.next + 6 := by have := hA.floor; omega
  have m1 := fun fl A => made_span (G := G) (fl := fl) (A := A) hG kx ky
  have m2 := fun fl A => made_span (G := G) (fl := fl) (A := A) hG ku kv
  have hrb := bxV_rb A.next (rmin (mrat x) (mrat y)) (rmin (mrat u) (mrat v)) (rmax (mrat x) (mrat y)) (rmax (mrat u) (mrat v))
  generalize rmin (mrat x) (mrat y) = a at *
  generalize rmax (mrat x) (mrat y) = c at *
  generalize rmin (mrat u) (mrat v) = b at *
  generalize rmax (mrat u) (mrat v) = d at *
  simp only [prV_def] at m1 m2
  simp only [bxV_def] at hrb ⊢
  simp only [↓R1, R2, R3, R4, TY, reduceIte, Nat.reduceEqDiff, Nat.reduceAdd, Nat.reduceMul, Nat.reduceLT, Nat.reduceLeDiff, reduceCtorEq, decide_true, decide_false, Int.reduceLE, Int.reduceLT, Int.reduceToNat, Int.reduceAdd, Int.reduceSub, Int.reduceMul, Int.reduceEq, hfl, hfl1, hfl2, hfl3, hfl4, hfl5, hfl6, NE, NE9, Nat.add_assoc]
  refine call_of (m1 _ _) ?_
  simp only [↓R1, R2, R3, R4, TY, reduceIte, Nat.reduceEqDiff, Nat.reduceAdd, Nat.reduceMul, Nat.reduceLT, Nat.reduceLeDiff, reduceCtorEq, decide_true, decide_false, Int.reduceLE, Int.reduceLT, Int.reduceToNat, Int.reduceAdd, Int.reduceSub, Int.reduceMul, Int.reduceEq, hfl, hfl1, hfl2, hfl3, hfl4, hfl5, hfl6, NE, NE9, Nat.add_assoc]
  refine call_of (m2 _ _) ?_
  simp only [↓R1, R2, R3, R4, TY, reduceIte, Nat.reduceEqDiff, Nat.reduceAdd, Nat.reduceMul, Nat.reduceLT, Nat.reduceLeDiff, reduceCtorEq, decide_true, decide_false, Int.reduceLE, Int.reduceLT, Int.reduceToNat, Int.reduceAdd, Int.reduceSub, Int.reduceMul, Int.reduceEq, hfl, hfl1, hfl2, hfl3, hfl4, hfl5, hfl6, NE, NE9, Nat.add_assoc]
  refine Ended.back hA ?_ rfl hrb
  simp (maxDischargeDepth := 20) only [xt_push, xt_put, xt_refl, Nat.le_refl, Nat.le_add_right, Nat.add_assoc, Nat.reduceAdd]

set_option maxHeartbeats 2000000 in
theorem gvalid {a b c d : Rat} {k : Nat} (hG : G 1 = some tabV) (ha : Rz a k) (hb : Rz b k) (hc : Rz c k) (hd : Rz d k) (hk : k ≤ 100000) (h1 : a ≤ c) (h2 : b ≤ d) : Sound Tryz.prog G 40 [bxV a b c d] fl A (.bool true) A := by
  refine Sound.of mixed Tryz.func40 Tryz.ntmps40 Tryz.results40 (by kernel_rfl) rfl (by kernel_rfl) (by simp) fun hA => ?_
  have hfl : fl ≤ A.next := by have := hA.floor; omega
  have hfl1 : fl ≤ A.next + 1 := by have := hA.floor; omega
  have hfl2 : fl ≤ A.next + 2 := by have := hA.floor; omega
  have hfl3 : fl ≤ A.next + 3 := by have := hA.floor; omega
  have hfl4 : fl ≤ A.next + 4 := by have := hA.floor; omega
  have hfl5 : fl ≤ A.next + 5 := by have := hA.floor; omega
  have hfl6 : fl ≤ A.next + 6 := by have := hA.floor; omega
  have c1 := fun fl A => qcmp (G := G) (fl := fl) (A := A) hG ha hc (by omega)
  have c2 := fun fl A => qcmp (G := G) (fl := fl) (A := A) hG hb hd (by omega)
  have j1 : (rcmp a c ≤ 0) = True := eq_true (rcmp_le_iff.2 h1)
  have j2 : (rcmp b d ≤ 0) = True := eq_true (rcmp_le_iff.2 h2)
  simp only [ratV_def] at c1 c2
  simp only [bxV_def]
  simp only [↓R1, R2, R3, R4, TY, reduceIte, Nat.reduceEqDiff, Nat.reduceAdd, Nat.reduceMul, Nat.reduceLT, Nat.reduceLeDiff, reduceCtorEq, decide_true, decide_false, Int.reduceLE, Int.reduceLT, Int.reduceToNat, Int.reduceAdd, Int.reduceSub, Int.reduceMul, Int.reduceEq, hfl, hfl1, hfl2, hfl3, hfl4, hfl5, hfl6, NE, NE9, Nat.add_assoc, j1, j2]
  refine call_of (c1 _ _) ?_
  simp only [↓R1, R2, R3, R4, TY, reduceIte, Nat.reduceEqDiff, Nat.reduceAdd, Nat.reduceMul, Nat.reduceLT, Nat.reduceLeDiff, reduceCtorEq, decide_true, decide_false, Int.reduceLE, Int.reduceLT, Int.reduceToNat, Int.reduceAdd, Int.reduceSub, Int.reduceMul, Int.reduceEq, hfl, hfl1, hfl2, hfl3, hfl4, hfl5, hfl6, NE, NE9, Nat.add_assoc, j1, j2]
  refine call_of (c2 _ _) ?_
  simp only [↓R1, R2, R3, R4, TY, reduceIte, Nat.reduceEqDiff, Nat.reduceAdd, Nat.reduceMul, Nat.reduceLT, Nat.reduceLeDiff, reduceCtorEq, decide_true, decide_false, Int.reduceLE, Int.reduceLT, Int.reduceToNat, Int.reduceAdd, Int.reduceSub, Int.reduceMul, Int.reduceEq, hfl, hfl1, hfl2, hfl3, hfl4, hfl5, hfl6, NE, NE9, Nat.add_assoc, j1, j2]
  refine Ended.back hA ?_ rfl (RB.bool _)
  simp (maxDischargeDepth := 20) only [xt_push, xt_put, xt_refl, Nat.le_refl, Nat.le_add_right, Nat.add_assoc, Nat.reduceAdd]

set_option maxHeartbeats 2000000 in
theorem gboxes {a b c d a' b' c' d' : Rat} {k : Nat} (hG : G 1 = some tabV) (ha : Rz a k) (hb : Rz b k) (hc : Rz c k) (hd : Rz d k) (ha' : Rz a' k) (hb' : Rz b' k) (hc' : Rz c' k) (hd' : Rz d' k) (hk : k ≤ 100000) (h1 : a ≤ c) (h2 : b ≤ d) (h3 : a' ≤ c') (h4 : b' ≤ d') : Sound Tryz.prog G 11 [bxV a b c d, bxV a' b' c' d'] fl A (.bool (decide (a ≤ c' ∧ a' ≤ c ∧ b ≤ d' ∧ b' ≤ d))) A := by
  refine Sound.of mixed Tryz.func11 Tryz.ntmps11 Tryz.results11 (by kernel_rfl) rfl (by kernel_rfl) (by simp) fun hA => ?_
  have hfl : fl ≤ A.next := by have := hA.floor; omega
  have hfl1 : fl ≤ A.next + 1 := by have := hA.floor; omega
  have hfl2 : fl ≤ A.next + 2 := by have := hA.floor; omega
  have hfl3 : fl ≤ A.next + 3 := by have := hA.floor; omega
  have hfl4 : fl ≤ A.next + 4 := by have := hA.floor; omega
  have hfl5 : fl ≤ A.next + 5 := by have := hA.floor; omega
  have hfl6 : fl ≤ A.next + 6 := by have := hA.floor; omega
  have v1 := fun fl A => gvalid (G := G) (fl := fl) (A := A) hG ha hb hc hd hk h1 h2
  have v2 := fun fl A => gvalid (G := G) (fl := fl) (A := A) hG ha' hb' hc' hd' hk h3 h4
  have c1 := fun fl A => qcmp (G := G) (fl := fl) (A := A) hG ha hc' (by omega)
  have c2 := fun fl A => qcmp (G := G) (fl := fl) (A := A) hG ha' hc (by omega)
  have c3 := fun fl A => qcmp (G := G) (fl := fl) (A := A) hG hb hd' (by omega)
  have c4 := fun fl A => qcmp (G := G) (fl := fl) (A := A) hG hb' hd (by omega)
  simp only [ratV_def] at c1 c2 c3 c4
  simp only [bxV_def] at v1 v2 ⊢
  by_cases h5 : a ≤ c'
  · have j1 : (rcmp a c' ≤ 0) = True := eq_true (rcmp_le_iff.2 h5)
    by_cases h6 : a' ≤ c
    · have j2 : (rcmp a' c ≤ 0) = True := eq_true (rcmp_le_iff.2 h6)
      by_cases h7 : b ≤ d'
      · have j3 : (rcmp b d' ≤ 0) = True := eq_true (rcmp_le_iff.2 h7)
        by_cases h8 : b' ≤ d
        · have j4 : (rcmp b' d ≤ 0) = True := eq_true (rcmp_le_iff.2 h8)
          simp only [↓R1, R2, R3, R4, TY, reduceIte, Nat.reduceEqDiff, Nat.reduceAdd, Nat.reduceMul, Nat.reduceLT, Nat.reduceLeDiff, reduceCtorEq, decide_true, decide_false, Int.reduceLE, Int.reduceLT, Int.reduceToNat, Int.reduceAdd, Int.reduceSub, Int.reduceMul, Int.reduceEq, hfl, hfl1, hfl2, hfl3, hfl4, hfl5, hfl6, NE, NE9, Nat.add_assoc, j1, j2, j3, j4]
          refine call_of (v1 _ _) ?_
          simp only [↓R1, R2, R3, R4, TY, reduceIte, Nat.reduceEqDiff, Nat.reduceAdd, Nat.reduceMul, Nat.reduceLT, Nat.reduceLeDiff, reduceCtorEq, decide_true, decide_false, Int.reduceLE, Int.reduceLT, Int.reduceToNat, Int.reduceAdd, Int.reduceSub, Int.reduceMul, Int.reduceEq, hfl, hfl1, hfl2, hfl3, hfl4, hfl5, hfl6, NE, NE9, Nat.add_assoc, j1, j2, j3, j4]
          refine call_of (v2 _ _) ?_
          simp only [↓R1, R2, R3, R4, TY, reduceIte, Nat.reduceEqDiff, Nat.reduceAdd, Nat.reduceMul, Nat.reduceLT, Nat.reduceLeDiff, reduceCtorEq, decide_true, decide_false, Int.reduceLE, Int.reduceLT, Int.reduceToNat, Int.reduceAdd, Int.reduceSub, Int.reduceMul, Int.reduceEq, hfl, hfl1, hfl2, hfl3, hfl4, hfl5, hfl6, NE, NE9, Nat.add_assoc, j1, j2, j3, j4]
          refine call_of (c1 _ _) ?_
          simp only [↓R1, R2, R3, R4, TY, reduceIte, Nat.reduceEqDiff, Nat.reduceAdd, Nat.reduceMul, Nat.reduceLT, Nat.reduceLeDiff, reduceCtorEq, decide_true, decide_false, Int.reduceLE, Int.reduceLT, Int.reduceToNat, Int.reduceAdd, Int.reduceSub, Int.reduceMul, Int.reduceEq, hfl, hfl1, hfl2, hfl3, hfl4, hfl5, hfl6, NE, NE9, Nat.add_assoc, j1, j2, j3, j4]
          refine call_of (c2 _ _) ?_
          simp only [↓R1, R2, R3, R4, TY, reduceIte, Nat.reduceEqDiff, Nat.reduceAdd, Nat.reduceMul, Nat.reduceLT, Nat.reduceLeDiff, reduceCtorEq, decide_true, decide_false, Int.reduceLE, Int.reduceLT, Int.reduceToNat, Int.reduceAdd, Int.reduceSub, Int.reduceMul, Int.reduceEq, hfl, hfl1, hfl2, hfl3, hfl4, hfl5, hfl6, NE, NE9, Nat.add_assoc, j1, j2, j3, j4]
          refine call_of (c3 _ _) ?_
          simp only [↓R1, R2, R3, R4, TY, reduceIte, Nat.reduceEqDiff, Nat.reduceAdd, Nat.reduceMul, Nat.reduceLT, Nat.reduceLeDiff, reduceCtorEq, decide_true, decide_false, Int.reduceLE, Int.reduceLT, Int.reduceToNat, Int.reduceAdd, Int.reduceSub, Int.reduceMul, Int.reduceEq, hfl, hfl1, hfl2, hfl3, hfl4, hfl5, hfl6, NE, NE9, Nat.add_assoc, j1, j2, j3, j4]
          refine call_of (c4 _ _) ?_
          simp only [↓R1, R2, R3, R4, TY, reduceIte, Nat.reduceEqDiff, Nat.reduceAdd, Nat.reduceMul, Nat.reduceLT, Nat.reduceLeDiff, reduceCtorEq, decide_true, decide_false, Int.reduceLE, Int.reduceLT, Int.reduceToNat, Int.reduceAdd, Int.reduceSub, Int.reduceMul, Int.reduceEq, hfl, hfl1, hfl2, hfl3, hfl4, hfl5, hfl6, NE, NE9, Nat.add_assoc, j1, j2, j3, j4]
          refine Ended.back hA ?_ (congrArg _ ((decide_eq_true ⟨h5, h6, h7, h8⟩).symm)) (RB.bool _)
          simp (maxDischargeDepth := 20) only [xt_push, xt_put, xt_refl, Nat.le_refl, Nat.le_add_right, Nat.add_assoc, Nat.reduceAdd]
        · have j4 : (rcmp b' d ≤ 0) = False := eq_false (fun g => h8 (rcmp_le_iff.1 g))
          simp only [↓R1, R2, R3, R4, TY, reduceIte, Nat.reduceEqDiff, Nat.reduceAdd, Nat.reduceMul, Nat.reduceLT, Nat.reduceLeDiff, reduceCtorEq, decide_true, decide_false, Int.reduceLE, Int.reduceLT, Int.reduceToNat, Int.reduceAdd, Int.reduceSub, Int.reduceMul, Int.reduceEq, hfl, hfl1, hfl2, hfl3, hfl4, hfl5, hfl6, NE, NE9, Nat.add_assoc, j1, j2, j3, j4]
          refine call_of (v1 _ _) ?_
          simp only [↓R1, R2, R3, R4, TY, reduceIte, Nat.reduceEqDiff, Nat.reduceAdd, Nat.reduceMul, Nat.reduceLT, Nat.reduceLeDiff, reduceCtorEq, decide_true, decide_false, Int.reduceLE, Int.reduceLT, Int.reduceToNat, Int.reduceAdd, Int.reduceSub, Int.reduceMul, Int.reduceEq, hfl, hfl1, hfl2, hfl3, hfl4, hfl5, hfl6, NE, NE9, Nat.add_assoc, j1, j2, j3, j4]
          refine call_of (v2 _ _) ?_
          simp only [↓R1, R2, R3, R4, TY, reduceIte, Nat.reduceEqDiff, Nat.reduceAdd, Nat.reduceMul, Nat.reduceLT, Nat.reduceLeDiff, reduceCtorEq, decide_true, decide_false, Int.reduceLE, Int.reduceLT, Int.reduceToNat, Int.reduceAdd, Int.reduceSub, Int.reduceMul, Int.reduceEq, hfl, hfl1, hfl2, hfl3, hfl4, hfl5, hfl6, NE, NE9, Nat.add_assoc, j1, j2, j3, j4]
          refine call_of (c1 _ _) ?_
          simp only [↓R1, R2, R3, R4, TY, reduceIte, Nat.reduceEqDiff, Nat.reduceAdd, Nat.reduceMul, Nat.reduceLT, Nat.reduceLeDiff, reduceCtorEq, decide_true, decide_false, Int.reduceLE, Int.reduceLT, Int.reduceToNat, Int.reduceAdd, Int.reduceSub, Int.reduceMul, Int.reduceEq, hfl, hfl1, hfl2, hfl3, hfl4, hfl5, hfl6, NE, NE9, Nat.add_assoc, j1, j2, j3, j4]
          refine call_of (c2 _ _) ?_
          simp only [↓R1, R2, R3, R4, TY, reduceIte, Nat.reduceEqDiff, Nat.reduceAdd, Nat.reduceMul, Nat.reduceLT, Nat.reduceLeDiff, reduceCtorEq, decide_true, decide_false, Int.reduceLE, Int.reduceLT, Int.reduceToNat, Int.reduceAdd, Int.reduceSub, Int.reduceMul, Int.reduceEq, hfl, hfl1, hfl2, hfl3, hfl4, hfl5, hfl6, NE, NE9, Nat.add_assoc, j1, j2, j3, j4]
          refine call_of (c3 _ _) ?_
          simp only [↓R1, R2, R3, R4, TY, reduceIte, Nat.reduceEqDiff, Nat.reduceAdd, Nat.reduceMul, Nat.reduceLT, Nat.reduceLeDiff, reduceCtorEq, decide_true, decide_false, Int.reduceLE, Int.reduceLT, Int.reduceToNat, Int.reduceAdd, Int.reduceSub, Int.reduceMul, Int.reduceEq, hfl, hfl1, hfl2, hfl3, hfl4, hfl5, hfl6, NE, NE9, Nat.add_assoc, j1, j2, j3, j4]
          refine call_of (c4 _ _) ?_
          simp only [↓R1, R2, R3, R4, TY, reduceIte, Nat.reduceEqDiff, Nat.reduceAdd, Nat.reduceMul, Nat.reduceLT, Nat.reduceLeDiff, reduceCtorEq, decide_true, decide_false, Int.reduceLE, Int.reduceLT, Int.reduceToNat, Int.reduceAdd, Int.reduceSub, Int.reduceMul, Int.reduceEq, hfl, hfl1, hfl2, hfl3, hfl4, hfl5, hfl6, NE, NE9, Nat.add_assoc, j1, j2, j3, j4]
          refine Ended.back hA ?_ (congrArg _ ((decide_eq_false (fun g => h8 g.2.2.2)).symm)) (RB.bool _)
          simp (maxDischargeDepth := 20) only [xt_push, xt_put, xt_refl, Nat.le_refl, Nat.le_add_right, Nat.add_assoc, Nat.reduceAdd]
      · have j3 : (rcmp b d' ≤ 0) = False := eq_false (fun g => h7 (rcmp_le_iff.1 g))
        simp only [↓R1, R2, R3, R4, TY, reduceIte, Nat.reduceEqDiff, Nat.reduceAdd, Nat.reduceMul, Nat.reduceLT, Nat.reduceLeDiff, reduceCtorEq, decide_true, decide_false, Int.reduceLE, Int.reduceLT, Int.reduceToNat, Int.reduceAdd, Int.reduceSub, Int.reduceMul, Int.reduceEq, hfl, hfl1, hfl2, hfl3, hfl4, hfl5, hfl6, NE, NE9, Nat.add_assoc, j1, j2, j3]
        refine call_of (v1 _ _) ?_
        simp only [↓R1, R2, R3, R4, TY, reduceIte, Nat.reduceEqDiff, Nat.reduceAdd, Nat.reduceMul, Nat.reduceLT, Nat.reduceLeDiff, reduceCtorEq, decide_true, decide_false, Int.reduceLE, Int.reduceLT, Int.reduceToNat, Int.reduceAdd, Int.reduceSub, Int.reduceMul, Int.reduceEq, hfl, hfl1, hfl2, hfl3, hfl4, hfl5, hfl6, NE, NE9, Nat.add_assoc, j1, j2, j3]
        refine call_of (v2 _ _) ?_
        simp only [↓R1, R2, R3, R4, TY, reduceIte, Nat.reduceEqDiff, Nat.reduceAdd, Nat.reduceMul, Nat.reduceLT, Nat.reduceLeDiff, reduceCtorEq, decide_true, decide_false, Int.reduceLE, Int.reduceLT, Int.reduceToNat, Int.reduceAdd, Int.reduceSub, Int.reduceMul, Int.reduceEq, hfl, hfl1, hfl2, hfl3, hfl4, hfl5, hfl6, NE, NE9, Nat.add_assoc, j1, j2, j3]
        refine call_of (c1 _ _) ?_
        simp only [↓R1, R2, R3, R4, TY, reduceIte, Nat.reduceEqDiff, Nat.reduceAdd, Nat.reduceMul, Nat.reduceLT, Nat.reduceLeDiff, reduceCtorEq, decide_true, decide_false, Int.reduceLE, Int.reduceLT, Int.reduceToNat, Int.reduceAdd, Int.reduceSub, Int.reduceMul, Int.reduceEq, hfl, hfl1, hfl2, hfl3, hfl4, hfl5, hfl6, NE, NE9, Nat.add_assoc, j1, j2, j3]
        refine call_of (c2 _ _) ?_
        simp only [↓R1, R2, R3, R4, TY, reduceIte, Nat.reduceEqDiff, Nat.reduceAdd, Nat.reduceMul, Nat.reduceLT, Nat.reduceLeDiff, reduceCtorEq, decide_true, decide_false, Int.reduceLE, Int.reduceLT, Int.reduceToNat, Int.reduceAdd, Int.reduceSub, Int.reduceMul, Int.reduceEq, hfl, hfl1, hfl2, hfl3, hfl4, hfl5, hfl6, NE, NE9, Nat.add_assoc, j1, j2, j3]
        refine call_of (c3 _ _) ?_
        simp only [↓R1, R2, R3, R4, TY, reduceIte, Nat.reduceEqDiff, Nat.reduceAdd, Nat.reduceMul, Nat.reduceLT, Nat.reduceLeDiff, reduceCtorEq, decide_true, decide_false, Int.reduceLE, Int.reduceLT, Int.reduceToNat, Int.reduceAdd, Int.reduceSub, Int.reduceMul, Int.reduceEq, hfl, hfl1, hfl2, hfl3, hfl4, hfl5, hfl6, NE, NE9, Nat.add_assoc, j1, j2, j3]
        refine Ended.back hA ?_ (congrArg _ ((decide_eq_false (fun g => h7 g.2.2.1)).symm)) (RB.bool _)
        simp (maxDischargeDepth := 20) only [xt_push, xt_put, xt_refl, Nat.le_refl, Nat.le_add_right, Nat.add_assoc, Nat.reduceAdd]
    · have j2 : (rcmp a' c ≤ 0) = False := eq_false (fun g => h6 (rcmp_le_iff.1 g))
      simp only [↓R1, R2, R3, R4, TY, reduceIte, Nat.reduceEqDiff, Nat.reduceAdd, Nat.reduceMul, Nat.reduceLT, Nat.reduceLeDiff, reduceCtorEq, decide_true, decide_false, Int.reduceLE, Int.reduceLT, Int.reduceToNat, Int.reduceAdd, Int.reduceSub, Int.reduceMul, Int.reduceEq, hfl, hfl1, hfl2, hfl3, hfl4, hfl5, hfl6, NE, NE9, Nat.add_assoc, j1, j2]
      refine call_of (v1 _ _) ?_
      simp only [↓R1, R2, R3, R4, TY, reduceIte, Nat.reduceEqDiff, Nat.reduceAdd, Nat.reduceMul, Nat.reduceLT, Nat.reduceLeDiff, reduceCtorEq, decide_true, decide_false, Int.reduceLE, Int.reduceLT, Int.reduceToNat, Int.reduceAdd, Int.reduceSub, Int.reduceMul, Int.reduceEq, hfl, hfl1, hfl2, hfl3, hfl4, hfl5, hfl6, NE, NE9, Nat.add_assoc, j1, j2]
      refine call_of (v2 _ _) ?_
      simp only [↓R1, R2, R3, R4, TY, reduceIte, Nat.reduceEqDiff, Nat.reduceAdd, Nat.reduceMul, Nat.reduceLT, Nat.reduceLeDiff, reduceCtorEq, decide_true, decide_false, Int.reduceLE, Int.reduceLT, Int.reduceToNat, Int.reduceAdd, Int.reduceSub, Int.reduceMul, Int.reduceEq, hfl, hfl1, hfl2, hfl3, hfl4, hfl5, hfl6, NE, NE9, Nat.add_assoc, j1, j2]
      refine call_of (c1 _ _) ?_
      simp only [↓R1, R2, R3, R4, TY, reduceIte, Nat.reduceEqDiff, Nat.reduceAdd, Nat.reduceMul, Nat.reduceLT, Nat.reduceLeDiff, reduceCtorEq, decide_true, decide_false, Int.reduceLE, Int.reduceLT, Int.reduceToNat, Int.reduceAdd, Int.reduceSub, Int.reduceMul, Int.reduceEq, hfl, hfl1, hfl2, hfl3, hfl4, hfl5, hfl6, NE, NE9, Nat.add_assoc, j1, j2]
      refine call_of (c2 _ _) ?_
      simp only [↓R1, R2, R3, R4, TY, reduceIte, Nat.reduceEqDiff, Nat.reduceAdd, Nat.reduceMul, Nat.reduceLT, Nat.reduceLeDiff, reduceCtorEq, decide_true, decide_false, Int.reduceLE, Int.reduceLT, Int.reduceToNat, Int.reduceAdd, Int.reduceSub, Int.reduceMul, Int.reduceEq, hfl, hfl1, hfl2, hfl3, hfl4, hfl5, hfl6, NE, NE9, Nat.add_assoc, j1, j2]
      refine Ended.back hA ?_ (congrArg _ ((decide_eq_false (fun g => h6 g.2.1)).symm)) (RB.bool _)
      simp (maxDischargeDepth := 20) only [xt_push, xt_put, xt_refl, Nat.le_refl, Nat.le_add_right, Nat.add_assoc, Nat.reduceAdd]
  · have j1 : (rcmp a c' ≤ 0) = False := eq_false (fun g => h5 (rcmp_le_iff.1 g))
    simp only [↓R1, R2, R3, R4, TY, reduceIte, Nat.reduceEqDiff, Nat.reduceAdd, Nat.reduceMul, Nat.reduceLT, Nat.reduceLeDiff, reduceCtorEq, decide_true, decide_false, Int.reduceLE, Int.reduceLT, Int.reduceToNat, Int.reduceAdd, Int.reduceSub, Int.reduceMul, Int.reduceEq, hfl, hfl1, hfl2, hfl3, hfl4, hfl5, hfl6, NE, NE9, Nat.add_assoc, j1]
    refine call_of (v1 _ _) ?_
    simp only [↓R1, R2, R3, R4, TY, reduceIte, Nat.reduceEqDiff, Nat.reduceAdd, Nat.reduceMul, Nat.reduceLT, Nat.reduceLeDiff, reduceCtorEq, decide_true, decide_false, Int.reduceLE, Int.reduceLT, Int.reduceToNat, Int.reduceAdd, Int.reduceSub, Int.reduceMul, Int.reduceEq, hfl, hfl1, hfl2, hfl3, hfl4, hfl5, hfl6, NE, NE9, Nat.add_assoc, j1]
    refine call_of (v2 _ _) ?_
    simp only [↓R1, R2, R3, R4, TY, reduceIte, Nat.reduceEqDiff, Nat.reduceAdd, Nat.reduceMul, Nat.reduceLT, Nat.reduceLeDiff, reduceCtorEq, decide_true, decide_false, Int.reduceLE, Int.reduceLT, Int.reduceToNat, Int.reduceAdd, Int.reduceSub, Int.reduceMul, Int.reduceEq, hfl, hfl1, hfl2, hfl3, hfl4, hfl5, hfl6, NE, NE9, Nat.add_assoc, j1]
    refine call_of (c1 _ _) ?_
    simp only [↓R1, R2, R3, R4, TY, reduceIte, Nat.reduceEqDiff, Nat.reduceAdd, Nat.reduceMul, Nat.reduceLT, Nat.reduceLeDiff, reduceCtorEq, decide_true, decide_false, Int.reduceLE, Int.reduceLT, Int.reduceToNat, Int.reduceAdd, Int.reduceSub, Int.reduceMul, Int.reduceEq, hfl, hfl1, hfl2, hfl3, hfl4, hfl5, hfl6, NE, NE9, Nat.add_assoc, j1]
    refine Ended.back hA ?_ (congrArg _ ((decide_eq_false (fun g => h5 g.1)).symm)) (RB.bool _)
    simp (maxDischargeDepth := 20) only [xt_push, xt_put, xt_refl, Nat.le_refl, Nat.le_add_right, Nat.add_assoc, Nat.reduceAdd]

set_option maxHeartbeats 4000000 in
theorem gridBegun_ok (hG : G 1 = some tabV) : Sound Tryz.prog G 6 [] fl A (.bool true) A := by
  refine Sound.of mixed Tryz.func6 Tryz.ntmps6 Tryz.results6 (by kernel_rfl) rfl (by kernel_rfl) (by simp) fun hA => ?_
  have hfl : fl ≤ A.next := by have := hA.floor; omega
  have hfl1 : fl ≤ A.next + 1 := by have := hA.floor; omega
  have hfl2 : fl ≤ A.next + 2 := by have := hA.floor; omega
  have hfl3 : fl ≤ A.next + 3 := by have := hA.floor; omega
  have hfl4 : fl ≤ A.next + 4 := by have := hA.floor; omega
  have hfl5 : fl ≤ A.next + 5 := by have := hA.floor; omega
  have hfl6 : fl ≤ A.next + 6 := by have := hA.floor; omega
  have f0 := fun fl A => fit0 (G := G) (fl := fl) (A := A)
  have z1 : (-8 : Rat) ≤ 0 := by decide
  have z2 : (0 : Rat) ≤ 8 := by decide
  have of := fun fl A => gof (G := G) (fl := fl) (A := A) hG f0 f0 f0 f0 rz_zero rz_zero rz_zero rz_zero (by omega) z1 z2 z1 z2 z1 z2 z1 z2 Rat.le_refl Rat.le_refl
  rw [gcl_0] at of
  have hl : ([(-1, -1), (0, -1), (-1, 0), (0, 0)] : List Ce).length = 4 := rfl
  have hf : (([(-1, -1), (0, -1), (-1, 0), (0, 0)] : List Ce).map cC).flatten = [.int .i64 (-1), .int .i64 (-1), .int .i64 0, .int .i64 (-1), .int .i64 (-1), .int .i64 0, .int .i64 0, .int .i64 0] := rfl
  rw [hl, hf] at of
  have hd := eqD_cell (-1) (-1) (-1) (-1)
  rw [decide_eq_true rfl] at hd
  have e4 : (((4 : Nat) : Int) = 4) = True := eq_true rfl
  have e5 : ((0 : Int) < ((4 : Nat) : Int)) = True := eq_true (by decide)
  simp only [↓R1, R2, R3, R4, TY, reduceIte, Nat.reduceEqDiff, Nat.reduceAdd, Nat.reduceMul, Nat.reduceLT, Nat.reduceLeDiff, reduceCtorEq, decide_true, decide_false, Int.reduceLE, Int.reduceLT, Int.reduceToNat, Int.reduceAdd, Int.reduceSub, Int.reduceMul, Int.reduceEq, hfl, hfl1, hfl2, hfl3, hfl4, hfl5, hfl6, NE, NE9, Nat.add_assoc]
  refine call_of (of _ _) ?_
  simp only [↓R1, R2, R3, R4, TY, reduceIte, Nat.reduceEqDiff, Nat.reduceAdd, Nat.reduceMul, Nat.reduceLT, Nat.reduceLeDiff, reduceCtorEq, decide_true, decide_false, Int.reduceLE, Int.reduceLT, Int.reduceToNat, Int.reduceAdd, Int.reduceSub, Int.reduceMul, Int.reduceEq, hfl, hfl1, hfl2, hfl3, hfl4, hfl5, hfl6, NE, NE9, Nat.add_assoc, hd, guard_cell, e4, e5]
  refine Ended.back hA ((Xt.refl A).push _) rfl (RB.bool _)

set_option maxHeartbeats 8000000 in
theorem gridCovers_run {x1 x2 x3 x4 x5 x6 : Int} (hG : G 1 = some tabV) (k1 : -9223372036854775808 ≤ x1 ∧ x1 ≤ 9223372036854775807) (k2 : -9223372036854775808 ≤ x2 ∧ x2 ≤ 9223372036854775807) (k3 : -9223372036854775808 ≤ x3 ∧ x3 ≤ 9223372036854775807) (k4 : -9223372036854775808 ≤ x4 ∧ x4 ≤ 9223372036854775807) (k5 : -9223372036854775808 ≤ x5 ∧ x5 ≤ 9223372036854775807) (k6 : -9223372036854775808 ≤ x6 ∧ x6 ≤ 9223372036854775807) : Sound Tryz.prog G 3 [.int .i64 x1, .int .i64 x2, .int .i64 x3, .int .i64 x4, .int .i64 x5, .int .i64 x6] fl A (.bool true) A := by
  refine Sound.of mixed Tryz.func3 Tryz.ntmps3 Tryz.results3 (by kernel_rfl) rfl (by kernel_rfl) (by simp) fun hA => ?_
  have hfl : fl ≤ A.next := by have := hA.floor; omega
  have hfl1 : fl ≤ A.next + 1 := by have := hA.floor; omega
  have hfl2 : fl ≤ A.next + 2 := by have := hA.floor; omega
  have hfl3 : fl ≤ A.next + 3 := by have := hA.floor; omega
  have hfl4 : fl ≤ A.next + 4 := by have := hA.floor; omega
  have hfl5 : fl ≤ A.next + 5 := by have := hA.floor; omega
  have hfl6 : fl ≤ A.next + 6 := by have := hA.floor; omega
  have gb := fun fl A => gridBegun_ok (G := G) (fl := fl) (A := A) hG
  have ab := fun fl A => apartBegun_ok (G := G) (fl := fl) (A := A) hG
  have bx := fun fl A => boxed_ok (G := G) (fl := fl) (A := A) hG k1 k2 k3 k4
  have sx := made_sp x1 x2
  have sy := made_sp x3 x4
  have a8 := rmin_8 (mrat_8 x1) (mrat_8 x2)
  have c8 := rmax_8 (mrat_8 x1) (mrat_8 x2)
  have b8 := rmin_8 (mrat_8 x3) (mrat_8 x4)
  have d8 := rmax_8 (mrat_8 x3) (mrat_8 x4)
  generalize rmin (mrat x1) (mrat x2) = a at *
  generalize rmax (mrat x1) (mrat x2) = c at *
  generalize rmin (mrat x3) (mrat x4) = b at *
  generalize rmax (mrat x3) (mrat x4) = d at *
  have fa := fun fl A => qfit (G := G) (fl := fl) (A := A) (q := a) hG (by have := sx.low.1; omega) (by have := sx.low.2; omega)
  have fb := fun fl A => qfit (G := G) (fl := fl) (A := A) (q := b) hG (by have := sy.low.1; omega) (by have := sy.low.2; omega)
  have fc := fun fl A => qfit (G := G) (fl := fl) (A := A) (q := c) hG (by have := sx.high.1; omega) (by have := sx.high.2; omega)
  have fd := fun fl A => qfit (G := G) (fl := fl) (A := A) (q := d) hG (by have := sy.high.1; omega) (by have := sy.high.2; omega)
  have of := fun fl A => gof (G := G) (fl := fl) (A := A) hG fa fb fc fd sx.low sy.low sx.high sy.high (by omega) a8.1 a8.2 b8.1 b8.2 c8.1 c8.2 d8.1 d8.2 sx.le sy.le
  have ex := nce_eq sx.le
  have ey := nce_eq sy.le
  have px := nce_pos sx.le
  have py := nce_pos sy.le
  have lx := nce_le a8.1 a8.2 c8.1 c8.2
  have ly := nce_le b8.1 b8.2 d8.1 d8.2
  have q1 := c0_8 a8.1 a8.2
  have q2 := c0_8 b8.1 b8.2
  have q3 := floor_8 c8.1 c8.2
  have q4 := floor_8 d8.1 d8.2
  have hmem : ∀ e, e ∈ gcl (c0 a) (c0 b) (nce a c) (nce b d) ↔ (c0 a ≤ e.1 ∧ e.1 ≤ c.floor ∧ c0 b ≤ e.2 ∧ e.2 ≤ d.floor) := fun e => by
    rw [mem_gcl]; omega
  have hlen : (gcl (c0 a) (c0 b) (nce a c) (nce b d)).length ≤ 400 := by
    rw [gcl_len]
    have := Nat.mul_le_mul ly lx
    omega
  have hpos : 0 < (gcl (c0 a) (c0 b) (nce a c) (nce b d)).length := by
    rw [gcl_len]; exact Nat.mul_pos (by omega) (by omega)
  have hsort := gcl_sorted (x0 := c0 a) (y0 := c0 b) (nx := nce a c) (nce b d)
  generalize gcl (c0 a) (c0 b) (nce a c) (nce b d) = l at *
  have hon : ∀ e ∈ l, -64 ≤ e.1 ∧ e.1 < 64 ∧ -64 ≤ e.2 ∧ e.2 < 64 := fun e he => by
    have := (hmem e).1 he
    omega
  have hsl := fun B id => slc_at (B := B) (id := id) (l := l)
  have ck := fun fl (A : Hp) v (hs : Sl A 2 v (l.map cC)) => gcheck (G := G) (fl := fl) (A := A) hs hlen hon hsort
  have p5 := prt_in sx.le x5
  have p6 := prt_in sy.le x6
  have z5 := prt_rz sx.low sx.high x5
  have z6 := prt_rz sy.low sy.high x6
  have pa5 := fun fl A => part_ok (G := G) (fl := fl) (A := A) (k := x5) hG sx.low sx.high k5 (by omega)
  have pa6 := fun fl A => part_ok (G := G) (fl := fl) (A := A) (k := x6) hG sy.low sy.high k6 (by omega)
  generalize prt a c x5 = s at *
  generalize prt b d x6 = t at *
  have s8 : -8 ≤ s ∧ s ≤ 8 := by have := p5; grind
  have t8 : -8 ≤ t ∧ t ≤ 8 := by have := p6; grind
  have q5 := floor_8 s8.1 s8.2
  have q6 := floor_8 t8.1 t8.2
  have fs := fun fl A => qfit (G := G) (fl := fl) (A := A) (q := s) hG (by have := z5.1; omega) (by have := z5.2; omega)
  have ft := fun fl A => qfit (G := G) (fl := fl) (A := A) (q := t) hG (by have := z6.1; omega) (by have := z6.2; omega)
  have g5 := fun fl A => gfloor (G := G) (fl := fl) (A := A) hG fs z5 (by omega) (by omega)
  have g6 := fun fl A => gfloor (G := G) (fl := fl) (A := A) hG ft z6 (by omega) (by omega)
  have hin : (s.floor, t.floor) ∈ l := by
    rw [hmem]
    have e1 := floor_le' s
    have e2 := lt_floor' s
    have e3 := floor_le' t
    have e4 := lt_floor' t
    refine ⟨c0_le.2 ?_, le_floor'.2 ?_, c0_le.2 ?_, le_floor'.2 ?_⟩
    · rw [Rat.intCast_add]; have e : ((1 : Int) : Rat) = 1 := rfl; rw [e]; grind
    · grind
    · rw [Rat.intCast_add]; have e : ((1 : Int) : Rat) = 1 := rfl; rw [e]; grind
    · grind
  generalize s.floor = m at *
  generalize t.floor = n at *
  have cn := fun fl (A : Hp) v (e : Ce) (hs : Sl A 2 v (l.map cC)) => gcontains (G := G) (fl := fl) (A := A) (e := e) hs (by omega)
  have cn1 := fun fl (A : Hp) v (hs : Sl A 2 v (l.map cC)) => cn fl A v (m, n) hs
  rw [decide_eq_true hin] at cn1
  have r5 := below_range (x := x5) (n := 40) (by omega)
  have r6 := below_range (x := x6) (n := 40) (by omega)
  have w5 := fun fl A => below_ok (G := G) (fl := fl) (A := A) (x := x5) (n := 40) (by omega) (by omega) k5.1 k5.2
  have w6 := fun fl A => below_ok (G := G) (fl := fl) (A := A) (x := x6) (n := 40) (by omega) (by omega) k6.1 k6.2
  generalize below x5 40 = u5 at *
  generalize below x6 40 = u6 at *
  have h0 := hon l[0] (List.getElem_mem _)
  have y1 : IntKind.i64.wrap (l[0].1 + u5) = l[0].1 + u5 := wrapI (by omega)
  have y2 : IntKind.i64.wrap (l[0].1 + u5 - 20) = l[0].1 + u5 - 20 := wrapI (by omega)
  have y3 : IntKind.i64.wrap (l[0].2 + u6) = l[0].2 + u6 := wrapI (by omega)
  have y4 : IntKind.i64.wrap (l[0].2 + u6 - 20) = l[0].2 + u6 - 20 := wrapI (by omega)
  have zq : ∀ n : Int, -1000 ≤ n → n ≤ 1000 → Rz (rOf n) 3 := fun n h1 h2 => rof_rz (by omega) (by omega)
  have le1 : ∀ n : Int, rOf n ≤ rOf (n + 1) := fun n => by rw [rOf_eq, rOf_eq]; exact Rat.intCast_le_intCast.2 (by omega)
  have hmeet : ∀ e : Ce, (rOf e.1 ≤ c ∧ a ≤ rOf (e.1 + 1) ∧ rOf e.2 ≤ d ∧ b ≤ rOf (e.2 + 1)) ↔ e ∈ l := fun e => by
    rw [hmem, rOf_eq, rOf_eq, rOf_eq, rOf_eq, ← le_floor', ← le_floor', ← c0_le, ← c0_le]
    omega
  have la := sx.low.mono (show 1 ≤ 3 by omega)
  have lb := sy.low.mono (show 1 ≤ 3 by omega)
  have lc := sx.high.mono (show 1 ≤ 3 by omega)
  have ld := sy.high.mono (show 1 ≤ 3 by omega)
  have bo : ∀ (e : Ce) (h1 : -1000 ≤ e.1 ∧ e.1 < 1000) (h2 : -1000 ≤ e.2 ∧ e.2 < 1000) fl A, Sound Tryz.prog G 11 [bxV (rOf e.1) (rOf e.2) (rOf (e.1 + 1)) (rOf (e.2 + 1)), bxV a b c d] fl A (.bool (decide (e ∈ l))) A := fun e h1 h2 fl A => by
    have := gboxes (G := G) (fl := fl) (A := A) hG (zq e.1 (by omega) (by omega)) (zq e.2 (by omega) (by omega)) (zq (e.1 + 1) (by omega) (by omega)) (zq (e.2 + 1) (by omega) (by omega)) la lb lc ld (by omega) (le1 _) (le1 _) sx.le sy.le
    simp only [hmeet e] at this
    exact this
  have bs := fun fl A => bo (l[0].1 + u5 - 20, l[0].2 + u6 - 20) (by simp only; omega) (by simp only; omega) fl A
  have sq2 := fun fl A => square_ok (G := G) (fl := fl) (A := A) (x := l[0].1 + u5 - 20) (y := l[0].2 + u6 - 20) hG (by omega) (by omega) (by omega) (by omega)
  have cn2 := fun fl (A : Hp) v (hs : Sl A 2 v (l.map cC)) => cn fl A v (l[0].1 + u5 - 20, l[0].2 + u6 - 20) hs
  clear cn
  simp only [] at bs cn1 cn2
  generalize decide ((l[0].1 + u5 - 20, l[0].2 + u6 - 20) ∈ l) = dm at *
  generalize hX : rOf (l[0].1 + u5 - 20) = X at *
  generalize hY : rOf (l[0].2 + u6 - 20) = Y at *
  generalize hX1 : rOf (l[0].1 + u5 - 20 + 1) = X1 at *
  generalize hY1 : rOf (l[0].2 + u6 - 20 + 1) = Y1 at *
  have lne : (l.length = 0) = False := eq_false (by omega)
  have lne' : (((l.length : Nat) : Int) = 0) = False := eq_false (by omega)
  have hl63 : l.length < 9223372036854775807 := by omega
  have bod := bxV_def
  simp only [bxV_def] at bx bs sq2
  simp only [prV_def, ratV_def] at of pa5 pa6 g5 g6
  simp only [↓R1, R2, R3, R4, TY, reduceIte, Nat.reduceEqDiff, Nat.reduceAdd, Nat.reduceMul, Nat.reduceLT, Nat.reduceLeDiff, reduceCtorEq, decide_true, decide_false, Int.reduceLE, Int.reduceLT, Int.reduceToNat, Int.reduceAdd, Int.reduceSub, Int.reduceMul, Int.reduceEq, hfl, hfl1, hfl2, hfl3, hfl4, hfl5, hfl6, NE, NE9, Nat.add_assoc]
  refine call_of (gb _ _) ?_
  simp only [↓R1, R2, R3, R4, TY, reduceIte, Nat.reduceEqDiff, Nat.reduceAdd, Nat.reduceMul, Nat.reduceLT, Nat.reduceLeDiff, reduceCtorEq, decide_true, decide_false, Int.reduceLE, Int.reduceLT, Int.reduceToNat, Int.reduceAdd, Int.reduceSub, Int.reduceMul, Int.reduceEq, hfl, hfl1, hfl2, hfl3, hfl4, hfl5, hfl6, NE, NE9, Nat.add_assoc]
  refine call_of (ab _ _) ?_
  simp only [↓R1, R2, R3, R4, TY, reduceIte, Nat.reduceEqDiff, Nat.reduceAdd, Nat.reduceMul, Nat.reduceLT, Nat.reduceLeDiff, reduceCtorEq, decide_true, decide_false, Int.reduceLE, Int.reduceLT, Int.reduceToNat, Int.reduceAdd, Int.reduceSub, Int.reduceMul, Int.reduceEq, hfl, hfl1, hfl2, hfl3, hfl4, hfl5, hfl6, NE, NE9, Nat.add_assoc]
  refine call_of (bx _ _) ?_
  simp only [↓R1, R2, R3, R4, TY, reduceIte, Nat.reduceEqDiff, Nat.reduceAdd, Nat.reduceMul, Nat.reduceLT, Nat.reduceLeDiff, reduceCtorEq, decide_true, decide_false, Int.reduceLE, Int.reduceLT, Int.reduceToNat, Int.reduceAdd, Int.reduceSub, Int.reduceMul, Int.reduceEq, hfl, hfl1, hfl2, hfl3, hfl4, hfl5, hfl6, NE, NE9, Nat.add_assoc]
  refine call_of (of _ _) ?_
  simp only [↓R1, R2, R3, R4, TY, reduceIte, Nat.reduceEqDiff, Nat.reduceAdd, Nat.reduceMul, Nat.reduceLT, Nat.reduceLeDiff, reduceCtorEq, decide_true, decide_false, Int.reduceLE, Int.reduceLT, Int.reduceToNat, Int.reduceAdd, Int.reduceSub, Int.reduceMul, Int.reduceEq, hfl, hfl1, hfl2, hfl3, hfl4, hfl5, hfl6, NE, NE9, Nat.add_assoc]
  obtain ⟨p, hp⟩ : ∃ p : Addr, p = ⟨A.next + 1, 0, some 0⟩ := ⟨_, rfl⟩
  rw [← hp]
  generalize hB : Hp.push (Hp.put (Hp.push A _) A.next _) _ = B
  have hBx : Xt A.next A B := by
    rw [← hB]; simp (maxDischargeDepth := 20) only [xt_push, xt_put, xt_refl, Nat.le_refl, Nat.le_add_right, Nat.add_assoc, Nat.reduceAdd]
  have hBn : B.next = A.next + 2 := by rw [← hB]; simp
  have hb0 : B.blk A.next = some (.row (bxC a b c d) 0 12) := by rw [← hB]; simp [Hp.put_blk, Hp.push_blk, bxC]
  have hb1 : B.blk (A.next + 1) = some (.row (l.map cC).flatten 0 2) := by rw [← hB]; simp [Hp.put_blk, Hp.push_blk]
  clear hB
  have hslp : ∀ C : Hp, C.blk (A.next + 1) = some (.row (l.map cC).flatten 0 2) → Sl C 2 (.slice (some p) l.length l.length) (l.map cC) := fun C h => by rw [hp]; exact hsl _ _ h
  have hpb : p.block = A.next + 1 := by rw [hp]
  refine call_of (ck _ _ _ (hslp _ hb1)) ?_
  simp only [↓R1, R2, R3, R4, TY, reduceIte, Nat.reduceEqDiff, Nat.reduceAdd, Nat.reduceMul, Nat.reduceLT, Nat.reduceLeDiff, reduceCtorEq, decide_true, decide_false, Int.reduceLE, Int.reduceLT, Int.reduceToNat, Int.reduceAdd, Int.reduceSub, Int.reduceMul, Int.reduceEq, hfl, hfl1, hfl2, hfl3, hfl4, hfl5, hfl6, NE, NE9, Nat.add_assoc, lne, lne']
  refine range_of 55 l.length (fun i τ C => Xt A.next A C ∧ A.next + 2 ≤ C.next ∧ C.blk A.next = some (.row (bxC a b c d) 0 12) ∧ C.blk (A.next + 1) = some (.row (l.map cC).flatten 0 2) ∧ τ 4 = some (.int .i64 x5) ∧ τ 5 = some (.int .i64 x6) ∧ τ 13 = some (.pointer (some ⟨A.next, 0, some 0⟩)) ∧ τ 14 = some (.slice (some p) l.length l.length) ∧ τ 53 = some (.slice (some p) l.length l.length) ∧ τ 54 = some (.int .i64 (l.length : Nat)) ∧ τ 55 = some (.int .i64 (i : Nat))) ?_ ?_
  · exact ⟨hBx, by omega, hb0, hb1, rfl, rfl, rfl, rfl, rfl, rfl, rfl⟩
  clear hb0 hb1 hBx hBn
  rintro i τ C hi ⟨hx, hn, hc0, hc1, t4, t5, t13, t14, t53, t54, t55⟩
  have hflC : fl ≤ C.next := by omega
  have hflC1 : fl ≤ C.next + 1 := by omega
  have hflC2 : fl ≤ C.next + 2 := by omega
  have hflC3 : fl ≤ C.next + 3 := by omega
  have hac : p.block < C.next := by omega
  have hac1 : p.block < C.next + 1 := by omega
  have hac2 : p.block < C.next + 2 := by omega
  have nec : (p.block = C.next) = False := eq_false (by omega)
  have nec1 : (p.block = C.next + 1) = False := eq_false (by omega)
  have hsC := hslp C hc1
  simp only [↓R1, R2, R3, R4, TY, reduceIte, Nat.reduceEqDiff, Nat.reduceAdd, Nat.reduceMul, Nat.reduceLT, Nat.reduceLeDiff, reduceCtorEq, decide_true, decide_false, Int.reduceLE, Int.reduceLT, Int.reduceToNat, Int.reduceAdd, Int.reduceSub, Int.reduceMul, Int.reduceEq, t4, t5, t13, t14, t53, t54, t55]
  refine ⟨fun hlt => ?_, fun hlt => ?_⟩
  · have hlt' : i < l.length := by omega
    obtain ⟨g0, g1⟩ := cell_get (G := G) hsC hlt'
    have he := hon l[i] (List.getElem_mem _)
    have sq1 := fun fl A => square_ok (G := G) (fl := fl) (A := A) (x := l[i].1) (y := l[i].2) hG (by omega) (by omega) (by omega) (by omega)
    have bo1 := fun fl A => bo l[i] (by omega) (by omega) fl A
    rw [decide_eq_true (List.getElem_mem hlt')] at bo1
    have hi63 : i < 9223372036854775807 := by omega
    generalize rOf l[i].1 = Z1 at *
    generalize rOf l[i].2 = Z2 at *
    generalize rOf (l[i].1 + 1) = Z3 at *
    generalize rOf (l[i].2 + 1) = Z4 at *
    simp only [bxV_def] at sq1 bo1
    simp only [↓R1, R2, R3, R4, TY, reduceIte, Nat.reduceEqDiff, Nat.reduceAdd, Nat.reduceMul, Nat.reduceLT, Nat.reduceLeDiff, reduceCtorEq, decide_true, decide_false, Int.reduceLE, Int.reduceLT, Int.reduceToNat, Int.reduceAdd, Int.reduceSub, Int.reduceMul, Int.reduceEq, t4, t5, t13, t14, t53, t54, t55, hlt, g0, g1, hac, hflC, hflC1, NE]
    generalize hD : Hp.put (Hp.push C _) C.next _ = D
    have hDx : Xt A.next A D := by
      rw [← hD]
      simp (maxDischargeDepth := 20) only [xt_push, xt_put, hx, hx.next, Nat.le_refl]
    have hDn : D.next = C.next + 1 := by rw [← hD]; simp
    have hd0 : D.blk A.next = some (.row (bxC a b c d) 0 12) := by
      rw [← hD]
      have n1 : A.next ≠ C.next := by omega
      simp [Hp.put_blk, Hp.push_blk, n1, hc0]
    have hd1 : D.blk (A.next + 1) = some (.row (l.map cC).flatten 0 2) := by
      rw [← hD]
      have n1 : A.next + 1 ≠ C.next := by omega
      simp [Hp.put_blk, Hp.push_blk, n1, hc1]
    have gD : ∀ j, D.get G ⟨A.next, j, some 0⟩ = (bxC a b c d)[j]? := fun j => by simp [Hp.get, hd0]
    simp only [bxC] at gD
    clear hD
    refine call_of (sq1 _ _) ?_
    simp only [↓R1, R2, R3, R4, TY, reduceIte, Nat.reduceEqDiff, Nat.reduceAdd, Nat.reduceMul, Nat.reduceLT, Nat.reduceLeDiff, reduceCtorEq, decide_true, decide_false, Int.reduceLE, Int.reduceLT, Int.reduceToNat, Int.reduceAdd, Int.reduceSub, Int.reduceMul, Int.reduceEq, t4, t5, t13, t14, t53, t54, t55, gD, List.getElem?_cons_zero, List.getElem?_cons_succ, NE]
    refine call_of (bo1 _ _) ?_
    simp only [↓R1, R2, R3, R4, TY, reduceIte, Nat.reduceEqDiff, Nat.reduceAdd, Nat.reduceMul, Nat.reduceLT, Nat.reduceLeDiff, reduceCtorEq, decide_true, decide_false, Int.reduceLE, Int.reduceLT, Int.reduceToNat, Int.reduceAdd, Int.reduceSub, Int.reduceMul, Int.reduceEq, t4, t5, t13, t14, t53, t54, t55, hi63]
    exact range_on t55 hlt' rfl ⟨hDx, by omega, hd0, hd1, t4, t5, t13, t14, t53, t54, rfl⟩
  · have gC : ∀ j, C.get G ⟨A.next, j, some 0⟩ = (bxC a b c d)[j]? := fun j => by simp [Hp.get, hc0]
    simp only [bxC] at gC
    obtain ⟨g0, g1⟩ := cell_get (G := G) hsC hpos
    have hposI : ((0 : Int) < ((l.length : Nat) : Int)) = True := eq_true (by omega)
    rw [Nat.zero_mul] at g0 g1
    simp only [↓R1, R2, R3, R4, TY, reduceIte, Nat.reduceEqDiff, Nat.reduceAdd, Nat.reduceMul, Nat.reduceLT, Nat.reduceLeDiff, reduceCtorEq, decide_true, decide_false, Int.reduceLE, Int.reduceLT, Int.reduceToNat, Int.reduceAdd, Int.reduceSub, Int.reduceMul, Int.reduceEq, t4, t5, t13, t14, gC, List.getElem?_cons_zero, List.getElem?_cons_succ, hflC, hflC1, hflC2, hflC3, NE]
    refine call_of (pa5 _ _) ?_
    simp only [↓R1, R2, R3, R4, TY, reduceIte, Nat.reduceEqDiff, Nat.reduceAdd, Nat.reduceMul, Nat.reduceLT, Nat.reduceLeDiff, reduceCtorEq, decide_true, decide_false, Int.reduceLE, Int.reduceLT, Int.reduceToNat, Int.reduceAdd, Int.reduceSub, Int.reduceMul, Int.reduceEq, t4, t5, t13, t14, gC, List.getElem?_cons_zero, List.getElem?_cons_succ, hflC, hflC1, hflC2, hflC3, NE]
    refine call_of (pa6 _ _) ?_
    simp only [↓R1, R2, R3, R4, TY, reduceIte, Nat.reduceEqDiff, Nat.reduceAdd, Nat.reduceMul, Nat.reduceLT, Nat.reduceLeDiff, reduceCtorEq, decide_true, decide_false, Int.reduceLE, Int.reduceLT, Int.reduceToNat, Int.reduceAdd, Int.reduceSub, Int.reduceMul, Int.reduceEq, t4, t5, t13, t14, gC, List.getElem?_cons_zero, List.getElem?_cons_succ, hflC, hflC1, hflC2, hflC3, NE]
    rw [floOf_wr (by kernel_rfl)]
    simp only [↓R1, R2, R3, R4, TY, reduceIte, Nat.reduceEqDiff, Nat.reduceAdd, Nat.reduceMul, Nat.reduceLT, Nat.reduceLeDiff, reduceCtorEq, decide_true, decide_false, Int.reduceLE, Int.reduceLT, Int.reduceToNat, Int.reduceAdd, Int.reduceSub, Int.reduceMul, Int.reduceEq, t4, t5, t13, t14, gC, List.getElem?_cons_zero, List.getElem?_cons_succ, hflC, hflC1, hflC2, hflC3, NE]
    refine call_of (g5 _ _) ?_
    simp only [↓R1, R2, R3, R4, TY, reduceIte, Nat.reduceEqDiff, Nat.reduceAdd, Nat.reduceMul, Nat.reduceLT, Nat.reduceLeDiff, reduceCtorEq, decide_true, decide_false, Int.reduceLE, Int.reduceLT, Int.reduceToNat, Int.reduceAdd, Int.reduceSub, Int.reduceMul, Int.reduceEq, t4, t5, t13, t14, gC, List.getElem?_cons_zero, List.getElem?_cons_succ, hflC, hflC1, hflC2, hflC3, NE]
    refine call_of (g6 _ _) ?_
    simp only [↓R1, R2, R3, R4, TY, reduceIte, Nat.reduceEqDiff, Nat.reduceAdd, Nat.reduceMul, Nat.reduceLT, Nat.reduceLeDiff, reduceCtorEq, decide_true, decide_false, Int.reduceLE, Int.reduceLT, Int.reduceToNat, Int.reduceAdd, Int.reduceSub, Int.reduceMul, Int.reduceEq, t4, t5, t13, t14, g0, g1, hac, hac1, hac2, nec, nec1, hpos, hposI, hflC, hflC1, hflC2, hflC3, NE]
    refine call_of (w5 _ _) ?_
    simp only [↓R1, R2, R3, R4, TY, reduceIte, Nat.reduceEqDiff, Nat.reduceAdd, Nat.reduceMul, Nat.reduceLT, Nat.reduceLeDiff, reduceCtorEq, decide_true, decide_false, Int.reduceLE, Int.reduceLT, Int.reduceToNat, Int.reduceAdd, Int.reduceSub, Int.reduceMul, Int.reduceEq, t4, t5, t13, t14, g0, g1, hac, hac1, hac2, nec, nec1, hpos, hposI, hflC, hflC1, hflC2, hflC3, NE, y1, y2]
    refine call_of (w6 _ _) ?_
    simp only [↓R1, R2, R3, R4, TY, reduceIte, Nat.reduceEqDiff, Nat.reduceAdd, Nat.reduceMul, Nat.reduceLT, Nat.reduceLeDiff, reduceCtorEq, decide_true, decide_false, Int.reduceLE, Int.reduceLT, Int.reduceToNat, Int.reduceAdd, Int.reduceSub, Int.reduceMul, Int.reduceEq, t4, t5, t13, t14, g0, g1, hac, hac1, hac2, nec, nec1, hpos, hposI, hflC, hflC1, hflC2, hflC3, NE, y1, y2, y3, y4]
    rw [floOf_wr (by kernel_rfl)]
    simp only [↓R1, R2, R3, R4, TY, reduceIte, Nat.reduceEqDiff, Nat.reduceAdd, Nat.reduceMul, Nat.reduceLT, Nat.reduceLeDiff, reduceCtorEq, decide_true, decide_false, Int.reduceLE, Int.reduceLT, Int.reduceToNat, Int.reduceAdd, Int.reduceSub, Int.reduceMul, Int.reduceEq, t4, t5, t13, t14, g0, g1, hac, hac1, hac2, nec, nec1, hpos, hposI, hflC, hflC1, hflC2, hflC3, NE, NE9, Nat.add_assoc, y1, y2, y3, y4]
    have hnn : A.next ≤ C.next := hx.next
    have hnn1 : A.next ≤ C.next + 1 := by omega
    have hnn2 : A.next ≤ C.next + 2 := by omega
    generalize hE : Hp.put _ (C.next + 2) _ = E
    have hEx : Xt A.next A E := by
      rw [← hE]
      simp (maxDischargeDepth := 20) only [xt_push, xt_put, hx, hx.next, hnn, hnn1, hnn2, Nat.le_refl, Nat.le_add_right, Nat.add_assoc, Nat.reduceAdd]
    have n1 : A.next ≠ C.next ∧ A.next ≠ C.next + 1 ∧ A.next ≠ C.next + 2 := by omega
    have n2 : A.next + 1 ≠ C.next ∧ A.next + 1 ≠ C.next + 1 ∧ A.next + 1 ≠ C.next + 2 := by omega
    have hd0 : E.blk A.next = some (.row (bxC a b c d) 0 12) := by
      rw [← hE]
      simp [Hp.put_blk, Hp.push_blk, Nat.add_assoc, n1, hc0]
    have hd1 : E.blk (A.next + 1) = some (.row (l.map cC).flatten 0 2) := by
      rw [← hE]
      simp [Hp.put_blk, Hp.push_blk, Nat.add_assoc, n1, n2, hc1]
    have hd2 : E.blk (C.next + 2) = some (.row [.int .i64 (l[0].1 + u5 - 20), .int .i64 (l[0].2 + u6 - 20)] 0 2) := by
      rw [← hE]
      simp [Hp.put_blk, Hp.push_blk, Nat.add_assoc, y2, y4]
    have gE : ∀ j, E.get G ⟨A.next, j, some 0⟩ = (bxC a b c d)[j]? := fun j => by simp [Hp.get, hd0]
    have gF : ∀ j, E.get G ⟨C.next + 2, j, some 0⟩ = ([.int .i64 (l[0].1 + u5 - 20), .int .i64 (l[0].2 + u6 - 20)] : List Value)[j]? := fun j => by simp [Hp.get, hd2]
    simp only [bxC] at gE
    clear hE
    have hsE := hslp E hd1
    refine call_of (cn1 _ _ _ hsE) ?_
    simp only [↓R1, R2, R3, R4, TY, reduceIte, Nat.reduceEqDiff, Nat.reduceAdd, Nat.reduceMul, Nat.reduceLT, Nat.reduceLeDiff, reduceCtorEq, decide_true, decide_false, Int.reduceLE, Int.reduceLT, Int.reduceToNat, Int.reduceAdd, Int.reduceSub, Int.reduceMul, Int.reduceEq, t13, t14, gE, gF, List.getElem?_cons_zero, List.getElem?_cons_succ, NE, NE9, Nat.add_assoc]
    refine call_of (cn2 _ _ _ hsE) ?_
    simp only [↓R1, R2, R3, R4, TY, reduceIte, Nat.reduceEqDiff, Nat.reduceAdd, Nat.reduceMul, Nat.reduceLT, Nat.reduceLeDiff, reduceCtorEq, decide_true, decide_false, Int.reduceLE, Int.reduceLT, Int.reduceToNat, Int.reduceAdd, Int.reduceSub, Int.reduceMul, Int.reduceEq, t13, t14, gE, gF, List.getElem?_cons_zero, List.getElem?_cons_succ, NE, NE9, Nat.add_assoc]
    refine call_of (sq2 _ _) ?_
    simp only [↓R1, R2, R3, R4, TY, reduceIte, Nat.reduceEqDiff, Nat.reduceAdd, Nat.reduceMul, Nat.reduceLT, Nat.reduceLeDiff, reduceCtorEq, decide_true, decide_false, Int.reduceLE, Int.reduceLT, Int.reduceToNat, Int.reduceAdd, Int.reduceSub, Int.reduceMul, Int.reduceEq, t13, t14, gE, gF, List.getElem?_cons_zero, List.getElem?_cons_succ, NE, NE9, Nat.add_assoc]
    refine call_of (bs _ _) ?_
    simp only [↓R1, R2, R3, R4, TY, reduceIte, Nat.reduceEqDiff, Nat.reduceAdd, Nat.reduceMul, Nat.reduceLT, Nat.reduceLeDiff, reduceCtorEq, decide_true, decide_false, Int.reduceLE, Int.reduceLT, Int.reduceToNat, Int.reduceAdd, Int.reduceSub, Int.reduceMul, Int.reduceEq, beq_self_eq_true]
    exact Ended.back hA hEx rfl (RB.bool _)

theorem gridCovers_calls {x1 x2 x3 x4 x5 x6 : Int} (hG : G 1 = some tabV) (k1 : -9223372036854775808 ≤ x1 ∧ x1 ≤ 9223372036854775807) (k2 : -9223372036854775808 ≤ x2 ∧ x2 ≤ 9223372036854775807) (k3 : -9223372036854775808 ≤ x3 ∧ x3 ≤ 9223372036854775807) (k4 : -9223372036854775808 ≤ x4 ∧ x4 ≤ 9223372036854775807) (k5 : -9223372036854775808 ≤ x5 ∧ x5 ≤ 9223372036854775807) (k6 : -9223372036854775808 ≤ x6 ∧ x6 ≤ 9223372036854775807) :
    ∀ (μ : Mu) (W : World) (args' : Array Value), HR G μ fl A W → fl ≤ A.next → VRa μ A [.int .i64 x1, .int .i64 x2, .int .i64 x3, .int .i64 x4, .int .i64 x5, .int .i64 x6].toArray args' →
    Calls Tryz.prog 3 args' W fun e w' => ∃ u, e = .returned u ∧ ∃ ν, VR ν A (.bool true) u ∧ HR G ν fl A w' ∧ Trans fl μ A W ν A w' :=
  Sound.calls Tryz.func3 (by kernel_rfl) (by kernel_rfl) (gridCovers_run hG k1 k2 k3 k4 k5 k6)

end
end Go.Proofs.YthclikeipdplpaaGreatDoor.Ab
