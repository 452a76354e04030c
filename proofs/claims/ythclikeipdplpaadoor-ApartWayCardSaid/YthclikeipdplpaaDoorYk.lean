/- Polygons: the box of points. -/
import Derived.Test.YthclikeipdplpaaDoorYi
import Derived.Test.YthclikeipdplpaaDoorQg
namespace Go.Proofs.YthclikeipdplpaaDoor.Ab
open Go.RowKit
set_option linter.unusedVariables false
set_option linter.unusedSimpArgs false
set_option maxRecDepth 100000

def vZ : Value := .agg #[.bool false, .string { data := #[] }, .string { data := #[] }, .bool false, .string { data := #[] }, .string { data := #[] }]
theorem vZ_def : vZ = .agg #[.bool false, .string { data := #[] }, .string { data := #[] }, .bool false, .string { data := #[] }, .string { data := #[] }] := rfl
/-- A box. -/
def bxV (a b c d : Rat) : Value := .agg #[.bool (decide (a.num < 0)), .string (S (nb a.num.natAbs)), .string (S (nb a.den)), .bool (decide (b.num < 0)), .string (S (nb b.num.natAbs)), .string (S (nb b.den)),
  .bool (decide (c.num < 0)), .string (S (nb c.num.natAbs)), .string (S (nb c.den)), .bool (decide (d.num < 0)), .string (S (nb d.num.natAbs)), .string (S (nb d.den))]
theorem bxV_def (a b c d : Rat) : bxV a b c d = .agg #[.bool (decide (a.num < 0)), .string (S (nb a.num.natAbs)), .string (S (nb a.den)), .bool (decide (b.num < 0)), .string (S (nb b.num.natAbs)), .string (S (nb b.den)),
  .bool (decide (c.num < 0)), .string (S (nb c.num.natAbs)), .string (S (nb c.den)), .bool (decide (d.num < 0)), .string (S (nb d.num.natAbs)), .string (S (nb d.den))] := rfl
def bxC (a b c d : Rat) : List Value := [.bool (decide (a.num < 0)), .string (S (nb a.num.natAbs)), .string (S (nb a.den)), .bool (decide (b.num < 0)), .string (S (nb b.num.natAbs)), .string (S (nb b.den)),
  .bool (decide (c.num < 0)), .string (S (nb c.num.natAbs)), .string (S (nb c.den)), .bool (decide (d.num < 0)), .string (S (nb d.num.natAbs)), .string (S (nb d.den))]
theorem bxC_def (a b c d : Rat) : bxC a b c d = [.bool (decide (a.num < 0)), .string (S (nb a.num.natAbs)), .string (S (nb a.den)), .bool (decide (b.num < 0)), .string (S (nb b.num.natAbs)), .string (S (nb b.den)),
  .bool (decide (c.num < 0)), .string (S (nb c.num.natAbs)), .string (S (nb c.den)), .bool (decide (d.num < 0)), .string (S (nb d.num.natAbs)), .string (S (nb d.den))] := rfl
theorem bxV_rb (n : Nat) (a b c d : Rat) : RB n (bxV a b c d) := RB.agg fun v hv => by
  simp only [List.mem_cons, List.not_mem_nil, or_false] at hv
  rcases hv with rfl | rfl | rfl | rfl | rfl | rfl | rfl | rfl | rfl | rfl | rfl | rfl <;> exact RB.zc rfl
/-- The least and the greatest of the first coordinates. -/
def lo1 (l : List V2) : Nat → Rat | 0 => (pget l 0).1 | n + 1 => rmin (lo1 l n) (pget l (n + 1)).1
def lo2 (l : List V2) : Nat → Rat | 0 => (pget l 0).2 | n + 1 => rmin (lo2 l n) (pget l (n + 1)).2
def hi1 (l : List V2) : Nat → Rat | 0 => (pget l 0).1 | n + 1 => rmax (hi1 l n) (pget l (n + 1)).1
def hi2 (l : List V2) : Nat → Rat | 0 => (pget l 0).2 | n + 1 => rmax (hi2 l n) (pget l (n + 1)).2
theorem rz_bx {l : List V2} {k : Nat} (hz : Lz l k) : ∀ n, n < l.length → Rz (lo1 l n) k ∧ Rz (lo2 l n) k ∧ Rz (hi1 l n) k ∧ Rz (hi2 l n) k
  | 0, h => ⟨(hz.at h).1, (hz.at h).2, (hz.at h).1, (hz.at h).2⟩
  | n + 1, h => by
    obtain ⟨h1, h2, h3, h4⟩ := rz_bx hz n (by omega)
    have := hz.at h
    exact ⟨h1.min this.1, h2.min this.2, h3.max this.1, h4.max this.2⟩
theorem bx_in {l : List V2} : ∀ n j, j ≤ n → (lo1 l n ≤ (pget l j).1 ∧ (pget l j).1 ≤ hi1 l n) ∧ (lo2 l n ≤ (pget l j).2 ∧ (pget l j).2 ≤ hi2 l n)
  | 0, j, h => by
    obtain rfl : j = 0 := by omega
    unfold lo1 lo2 hi1 hi2
    exact ⟨⟨Rat.le_refl, Rat.le_refl⟩, ⟨Rat.le_refl, Rat.le_refl⟩⟩
  | n + 1, j, h => by
    unfold lo1 lo2 hi1 hi2
    rw [rmin_def, rmin_def, rmax_def, rmax_def]
    by_cases hj : j = n + 1
    · subst hj
      constructor <;> constructor <;> split <;> grind
    · have ih := bx_in (l := l) n j (by omega)
      constructor <;> constructor <;> split <;> grind
section
variable {G : Gl} {fl : Nat} {A : Hp}

set_option maxHeartbeats 2000000 in
theorem vadd00  (hG : G 1 = some tabV)  : Sound Tryd.prog G 24 [vZ, vZ] fl A (prV 0 0) A := by
  refine Sound.of mixed Tryd.func24 Tryd.ntmps24 Tryd.results24 (by kernel_rfl) rfl (by kernel_rfl) (by simp) fun hA => ?_
  have hfl : fl ≤ A.next := by have := hA.floor; omega
  have hfl1 : fl ≤ A.next + 1 := by have := hA.floor; omega
  have hfl2 : fl ≤ A.next + 2 := by have := hA.floor; omega
  have hfl3 : fl ≤ A.next + 3 := by have := hA.floor; omega
  have hfl4 : fl ≤ A.next + 4 := by have := hA.floor; omega
  have hfl5 : fl ≤ A.next + 5 := by have := hA.floor; omega
  have hfl6 : fl ≤ A.next + 6 := by have := hA.floor; omega
  have f0 := fun fl A => fit0 (G := G) (fl := fl) (A := A)
  have ad := fun fl A => gadd (G := G) (fl := fl) (A := A) hG f0 f0 rz_zero rz_zero (by decide)
  rw [Rat.add_zero] at ad
  have hrb := prV_rb A.next 0 0
  generalize (0 : Rat) = z at *
  simp only [prV_def] at hrb ⊢
  simp only [ratV_def] at ad
  simp only [vZ_def]
  simp only [↓R1, R2, R3, R4, TY, reduceIte, Nat.reduceEqDiff, Nat.reduceAdd, Nat.reduceMul, Nat.reduceLT, Nat.reduceLeDiff, reduceCtorEq, decide_true, decide_false, Int.reduceLE, Int.reduceLT, Int.reduceToNat, Int.reduceAdd, Int.reduceSub, Int.reduceMul, Int.reduceEq, hfl, hfl1, hfl2, hfl3, hfl4, hfl5, hfl6, NE, NE9, Nat.add_assoc]
  refine call_of (ad _ _) ?_
  simp only [↓R1, R2, R3, R4, TY, reduceIte, Nat.reduceEqDiff, Nat.reduceAdd, Nat.reduceMul, Nat.reduceLT, Nat.reduceLeDiff, reduceCtorEq, decide_true, decide_false, Int.reduceLE, Int.reduceLT, Int.reduceToNat, Int.reduceAdd, Int.reduceSub, Int.reduceMul, Int.reduceEq, hfl, hfl1, hfl2, hfl3, hfl4, hfl5, hfl6, NE, NE9, Nat.add_assoc]
  refine call_of (ad _ _) ?_
  simp only [↓R1, R2, R3, R4, TY, reduceIte, Nat.reduceEqDiff, Nat.reduceAdd, Nat.reduceMul, Nat.reduceLT, Nat.reduceLeDiff, reduceCtorEq, decide_true, decide_false, Int.reduceLE, Int.reduceLT, Int.reduceToNat, Int.reduceAdd, Int.reduceSub, Int.reduceMul, Int.reduceEq, hfl, hfl1, hfl2, hfl3, hfl4, hfl5, hfl6, NE, NE9, Nat.add_assoc]
  rw [floOf_wr (by kernel_rfl)]
  simp only [↓R1, R2, R3, R4, TY, reduceIte, Nat.reduceEqDiff, Nat.reduceAdd, Nat.reduceMul, Nat.reduceLT, Nat.reduceLeDiff, reduceCtorEq, decide_true, decide_false, Int.reduceLE, Int.reduceLT, Int.reduceToNat, Int.reduceAdd, Int.reduceSub, Int.reduceMul, Int.reduceEq, hfl, hfl1, hfl2, hfl3, hfl4, hfl5, hfl6, NE, NE9, Nat.add_assoc]
  refine Ended.back hA ?_ rfl hrb
  simp (maxDischargeDepth := 20) only [xt_push, xt_put, xt_refl, Nat.le_refl, Nat.le_add_right, Nat.add_assoc, Nat.reduceAdd]

set_option maxHeartbeats 8000000 in
theorem pbox_ok {v : Value} {l : List V2} {k : Nat} (hG : G 1 = some tabV) (hs : Sl A 6 v (l.map vC)) (hz : Lz l k) (hk : k ≤ 2000) (hl : l.length < 4611686018427387904) (h0 : 0 < l.length) :
    Sound Tryd.prog G 20 [v] fl A (bxV (lo1 l (l.length - 1)) (lo2 l (l.length - 1)) (hi1 l (l.length - 1)) (hi2 l (l.length - 1))) A := by
  refine Sound.of mixed Tryd.func20 Tryd.ntmps20 Tryd.results20 (by kernel_rfl) rfl (by kernel_rfl) (by simp) fun hA => ?_
  obtain ⟨o, c, rfl⟩ := hs.len
  rw [List.length_map] at hs ⊢
  have hfl : fl ≤ A.next := by have := hA.floor; omega
  have hfl1 : fl ≤ A.next + 1 := by have := hA.floor; omega
  have hfl2 : fl ≤ A.next + 2 := by have := hA.floor; omega
  have hfl3 : fl ≤ A.next + 3 := by have := hA.floor; omega
  have hfl4 : fl ≤ A.next + 4 := by have := hA.floor; omega
  have hfl5 : fl ≤ A.next + 5 := by have := hA.floor; omega
  have hfl6 : fl ≤ A.next + 6 := by have := hA.floor; omega
  obtain ⟨a, rfl, -⟩ := hs.at (G := G) (i := 0) (by simpa using h0)
  have hrb := bxV_rb A.next (lo1 l (l.length - 1)) (lo2 l (l.length - 1)) (hi1 l (l.length - 1)) (hi2 l (l.length - 1))
  have z0 := fun fl A => vadd00 (G := G) (fl := fl) (A := A) hG
  have hz0 := hz.at h0
  have ad := fun fl A => vadd (G := G) (fl := fl) (A := A) hG hz0.1 hz0.2 rz_zero rz_zero (by omega)
  rw [Rat.add_zero, Rat.add_zero] at ad
  have c0 : (((l.length : Nat) : Int) = 0) = False := eq_false (by omega)
  have c1 : (0 : Int) < ((l.length : Nat) : Int) := by omega
  have hes : eszOK A a.block 6 := hs.esz
  obtain ⟨g0, g1, g2, g3, g4, g5⟩ := vec_get (G := G) hs h0
  simp only [Nat.zero_mul, Nat.zero_add] at g0 g1 g2 g3 g4 g5
  have ga : aadd a 0 = a := rfl
  rw [ga] at g0
  have hab := hs.lt hA
  have hab1 : a.block < A.next + 1 := by omega
  have hab2 : a.block < A.next + 1 + 1 := by omega
  have hab3 : a.block < A.next + 1 + 1 + 1 := by omega
  have nea : (a.block = A.next) = False := eq_false (by omega)
  have nea1 : (a.block = A.next + 1) = False := eq_false (by omega)
  have nea2 : (a.block = A.next + 1 + 1) = False := eq_false (by omega)
  have hl1 : 1 ≤ l.length := h0
  generalize (0 : Rat) = zr at *
  simp only [vZ_def, prV_def] at z0
  simp only [prV_def] at ad
  simp only [↓R1, R2, R3, R4, TY, reduceIte, Nat.reduceEqDiff, Nat.reduceAdd, Nat.reduceMul, Nat.reduceLT, Nat.reduceLeDiff, reduceCtorEq, decide_true, decide_false, Int.reduceLE, Int.reduceLT, Int.reduceToNat, Int.reduceAdd, Int.reduceSub, Int.reduceMul, Int.reduceEq, hfl, hfl1, hfl2, hfl3, hfl4, hfl5, hfl6, NE, NE9, Nat.add_assoc]
  refine call_of (z0 _ _) ?_
  simp only [↓R1, R2, R3, R4, TY, reduceIte, Nat.reduceEqDiff, Nat.reduceAdd, Nat.reduceMul, Nat.reduceLT, Nat.reduceLeDiff, reduceCtorEq, decide_true, decide_false, Int.reduceLE, Int.reduceLT, Int.reduceToNat, Int.reduceAdd, Int.reduceSub, Int.reduceMul, Int.reduceEq, hfl, hfl1, hfl2, hfl3, hfl4, hfl5, hfl6, NE, NE9, Nat.add_assoc, c0, c1, hes, hl1, g0, g1, g2, g3, g4, g5, ga, hab, hab1, hab2, hab3, nea, nea1, nea2]
  refine call_of (ad _ _) ?_
  simp only [↓R1, R2, R3, R4, TY, reduceIte, Nat.reduceEqDiff, Nat.reduceAdd, Nat.reduceMul, Nat.reduceLT, Nat.reduceLeDiff, reduceCtorEq, decide_true, decide_false, Int.reduceLE, Int.reduceLT, Int.reduceToNat, Int.reduceAdd, Int.reduceSub, Int.reduceMul, Int.reduceEq, hfl, hfl1, hfl2, hfl3, hfl4, hfl5, hfl6, NE, NE9, Nat.add_assoc, c0, c1, hes, hl1, hab, hab1, hab2, hab3, nea, nea1, nea2]
  rw [floOf_wr (by kernel_rfl)]
  simp only [↓R1, R2, R3, R4, TY, reduceIte, Nat.reduceEqDiff, Nat.reduceAdd, Nat.reduceMul, Nat.reduceLT, Nat.reduceLeDiff, reduceCtorEq, decide_true, decide_false, Int.reduceLE, Int.reduceLT, Int.reduceToNat, Int.reduceAdd, Int.reduceSub, Int.reduceMul, Int.reduceEq, hfl, hfl1, hfl2, hfl3, hfl4, hfl5, hfl6, NE, NE9, Nat.add_assoc, c0, c1, hes, hl1, hab, hab1, hab2, hab3, nea, nea1, nea2]
  generalize hD : Hp.put _ _ _ = D
  have hxD : Xt A.next A D := by
    rw [← hD]
    simp (maxDischargeDepth := 20) only [xt_push, xt_put, xt_refl, Nat.le_refl, Nat.le_add_right, Nat.add_assoc, Nat.reduceAdd]
  have hDn : D.next = A.next + 4 := by rw [← hD]; rfl
  have hD0 : D.blk A.next = some (.row [Value.bool false, .string { data := #[] }, .string { data := #[] }, .bool false, .string { data := #[] }, .string { data := #[] }, .bool false, .string { data := #[] }, .string { data := #[] }, .bool false, .string { data := #[] }, .string { data := #[] }] 0 12) := by
    rw [← hD]
    simp [Hp.put_blk, Hp.push_blk]
    intro _; omega
  have hD3 : D.blk (A.next + 3) = some (.row (bxC (lo1 l 0) (lo2 l 0) (hi1 l 0) (hi2 l 0)) 0 12) := by
    rw [← hD]
    simp only [Hp.put_blk, if_true]
    rfl
  clear hD
  refine range_of 28 (l.length - 1) (fun i τ C => Xt A.next A C ∧ A.next + 3 < C.next ∧ C.blk A.next = some (.row [Value.bool false, .string { data := #[] }, .string { data := #[] }, .bool false, .string { data := #[] }, .string { data := #[] }, .bool false, .string { data := #[] }, .string { data := #[] }, .bool false, .string { data := #[] }, .string { data := #[] }] 0 12) ∧
    C.blk (A.next + 3) = some (.row (bxC (lo1 l i) (lo2 l i) (hi1 l i) (hi2 l i)) 0 12) ∧ τ 2 = some (.pointer (some ⟨A.next, 0, some 0⟩)) ∧ τ 5 = some (.pointer (some ⟨A.next + 3, 0, some 0⟩)) ∧ τ 26 = some (.slice (some (aadd a 6)) (l.length - 1) (c - 1)) ∧ τ 27 = some (.int .i64 (l.length - 1 : Nat)) ∧ τ 28 = some (.int .i64 (i : Nat))) ?_ ?_
  · exact ⟨hxD, by omega, hD0, hD3, rfl, rfl, rfl, rfl, rfl⟩
  rintro i τ C hi ⟨hx, hn, hC0, hC3, q2, q5, q26, q27, q28⟩
  have hflC : fl ≤ C.next := Nat.le_trans hA.floor hx.next
  have hnA : A.next < C.next := by omega
  have ne1 : (A.next + 3 = C.next) = False := eq_false (by omega)
  have ne2 : (A.next = C.next) = False := eq_false (by omega)
  have ne3 : (C.next = A.next + 3) = False := eq_false (by omega)
  have ne4 : (A.next = A.next + 3) = False := eq_false (by omega)
  have hfl3' : fl ≤ A.next + 3 := hfl3
  have gS : ∀ j, C.get G ⟨A.next + 3, j, some 0⟩ = (bxC (lo1 l i) (lo2 l i) (hi1 l i) (hi2 l i))[j]? := fun j => by simp only [Hp.get, hC3, if_true]
  simp only [↓R1, R2, R3, R4, TY, reduceIte, Nat.reduceEqDiff, Nat.reduceAdd, Nat.reduceMul, Nat.reduceLT, Nat.reduceLeDiff, reduceCtorEq, decide_true, decide_false, Int.reduceLE, Int.reduceLT, Int.reduceToNat, Int.reduceAdd, Int.reduceSub, Int.reduceMul, Int.reduceEq, q2, q5, q26, q27, q28]
  refine ⟨fun hlt => ?_, fun hlt => ?_⟩
  rotate_left
  · have e : i = l.length - 1 := by omega
    subst e
    simp only [↓R1, R2, R3, R4, TY, reduceIte, Nat.reduceEqDiff, Nat.reduceAdd, Nat.reduceMul, Nat.reduceLT, Nat.reduceLeDiff, reduceCtorEq, decide_true, decide_false, Int.reduceLE, Int.reduceLT, Int.reduceToNat, Int.reduceAdd, Int.reduceSub, Int.reduceMul, Int.reduceEq, q2, q5, q26, q27, q28, hflC, gS, bxC_def, hn, hC0, hfl, hfl1, hfl2, hfl3, hfl4, hfl5, hfl6, NE, NE9, Nat.add_assoc]
    refine Ended.back hA ?_ rfl hrb
    simp (maxDischargeDepth := 20) only [xt_push, xt_put, hx, hx.next, Nat.le_refl, Nat.le_add_right]
  have hlt' : i + 1 < l.length := by omega
  have hlt2 : i < l.length - 1 := by omega
  have hsC := hs.xt hA hx
  have hac : a.block < C.next := Nat.lt_of_lt_of_le hab hx.next
  have hac1 : a.block < C.next + 1 := Nat.lt_succ_of_lt hac
  have nec : (a.block = C.next) = False := eq_false (by omega)
  obtain ⟨u0, u1, u2, u3, u4, u5⟩ := vec_get (G := G) hsC hlt'
  have e6 : (i + 1) * 6 = 6 + i * 6 := by omega
  rw [e6] at u0 u1 u2 u3 u4 u5
  simp only [Nat.add_assoc] at u0 u1 u2 u3 u4 u5
  have hi63 : i < 9223372036854775807 := by omega
  have hn1 : A.next + 3 < C.next + 1 := by omega
  obtain ⟨z1, z2, z3, z4⟩ := rz_bx hz i (by omega)
  have zp := hz.at hlt'
  have m1 := fun fl A => qmin (G := G) (fl := fl) (A := A) hG z1 zp.1 (by omega)
  have m2 := fun fl A => qmin (G := G) (fl := fl) (A := A) hG z2 zp.2 (by omega)
  have m3 := fun fl A => qmax (G := G) (fl := fl) (A := A) hG z3 zp.1 (by omega)
  have m4 := fun fl A => qmax (G := G) (fl := fl) (A := A) hG z4 zp.2 (by omega)
  have e1 : rmin (lo1 l i) (pget l (i + 1)).1 = lo1 l (i + 1) := rfl
  have e2 : rmin (lo2 l i) (pget l (i + 1)).2 = lo2 l (i + 1) := rfl
  have e3 : rmax (hi1 l i) (pget l (i + 1)).1 = hi1 l (i + 1) := rfl
  have e4 : rmax (hi2 l i) (pget l (i + 1)).2 = hi2 l (i + 1) := rfl
  rw [e1] at m1
  rw [e2] at m2
  rw [e3] at m3
  rw [e4] at m4
  have hC3' := hC3
  rw [bxC_def] at hC3'
  generalize hw1 : lo1 l (i + 1) = w1 at *
  generalize hw2 : lo2 l (i + 1) = w2 at *
  generalize hw3 : hi1 l (i + 1) = w3 at *
  generalize hw4 : hi2 l (i + 1) = w4 at *
  simp only [ratV_def] at m1 m2 m3 m4
  simp only [↓R1, R2, R3, R4, TY, reduceIte, Nat.reduceEqDiff, Nat.reduceAdd, Nat.reduceMul, Nat.reduceLT, Nat.reduceLeDiff, reduceCtorEq, decide_true, decide_false, Int.reduceLE, Int.reduceLT, Int.reduceToNat, Int.reduceAdd, Int.reduceSub, Int.reduceMul, Int.reduceEq, q2, q5, q26, q27, q28, hlt, hlt2, u0, u1, u2, u3, u4, u5, hac, hac1, nec, hflC, hfl3', gS, bxC_def, hC3', hn, hn1, ne1, ne2, ne3, ne4, hfl, hfl1, hfl2, hfl3, hfl4, hfl5, hfl6, NE, NE9, Nat.add_assoc]
  refine call_of (m1 _ _) ?_
  simp only [↓R1, R2, R3, R4, TY, reduceIte, Nat.reduceEqDiff, Nat.reduceAdd, Nat.reduceMul, Nat.reduceLT, Nat.reduceLeDiff, reduceCtorEq, decide_true, decide_false, Int.reduceLE, Int.reduceLT, Int.reduceToNat, Int.reduceAdd, Int.reduceSub, Int.reduceMul, Int.reduceEq, q2, q5, q26, q27, q28, hlt, hlt2, hac, hac1, nec, hflC, hfl3', gS, bxC_def, hC3', hn, hn1, ne1, ne2, ne3, ne4, hfl, hfl1, hfl2, hfl3, hfl4, hfl5, hfl6, NE, NE9, Nat.add_assoc]
  refine call_of (m2 _ _) ?_
  simp only [↓R1, R2, R3, R4, TY, reduceIte, Nat.reduceEqDiff, Nat.reduceAdd, Nat.reduceMul, Nat.reduceLT, Nat.reduceLeDiff, reduceCtorEq, decide_true, decide_false, Int.reduceLE, Int.reduceLT, Int.reduceToNat, Int.reduceAdd, Int.reduceSub, Int.reduceMul, Int.reduceEq, q2, q5, q26, q27, q28, hlt, hlt2, hac, hac1, nec, hflC, hfl3', gS, bxC_def, hC3', hn, hn1, ne1, ne2, ne3, ne4, hfl, hfl1, hfl2, hfl3, hfl4, hfl5, hfl6, NE, NE9, Nat.add_assoc]
  rw [floOf_wr (by kernel_rfl)]
  simp only [↓R1, R2, R3, R4, TY, reduceIte, Nat.reduceEqDiff, Nat.reduceAdd, Nat.reduceMul, Nat.reduceLT, Nat.reduceLeDiff, reduceCtorEq, decide_true, decide_false, Int.reduceLE, Int.reduceLT, Int.reduceToNat, Int.reduceAdd, Int.reduceSub, Int.reduceMul, Int.reduceEq, q2, q5, q26, q27, q28, hlt, hlt2, hac, hac1, nec, hflC, hfl3', gS, bxC_def, hC3', hn, hn1, ne1, ne2, ne3, ne4, hfl, hfl1, hfl2, hfl3, hfl4, hfl5, hfl6, NE, NE9, Nat.add_assoc]
  refine call_of (m3 _ _) ?_
  simp only [↓R1, R2, R3, R4, TY, reduceIte, Nat.reduceEqDiff, Nat.reduceAdd, Nat.reduceMul, Nat.reduceLT, Nat.reduceLeDiff, reduceCtorEq, decide_true, decide_false, Int.reduceLE, Int.reduceLT, Int.reduceToNat, Int.reduceAdd, Int.reduceSub, Int.reduceMul, Int.reduceEq, q2, q5, q26, q27, q28, hlt, hlt2, hac, hac1, nec, hflC, hfl3', gS, bxC_def, hC3', hn, hn1, ne1, ne2, ne3, ne4, hfl, hfl1, hfl2, hfl3, hfl4, hfl5, hfl6, NE, NE9, Nat.add_assoc]
  refine call_of (m4 _ _) ?_
  simp only [↓R1, R2, R3, R4, TY, reduceIte, Nat.reduceEqDiff, Nat.reduceAdd, Nat.reduceMul, Nat.reduceLT, Nat.reduceLeDiff, reduceCtorEq, decide_true, decide_false, Int.reduceLE, Int.reduceLT, Int.reduceToNat, Int.reduceAdd, Int.reduceSub, Int.reduceMul, Int.reduceEq, q2, q5, q26, q27, q28, hlt, hlt2, hac, hac1, nec, hflC, hfl3', gS, bxC_def, hC3', hn, hn1, ne1, ne2, ne3, ne4, hfl, hfl1, hfl2, hfl3, hfl4, hfl5, hfl6, NE, NE9, Nat.add_assoc]
  rw [floOf_wr (by kernel_rfl)]
  simp only [↓R1, R2, R3, R4, TY, reduceIte, Nat.reduceEqDiff, Nat.reduceAdd, Nat.reduceMul, Nat.reduceLT, Nat.reduceLeDiff, reduceCtorEq, decide_true, decide_false, Int.reduceLE, Int.reduceLT, Int.reduceToNat, Int.reduceAdd, Int.reduceSub, Int.reduceMul, Int.reduceEq, q2, q5, q26, q27, q28, hlt, hlt2, hac, hac1, nec, hflC, hfl3', gS, bxC_def, hC3', hn, hn1, ne1, ne2, ne3, ne4, hi63, hfl, hfl1, hfl2, hfl3, hfl4, hfl5, hfl6, NE, NE9, Nat.add_assoc]
  refine range_on q28 hlt2 rfl ⟨?_, ?_, ?_, ?_, q2, q5, q26, q27, rfl⟩
  · simp (maxDischargeDepth := 20) only [xt_push, xt_put, hx, hx.next, Nat.le_refl, Nat.le_add_right]
  · simp only [Hp.put_next, Hp.push_next]; omega
  · simp only [Hp.put_blk, Hp.push_blk, ne2, ne4, if_false]; exact hC0
  · simp only [Hp.put_blk, if_true, bxC_def, hw1, hw2, hw3, hw4]

end
end Go.Proofs.YthclikeipdplpaaDoor.Ab
