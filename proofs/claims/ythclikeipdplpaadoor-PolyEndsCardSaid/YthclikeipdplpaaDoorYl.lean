/- gantkeep1.PolyEnds returns true for every input. -/
import Derived.Test.YthclikeipdplpaaDoorYk
import Derived.Test.YthclikeipdplpaaDoorYj
namespace Go.Proofs.YthclikeipdplpaaDoor.Ab
open Go.RowKit
set_option linter.unusedVariables false
set_option linter.unusedSimpArgs false
set_option maxRecDepth 100000

/-- The middle between two points. -/
def mid (p q : V2) : V2 := ((p.1 + q.1) * (((1 : Int) : Rat) / ((2 : Int) : Rat)), (p.2 + q.2) * (((1 : Int) : Rat) / ((2 : Int) : Rat)))
theorem half_int : ((1 : Int) : Rat) / ((2 : Int) : Rat) = 1 / 2 := by decide +kernel
theorem crs_mid (a b p q : V2) : crs a b (mid p q) = 1 / 2 * crs a b p + 1 / 2 * crs a b q := by
  unfold mid crs
  rw [half_int]
  grind
theorem mid_in {P : V2 → V2 → Prop} {l : List V2} (h : Cvx l) {i k : Nat} (hi : i < l.length) (hk : k < l.length) : hasB l (mid (pget l i) (pget l k)) = true := by
  refine hasB_yes fun j hj => ?_
  rw [crs_mid]
  have h1 := h.left hj hi
  have h2 := h.left hj hk
  grind
theorem mid_box {a b x y : Rat} (h1 : a ≤ x ∧ x ≤ b) (h2 : a ≤ y ∧ y ≤ b) : a ≤ (x + y) * (((1 : Int) : Rat) / ((2 : Int) : Rat)) ∧ (x + y) * (((1 : Int) : Rat) / ((2 : Int) : Rat)) ≤ b := by
  rw [half_int]
  constructor <;> grind

theorem Lz.mono {l : List V2} {j k : Nat} (h : Lz l j) (hk : j ≤ k) : Lz l k := fun p hp => ⟨(h p hp).1.mono hk, (h p hp).2.mono hk⟩

section
variable {G : Gl} {fl : Nat} {A : Hp}

set_option maxHeartbeats 2000000 in
theorem pin_ok {a b c : Rat} {k : Nat} (hG : G 1 = some tabV) (ha : Rz a k) (hb : Rz b k) (hc : Rz c k) (hk : k ≤ 100000) (h1 : a ≤ b) (h2 : b ≤ c) : Sound Tryd.prog G 27 [ratV a, ratV b, ratV c] fl A (.bool true) A := by
  refine Sound.of mixed Tryd.func27 Tryd.ntmps27 Tryd.results27 (by kernel_rfl) rfl (by kernel_rfl) (by simp) fun hA => ?_
  have hfl : fl ≤ A.next := by have := hA.floor; omega
  have hfl1 : fl ≤ A.next + 1 := by have := hA.floor; omega
  have hfl2 : fl ≤ A.next + 2 := by have := hA.floor; omega
  have hfl3 : fl ≤ A.next + 3 := by have := hA.floor; omega
  have hfl4 : fl ≤ A.next + 4 := by have := hA.floor; omega
  have hfl5 : fl ≤ A.next + 5 := by have := hA.floor; omega
  have hfl6 : fl ≤ A.next + 6 := by have := hA.floor; omega
  have c1 := fun fl A => qcmp (G := G) (fl := fl) (A := A) hG ha hb (by omega)
  have c2 := fun fl A => qcmp (G := G) (fl := fl) (A := A) hG hb hc (by omega)
  have j1 : (rcmp a b ≤ 0) = True := eq_true (rcmp_le_iff.2 h1)
  have j2 : (rcmp b c ≤ 0) = True := eq_true (rcmp_le_iff.2 h2)
  simp only [ratV_def] at c1 c2 ⊢
  simp only [↓R1, R2, R3, R4, TY, reduceIte, Nat.reduceEqDiff, Nat.reduceAdd, Nat.reduceMul, Nat.reduceLT, Nat.reduceLeDiff, reduceCtorEq, decide_true, decide_false, Int.reduceLE, Int.reduceLT, Int.reduceToNat, Int.reduceAdd, Int.reduceSub, Int.reduceMul, Int.reduceEq, hfl, hfl1, hfl2, hfl3, hfl4, hfl5, hfl6, NE, NE9, Nat.add_assoc, j1, j2]
  refine call_of (c1 _ _) ?_
  simp only [↓R1, R2, R3, R4, TY, reduceIte, Nat.reduceEqDiff, Nat.reduceAdd, Nat.reduceMul, Nat.reduceLT, Nat.reduceLeDiff, reduceCtorEq, decide_true, decide_false, Int.reduceLE, Int.reduceLT, Int.reduceToNat, Int.reduceAdd, Int.reduceSub, Int.reduceMul, Int.reduceEq, hfl, hfl1, hfl2, hfl3, hfl4, hfl5, hfl6, NE, NE9, Nat.add_assoc, j1, j2]
  refine call_of (c2 _ _) ?_
  simp only [↓R1, R2, R3, R4, TY, reduceIte, Nat.reduceEqDiff, Nat.reduceAdd, Nat.reduceMul, Nat.reduceLT, Nat.reduceLeDiff, reduceCtorEq, decide_true, decide_false, Int.reduceLE, Int.reduceLT, Int.reduceToNat, Int.reduceAdd, Int.reduceSub, Int.reduceMul, Int.reduceEq, hfl, hfl1, hfl2, hfl3, hfl4, hfl5, hfl6, NE, NE9, Nat.add_assoc, j1, j2]
  refine Ended.back hA ?_ rfl (RB.bool _)
  simp (maxDischargeDepth := 20) only [xt_push, xt_put, xt_refl, Nat.le_refl, Nat.le_add_right, Nat.add_assoc, Nat.reduceAdd]

set_option maxHeartbeats 8000000 in
theorem polyEnds_ok {v : Value} {xs : List Int} {x1 x2 x3 x4 : Int} (hG : G 1 = some tabV) (hx : In64 xs) (hs : Sl A 1 v (xs.map iC)) (hl : xs.length ≤ 9223372036854775807) (k1 : -9223372036854775808 ≤ x1 ∧ x1 ≤ 9223372036854775807) (k2 : -9223372036854775808 ≤ x2 ∧ x2 ≤ 9223372036854775807) (k3 : -9223372036854775808 ≤ x3 ∧ x3 ≤ 9223372036854775807) (k4 : -9223372036854775808 ≤ x4 ∧ x4 ≤ 9223372036854775807) :
    Sound Tryd.prog G 4 [v, .int .i64 x1, .int .i64 x2, .int .i64 x3, .int .i64 x4] fl A (.bool true) A := by
  refine Sound.of mixed Tryd.func4 Tryd.ntmps4 Tryd.results4 (by kernel_rfl) rfl (by kernel_rfl) (by simp) fun hA => ?_
  obtain ⟨o, c, rfl⟩ := hs.len
  have hfl : fl ≤ A.next := by have := hA.floor; omega
  have hfl1 : fl ≤ A.next + 1 := by have := hA.floor; omega
  have hfl2 : fl ≤ A.next + 2 := by have := hA.floor; omega
  have hfl3 : fl ≤ A.next + 3 := by have := hA.floor; omega
  have hfl4 : fl ≤ A.next + 4 := by have := hA.floor; omega
  have hfl5 : fl ≤ A.next + 5 := by have := hA.floor; omega
  have hfl6 : fl ≤ A.next + 6 := by have := hA.floor; omega
  have bg := fun fl A => polyBegun_ok (G := G) (fl := fl) (A := A) hG
  have mp := fun fl => mpolyS (G := G) (fl := fl) (A := A) hx hs hl
  have ve := fun fl A => vector_ok (G := G) (fl := fl) (A := A) hG k1 k2
  have hP := mpoly_ok xs
  have hd : Pz (mrat x1, mrat x2) 1 := ⟨mrat_rz x1, mrat_rz x2⟩
  generalize mpoly xs = P at *
  generalize mrat x1 = U at *
  generalize mrat x2 = W at *
  have l3 := hP.len3
  have l5 := hP.len5
  have su := fun fl (A : Hp) v (hs : Sl A 6 v (P.map vC)) => psup_ok (G := G) (fl := fl) (A := A) (d := (U, W)) hG hs hP.z (by omega) (by omega) hd hP.c64
  have bx := fun fl (A : Hp) v (hs : Sl A 6 v (P.map vC)) => pbox_ok (G := G) (fl := fl) (A := A) hG hs hP.z (by omega) (by omega) (by omega)
  have hbl := bst_lt (l := P) (d := (U, W)) P.length (by omega)
  have hbm := bst_max (l := P) (d := (U, W)) P.length
  obtain ⟨z1, z2, z3, z4⟩ := rz_bx hP.z (P.length - 1) (by omega)
  have hin := bx_in (l := P) (P.length - 1)
  have r3 := below_range (x := x3) (n := ((P.length : Nat) : Int)) (by omega)
  have r4 := below_range (x := x4) (n := ((P.length : Nat) : Int)) (by omega)
  have b3 := fun fl A => below_ok (G := G) (fl := fl) (A := A) (x := x3) (n := ((P.length : Nat) : Int)) (by omega) (by omega) k3.1 k3.2
  have b4 := fun fl A => below_ok (G := G) (fl := fl) (A := A) (x := x4) (n := ((P.length : Nat) : Int)) (by omega) (by omega) k4.1 k4.2
  obtain ⟨i, hi⟩ := Int.eq_ofNat_of_zero_le r3.1
  obtain ⟨k, hk⟩ := Int.eq_ofNat_of_zero_le r4.1
  rw [hi] at b3 r3
  rw [hk] at b4 r4
  have hil : i < P.length := by omega
  have hkl : k < P.length := by omega
  have zi := hP.z.at hil
  have zk := hP.z.at hkl
  have va := fun fl A => vadd (G := G) (fl := fl) (A := A) hG zi.1 zi.2 zk.1 zk.2 (by omega)
  have nm := fun fl A => num_ok (G := G) (fl := fl) (A := A) (m := 1) (n := 2) hG (by decide) (by decide) (by decide) (by decide) (by decide)
  have zh : Rz (((1 : Int) : Rat) / ((2 : Int) : Rat)) 2 := by rw [half_int]; exact rz_half
  have vs := fun fl A => vscale (G := G) (fl := fl) (A := A) hG (zi.1.add zk.1) (zi.2.add zk.2) zh (by omega)
  have zm : Pz (mid (pget P i) (pget P k)) 5 := ⟨(zi.1.add zk.1).mul zh, (zi.2.add zk.2).mul zh⟩
  have hm : phas P (mid (pget P i) (pget P k)) = true := by rw [phas_0 hP.c64]; exact mid_in (P := fun _ _ => True) hP.cvx hil hkl
  have hs1 := fun fl (A : Hp) v (hs : Sl A 6 v (P.map vC)) => phas_ok (G := G) (fl := fl) (A := A) hG hs (hP.z.mono (show 1 ≤ 5 by omega)) (by omega) (by omega) (p := mid (pget P i) (pget P k)) zm
  rw [hm] at hs1
  obtain ⟨i1, i2⟩ := hin i (by omega)
  obtain ⟨i3, i4⟩ := hin k (by omega)
  obtain ⟨m1, m2⟩ := mid_box i1 i3
  obtain ⟨m3, m4⟩ := mid_box i2 i4
  have p1 := fun fl A => pin_ok (G := G) (fl := fl) (A := A) hG (z1.mono (show 1 ≤ 5 by omega)) zm.1 (z3.mono (show 1 ≤ 5 by omega)) (by omega) m1 m2
  have p2 := fun fl A => pin_ok (G := G) (fl := fl) (A := A) hG (z2.mono (show 1 ≤ 5 by omega)) zm.2 (z4.mono (show 1 ≤ 5 by omega)) (by omega) m3 m4
  have hb0 := fun B id => sl_at (B := B) (id := id) (l := P)
  generalize lo1 P (P.length - 1) = L1 at *
  generalize lo2 P (P.length - 1) = L2 at *
  generalize hi1 P (P.length - 1) = H1 at *
  generalize hi2 P (P.length - 1) = H2 at *
  generalize hbe : bst P (U, W) P.length = be at *
  simp only [mid] at hs1 p1 p2
  generalize ((1 : Int) : Rat) / ((2 : Int) : Rat) = hf at *
  simp only [prV_def] at ve su va vs hs1
  simp only [ratV_def] at nm vs p1 p2
  simp only [bxV_def] at bx
  have s1 : (((be : Nat) : Int) < 0) = False := eq_false (by omega)
  simp only [↓R1, R2, R3, R4, TY, reduceIte, Nat.reduceEqDiff, Nat.reduceAdd, Nat.reduceMul, Nat.reduceLT, Nat.reduceLeDiff, reduceCtorEq, decide_true, decide_false, Int.reduceLE, Int.reduceLT, Int.reduceToNat, Int.reduceAdd, Int.reduceSub, Int.reduceMul, Int.reduceEq, hfl, hfl1, hfl2, hfl3, hfl4, hfl5, hfl6, NE, NE9, Nat.add_assoc]
  refine call_of (bg _ _) ?_
  simp only [↓R1, R2, R3, R4, TY, reduceIte, Nat.reduceEqDiff, Nat.reduceAdd, Nat.reduceMul, Nat.reduceLT, Nat.reduceLeDiff, reduceCtorEq, decide_true, decide_false, Int.reduceLE, Int.reduceLT, Int.reduceToNat, Int.reduceAdd, Int.reduceSub, Int.reduceMul, Int.reduceEq, hfl, hfl1, hfl2, hfl3, hfl4, hfl5, hfl6, NE, NE9, Nat.add_assoc]
  refine call_of (mp _) ?_
  simp only [↓R1, R2, R3, R4, TY, reduceIte, Nat.reduceEqDiff, Nat.reduceAdd, Nat.reduceMul, Nat.reduceLT, Nat.reduceLeDiff, reduceCtorEq, decide_true, decide_false, Int.reduceLE, Int.reduceLT, Int.reduceToNat, Int.reduceAdd, Int.reduceSub, Int.reduceMul, Int.reduceEq, hfl, hfl1, hfl2, hfl3, hfl4, hfl5, hfl6, NE, NE9, Nat.add_assoc]
  refine call_of (ve _ _) ?_
  simp only [↓R1, R2, R3, R4, TY, reduceIte, Nat.reduceEqDiff, Nat.reduceAdd, Nat.reduceMul, Nat.reduceLT, Nat.reduceLeDiff, reduceCtorEq, decide_true, decide_false, Int.reduceLE, Int.reduceLT, Int.reduceToNat, Int.reduceAdd, Int.reduceSub, Int.reduceMul, Int.reduceEq, hfl, hfl1, hfl2, hfl3, hfl4, hfl5, hfl6, NE, NE9, Nat.add_assoc]
  refine call_of (su _ _ _ (hb0 _ _ ?_)) ?_
  · simp only [Hp.put_blk, Hp.push_blk, Hp.push_next]
    rw [if_neg (by omega), if_neg (by omega), if_pos trivial]
  simp only [↓R1, R2, R3, R4, TY, reduceIte, Nat.reduceEqDiff, Nat.reduceAdd, Nat.reduceMul, Nat.reduceLT, Nat.reduceLeDiff, reduceCtorEq, decide_true, decide_false, Int.reduceLE, Int.reduceLT, Int.reduceToNat, Int.reduceAdd, Int.reduceSub, Int.reduceMul, Int.reduceEq, hfl, hfl1, hfl2, hfl3, hfl4, hfl5, hfl6, NE, NE9, Nat.add_assoc]
  refine call_of (bx _ _ _ (hb0 _ _ ?_)) ?_
  · simp only [Hp.put_blk, Hp.push_blk, Hp.push_next]
    rw [if_neg (by omega), if_neg (by omega), if_pos trivial]
  simp only [↓R1, R2, R3, R4, TY, reduceIte, Nat.reduceEqDiff, Nat.reduceAdd, Nat.reduceMul, Nat.reduceLT, Nat.reduceLeDiff, reduceCtorEq, decide_true, decide_false, Int.reduceLE, Int.reduceLT, Int.reduceToNat, Int.reduceAdd, Int.reduceSub, Int.reduceMul, Int.reduceEq, hfl, hfl1, hfl2, hfl3, hfl4, hfl5, hfl6, NE, NE9, Nat.add_assoc, s1, hbl]
  generalize hB : Hp.put _ _ _ = B
  have hBx : Xt A.next A B := by
    rw [← hB]
    simp (maxDischargeDepth := 20) only [xt_push, xt_put, xt_refl, Nat.le_refl, Nat.le_add_right, Nat.add_assoc, Nat.reduceAdd]
  have hBn : B.next = A.next + 3 := by rw [← hB]; rfl
  have hB0 : B.blk A.next = some (.row (P.map vC).flatten 0 6) := by
    rw [← hB]
    simp only [Hp.put_blk, Hp.push_blk, Hp.push_next, Hp.put_next]
    repeat (first | rw [if_pos trivial] | rw [if_neg (by omega)])
  have gV : ∀ i, B.get G ⟨A.next + 1, i, some 0⟩ = ([.bool (decide (U.num < 0)), .string (S (nb U.num.natAbs)), .string (S (nb U.den)), .bool (decide (W.num < 0)), .string (S (nb W.num.natAbs)), .string (S (nb W.den))] : List Value)[i]? := fun i => by
    rw [← hB]
    simp [Hp.get, Hp.put_blk, Hp.push_blk]
  have gB : ∀ i, B.get G ⟨A.next + 2, i, some 0⟩ = (bxC L1 L2 H1 H2)[i]? := fun i => by
    rw [← hB]
    simp [Hp.get, Hp.put_blk, Hp.push_blk, bxC_def]
  clear hB
  refine ⟨fun h => absurd h (by omega), fun _ => ?_⟩
  refine range_of 41 P.length (fun i τ E => Xt A.next A E ∧ A.next + 3 ≤ E.next ∧ E.blk A.next = some (.row (P.map vC).flatten 0 6) ∧
    (∀ i, E.get G ⟨A.next + 1, i, some 0⟩ = ([.bool (decide (U.num < 0)), .string (S (nb U.num.natAbs)), .string (S (nb U.den)), .bool (decide (W.num < 0)), .string (S (nb W.num.natAbs)), .string (S (nb W.den))] : List Value)[i]?) ∧
    (∀ i, E.get G ⟨A.next + 2, i, some 0⟩ = (bxC L1 L2 H1 H2)[i]?) ∧ τ 3 = some (.int .i64 x3) ∧ τ 4 = some (.int .i64 x4) ∧ τ 11 = some (.slice (some ⟨A.next, 0, some 0⟩) P.length P.length) ∧ τ 12 = some (.pointer (some ⟨A.next + 1, 0, some 0⟩)) ∧
    τ 13 = some (.int .i64 (be : Nat)) ∧ τ 14 = some (.pointer (some ⟨A.next + 2, 0, some 0⟩)) ∧ τ 39 = some (.slice (some ⟨A.next, 0, some 0⟩) P.length P.length) ∧ τ 40 = some (.int .i64 (P.length : Nat)) ∧ τ 41 = some (.int .i64 (i : Nat))) ?_ ?_
  · exact ⟨hBx, by omega, hB0, gV, gB, rfl, rfl, rfl, rfl, rfl, rfl, rfl, rfl, rfl⟩
  rintro j τ E hj ⟨hx1, hn, hE0, gV, gB, q3, q4, q11, q12, q13, q14, q39, q40, q41⟩
  have hsE := hb0 E _ hE0
  have hflE : fl ≤ E.next := Nat.le_trans hA.floor hx1.next
  have e1 : A.next < E.next := by omega
  have e2 : A.next + 1 < E.next := by omega
  have e3 : A.next + 2 < E.next := by omega
  have ne0 : (A.next = E.next) = False := eq_false (by omega)
  have ne1 : (A.next + 1 = E.next) = False := eq_false (by omega)
  have ne2 : (A.next + 2 = E.next) = False := eq_false (by omega)
  simp only [↓R1, R2, R3, R4, TY, reduceIte, Nat.reduceEqDiff, Nat.reduceAdd, Nat.reduceMul, Nat.reduceLT, Nat.reduceLeDiff, reduceCtorEq, decide_true, decide_false, Int.reduceLE, Int.reduceLT, Int.reduceToNat, Int.reduceAdd, Int.reduceSub, Int.reduceMul, Int.reduceEq, q3, q4, q11, q12, q13, q14, q39, q40, q41]
  refine ⟨fun hlt => ?_, fun hlt => ?_⟩
  rotate_left
  · obtain ⟨u0, u1, u2, u3, u4, u5⟩ := vec_get (G := G) hsE hil
    obtain ⟨v0, v1, v2, v3, v4, v5⟩ := vec_get (G := G) hsE hkl
    simp only [aadd_mk, Nat.zero_add] at u0 u1 u2 u3 u4 u5 v0 v1 v2 v3 v4 v5
    refine call_of (b3 _ _) ?_
    simp only [↓R1, R2, R3, R4, TY, reduceIte, Nat.reduceEqDiff, Nat.reduceAdd, Nat.reduceMul, Nat.reduceLT, Nat.reduceLeDiff, reduceCtorEq, decide_true, decide_false, Int.reduceLE, Int.reduceLT, Int.reduceToNat, Int.reduceAdd, Int.reduceSub, Int.reduceMul, Int.reduceEq, q3, q4, q11, q12, q13, q14, hil, hkl, u0, u1, u2, u3, u4, u5, v0, v1, v2, v3, v4, v5, hfl, hfl1, hfl2, hfl3, hfl4, hfl5, hfl6, NE, NE9, Nat.add_assoc]
    refine call_of (b4 _ _) ?_
    simp only [↓R1, R2, R3, R4, TY, reduceIte, Nat.reduceEqDiff, Nat.reduceAdd, Nat.reduceMul, Nat.reduceLT, Nat.reduceLeDiff, reduceCtorEq, decide_true, decide_false, Int.reduceLE, Int.reduceLT, Int.reduceToNat, Int.reduceAdd, Int.reduceSub, Int.reduceMul, Int.reduceEq, q3, q4, q11, q12, q13, q14, hil, hkl, u0, u1, u2, u3, u4, u5, v0, v1, v2, v3, v4, v5, hfl, hfl1, hfl2, hfl3, hfl4, hfl5, hfl6, NE, NE9, Nat.add_assoc]
    refine call_of (va _ _) ?_
    simp only [↓R1, R2, R3, R4, TY, reduceIte, Nat.reduceEqDiff, Nat.reduceAdd, Nat.reduceMul, Nat.reduceLT, Nat.reduceLeDiff, reduceCtorEq, decide_true, decide_false, Int.reduceLE, Int.reduceLT, Int.reduceToNat, Int.reduceAdd, Int.reduceSub, Int.reduceMul, Int.reduceEq, q3, q4, q11, q12, q13, q14, hfl, hfl1, hfl2, hfl3, hfl4, hfl5, hfl6, NE, NE9, Nat.add_assoc]
    refine call_of (nm _ _) ?_
    simp only [↓R1, R2, R3, R4, TY, reduceIte, Nat.reduceEqDiff, Nat.reduceAdd, Nat.reduceMul, Nat.reduceLT, Nat.reduceLeDiff, reduceCtorEq, decide_true, decide_false, Int.reduceLE, Int.reduceLT, Int.reduceToNat, Int.reduceAdd, Int.reduceSub, Int.reduceMul, Int.reduceEq, q3, q4, q11, q12, q13, q14, hfl, hfl1, hfl2, hfl3, hfl4, hfl5, hfl6, NE, NE9, Nat.add_assoc]
    refine call_of (vs _ _) ?_
    simp only [↓R1, R2, R3, R4, TY, reduceIte, Nat.reduceEqDiff, Nat.reduceAdd, Nat.reduceMul, Nat.reduceLT, Nat.reduceLeDiff, reduceCtorEq, decide_true, decide_false, Int.reduceLE, Int.reduceLT, Int.reduceToNat, Int.reduceAdd, Int.reduceSub, Int.reduceMul, Int.reduceEq, q3, q4, q11, q12, q13, q14, hflE, hfl, hfl1, hfl2, hfl3, hfl4, hfl5, hfl6, NE, NE9, Nat.add_assoc]
    rw [floOf_wr (by kernel_rfl)]
    simp only [↓R1, R2, R3, R4, TY, reduceIte, Nat.reduceEqDiff, Nat.reduceAdd, Nat.reduceMul, Nat.reduceLT, Nat.reduceLeDiff, reduceCtorEq, decide_true, decide_false, Int.reduceLE, Int.reduceLT, Int.reduceToNat, Int.reduceAdd, Int.reduceSub, Int.reduceMul, Int.reduceEq, q3, q4, q11, q12, q13, q14, hflE, hfl, hfl1, hfl2, hfl3, hfl4, hfl5, hfl6, NE, NE9, Nat.add_assoc]
    refine call_of (hs1 _ _ _ (hb0 _ _ ?_)) ?_
    · simp only [Hp.put_blk, Hp.push_blk, ne0, if_false]; exact hE0
    simp only [↓R1, R2, R3, R4, TY, reduceIte, Nat.reduceEqDiff, Nat.reduceAdd, Nat.reduceMul, Nat.reduceLT, Nat.reduceLeDiff, reduceCtorEq, decide_true, decide_false, Int.reduceLE, Int.reduceLT, Int.reduceToNat, Int.reduceAdd, Int.reduceSub, Int.reduceMul, Int.reduceEq, q3, q4, q11, q12, q13, q14, hflE, gB, bxC_def, e3, ne2, hfl, hfl1, hfl2, hfl3, hfl4, hfl5, hfl6, NE, NE9, Nat.add_assoc]
    refine call_of (p1 _ _) ?_
    simp only [↓R1, R2, R3, R4, TY, reduceIte, Nat.reduceEqDiff, Nat.reduceAdd, Nat.reduceMul, Nat.reduceLT, Nat.reduceLeDiff, reduceCtorEq, decide_true, decide_false, Int.reduceLE, Int.reduceLT, Int.reduceToNat, Int.reduceAdd, Int.reduceSub, Int.reduceMul, Int.reduceEq, q3, q4, q11, q12, q13, q14, hflE, gB, bxC_def, e3, ne2, hfl, hfl1, hfl2, hfl3, hfl4, hfl5, hfl6, NE, NE9, Nat.add_assoc]
    refine call_of (p2 _ _) ?_
    simp only [↓R1, R2, R3, R4, TY, reduceIte, Nat.reduceEqDiff, Nat.reduceAdd, Nat.reduceMul, Nat.reduceLT, Nat.reduceLeDiff, reduceCtorEq, decide_true, decide_false, Int.reduceLE, Int.reduceLT, Int.reduceToNat, Int.reduceAdd, Int.reduceSub, Int.reduceMul, Int.reduceEq]
    refine Ended.back hA ?_ rfl (RB.bool _)
    simp (maxDischargeDepth := 20) only [xt_push, xt_put, hx1, hx1.next, Nat.le_refl, Nat.le_add_right]
  have hlt' : j < P.length := by omega
  obtain ⟨u0, u1, u2, u3, u4, u5⟩ := vec_get (G := G) hsE hlt'
  obtain ⟨v0, v1, v2, v3, v4, v5⟩ := vec_get (G := G) hsE hbl
  simp only [aadd_mk, Nat.zero_add] at u0 u1 u2 u3 u4 u5 v0 v1 v2 v3 v4 v5
  have zj := hP.z.at hlt'
  have zb := hP.z.at hbl
  have d1 := fun fl A => vdot (G := G) (fl := fl) (A := A) hG zj.1 zj.2 hd.1 hd.2 (by omega)
  have d2 := fun fl A => vdot (G := G) (fl := fl) (A := A) hG zb.1 zb.2 hd.1 hd.2 (by omega)
  have cm := fun fl A => qcmp (G := G) (fl := fl) (A := A) hG (rz_dt zj hd) (rz_dt zb hd) (by omega)
  have hno : ((pget P be).1 * U + (pget P be).2 * W < (pget P j).1 * U + (pget P j).2 * W) = False := eq_false (Rat.not_lt.2 (hbm j hlt'))
  have hj63 : j < 9223372036854775807 := by omega
  simp only [prV_def] at d1 d2
  simp only [ratV_def] at d1 d2 cm
  simp only [↓R1, R2, R3, R4, TY, reduceIte, Nat.reduceEqDiff, Nat.reduceAdd, Nat.reduceMul, Nat.reduceLT, Nat.reduceLeDiff, reduceCtorEq, decide_true, decide_false, Int.reduceLE, Int.reduceLT, Int.reduceToNat, Int.reduceAdd, Int.reduceSub, Int.reduceMul, Int.reduceEq, q3, q4, q11, q12, q13, q14, q39, q40, q41, hlt, u0, u1, u2, u3, u4, u5, v0, v1, v2, v3, v4, v5, hbl, gV, e1, e2, ne0, ne1, hflE, NE]
  refine call_of (d1 _ _) ?_
  simp only [↓R1, R2, R3, R4, TY, reduceIte, Nat.reduceEqDiff, Nat.reduceAdd, Nat.reduceMul, Nat.reduceLT, Nat.reduceLeDiff, reduceCtorEq, decide_true, decide_false, Int.reduceLE, Int.reduceLT, Int.reduceToNat, Int.reduceAdd, Int.reduceSub, Int.reduceMul, Int.reduceEq, q3, q4, q11, q12, q13, q14, q39, q40, q41, hlt, u0, u1, u2, u3, u4, u5, v0, v1, v2, v3, v4, v5, hbl, gV, e1, e2, ne0, ne1, hflE, NE]
  refine call_of (d2 _ _) ?_
  simp only [↓R1, R2, R3, R4, TY, reduceIte, Nat.reduceEqDiff, Nat.reduceAdd, Nat.reduceMul, Nat.reduceLT, Nat.reduceLeDiff, reduceCtorEq, decide_true, decide_false, Int.reduceLE, Int.reduceLT, Int.reduceToNat, Int.reduceAdd, Int.reduceSub, Int.reduceMul, Int.reduceEq]
  refine call_of (cm _ _) ?_
  simp only [↓R1, R2, R3, R4, TY, reduceIte, Nat.reduceEqDiff, Nat.reduceAdd, Nat.reduceMul, Nat.reduceLT, Nat.reduceLeDiff, reduceCtorEq, decide_true, decide_false, Int.reduceLE, Int.reduceLT, Int.reduceToNat, Int.reduceAdd, Int.reduceSub, Int.reduceMul, Int.reduceEq, rcmp_gt', hno, q3, q4, q11, q12, q13, q14, q39, q40, q41, hj63]
  refine range_on q41 hlt' rfl ⟨?_, ?_, ?_, fun i => ?_, fun i => ?_, q3, q4, q11, q12, q13, q14, q39, q40, rfl⟩
  · simp (maxDischargeDepth := 20) only [xt_push, xt_put, hx1, hx1.next, Nat.le_refl]
  · simp only [Hp.put_next, Hp.push_next]; omega
  · simp only [Hp.put_blk, Hp.push_blk, ne0, if_false]; exact hE0
  · rw [get_put_other ne1, get_push_old e2]; exact gV i
  · rw [get_put_other ne2, get_push_old e3]; exact gB i

theorem polyEnds_calls {v : Value} {xs : List Int} {x1 x2 x3 x4 : Int} (hG : G 1 = some tabV) (hx : In64 xs) (hs : Sl A 1 v (xs.map iC)) (hl : xs.length ≤ 9223372036854775807) (k1 : -9223372036854775808 ≤ x1 ∧ x1 ≤ 9223372036854775807) (k2 : -9223372036854775808 ≤ x2 ∧ x2 ≤ 9223372036854775807) (k3 : -9223372036854775808 ≤ x3 ∧ x3 ≤ 9223372036854775807) (k4 : -9223372036854775808 ≤ x4 ∧ x4 ≤ 9223372036854775807) :
    ∀ (μ : Mu) (w : World) (args' : Array Value), HR G μ fl A w → fl ≤ A.next → VRa μ A [v, .int .i64 x1, .int .i64 x2, .int .i64 x3, .int .i64 x4].toArray args' →
    Calls Tryd.prog 4 args' w fun e w' => ∃ u, e = .returned u ∧ ∃ ν, VR ν A (.bool true) u ∧ HR G ν fl A w' ∧ Trans fl μ A w ν A w' :=
  Sound.calls Tryd.func4 (by kernel_rfl) (by kernel_rfl) (polyEnds_ok hG hx hs hl k1 k2 k3 k4)

end
end Go.Proofs.YthclikeipdplpaaDoor.Ab
