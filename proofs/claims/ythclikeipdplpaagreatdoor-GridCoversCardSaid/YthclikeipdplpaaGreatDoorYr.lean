/- Distances of polygons: Meet, Sq. -/
import Derived.Test.YthclikeipdplpaaGreatDoorYo
namespace Go.Proofs.YthclikeipdplpaaGreatDoor.Ab
open Go.RowKit
set_option linter.unusedVariables false
set_option linter.unusedSimpArgs false
set_option maxRecDepth 100000

/-- Do two polygons meet, as apart.Meet says? -/
def meetB (a b : List V2) : Bool := !(bidx a b).isSome && !(bidx b a).isSome
/-- What apart.Sq computes. -/
def sq1 (a b : List V2) : Nat → Rat
  | 0 => near (pget a 0) b b.length
  | i + 1 => rmin (sq1 a b i) (near (pget a i) b b.length)
def sq2 (a b : List V2) : Nat → Rat
  | 0 => sq1 a b a.length
  | j + 1 => rmin (sq2 a b j) (near (pget b j) a a.length)
def sqv (a b : List V2) : Rat := if meetB a b then 0 else sq2 a b b.length
theorem rz_sq1 {a b : List V2} {k : Nat} (za : Lz a k) (zb : Lz b k) (a0 : 0 < a.length) (b2 : 2 ≤ b.length) : ∀ i, i ≤ a.length → Rz (sq1 a b i) (24 * k + 15)
  | 0, _ => rz_near (za.at a0) zb b2 _ (Nat.le_refl _)
  | i + 1, h => (rz_sq1 za zb a0 b2 i (by omega)).min (rz_near (za.at (by omega)) zb b2 _ (Nat.le_refl _))
theorem rz_sq2 {a b : List V2} {k : Nat} (za : Lz a k) (zb : Lz b k) (a2 : 2 ≤ a.length) (b2 : 2 ≤ b.length) : ∀ j, j ≤ b.length → Rz (sq2 a b j) (24 * k + 15)
  | 0, _ => rz_sq1 za zb (by omega) b2 _ (Nat.le_refl _)
  | j + 1, h => (rz_sq2 za zb a2 b2 j (by omega)).min (rz_near (zb.at (by omega)) za a2 _ (Nat.le_refl _))
section
variable {G : Gl} {fl : Nat} {A : Hp}

set_option maxHeartbeats 2000000 in
theorem meet_ok {va vb : Value} {a b : List V2} {k : Nat} (hG : G 1 = some tabV) (ha : Sl A 6 va (a.map vC)) (hb : Sl A 6 vb (b.map vC)) (za : Lz a k) (zb : Lz b k) (hk : k ≤ 500) (ca : pchk a 64 = 0) (cb : pchk b 64 = 0) : Sound Tryz.prog G 76 [va, vb] fl A (.tuple [.bool (meetB a b), .int .i64 0].toArray) A := by
  refine Sound.of mixed Tryz.func76 Tryz.ntmps76 Tryz.results76 (by kernel_rfl) rfl (by kernel_rfl) (by simp) fun hA => ?_
  have hfl : fl ≤ A.next := by have := hA.floor; omega
  have hfl1 : fl ≤ A.next + 1 := by have := hA.floor; omega
  have hfl2 : fl ≤ A.next + 2 := by have := hA.floor; omega
  have hfl3 : fl ≤ A.next + 3 := by have := hA.floor; omega
  have hfl4 : fl ≤ A.next + 4 := by have := hA.floor; omega
  have hfl5 : fl ≤ A.next + 5 := by have := hA.floor; omega
  have hfl6 : fl ≤ A.next + 6 := by have := hA.floor; omega
  have la := (pchk_ok.1 ca).2.1
  have lb := (pchk_ok.1 cb).2.1
  have bo := fun fl A ha hb => both_ok (G := G) (fl := fl) (A := A) (va := va) (vb := vb) hG ha hb za zb hk ca cb
  have b1 := fun fl A ha hb => beyond_ok (G := G) (fl := fl) (A := A) (va := va) (vb := vb) hG ha hb za zb hk (by omega) (by omega)
  have b2 := fun fl A ha hb => beyond_ok (G := G) (fl := fl) (A := A) (va := vb) (vb := va) hG ha hb zb za hk (by omega) (by omega)
  obtain ⟨c0, c1, c2, c3, c4, c5, e1⟩ := bvec_form a b
  obtain ⟨d0, d1, d2, d3, d4, d5, e2⟩ := bvec_form b a
  rw [e1] at b1
  rw [e2] at b2
  unfold meetB
  generalize (bidx a b).isSome = s1 at *
  generalize (bidx b a).isSome = s2 at *
  have x1 : ∀ b1 b2, Xt A.next A ((A.push b1).put A.next b2) := fun b1 b2 => ((Xt.refl A).push _).put (Nat.le_refl _) _
  simp only [↓R1, R2, R3, R4, TY, reduceIte, Nat.reduceEqDiff, Nat.reduceAdd, Nat.reduceMul, Nat.reduceLT, Nat.reduceLeDiff, reduceCtorEq, decide_true, decide_false, Int.reduceLE, Int.reduceLT, Int.reduceToNat, Int.reduceAdd, Int.reduceSub, Int.reduceMul, Int.reduceEq, hfl, hfl1, hfl2, hfl3, hfl4, hfl5, hfl6, NE, NE9, Nat.add_assoc]
  refine call_of (bo _ _ ha hb) ?_
  simp only [↓R1, R2, R3, R4, TY, reduceIte, Nat.reduceEqDiff, Nat.reduceAdd, Nat.reduceMul, Nat.reduceLT, Nat.reduceLeDiff, reduceCtorEq, decide_true, decide_false, Int.reduceLE, Int.reduceLT, Int.reduceToNat, Int.reduceAdd, Int.reduceSub, Int.reduceMul, Int.reduceEq, hfl, hfl1, hfl2, hfl3, hfl4, hfl5, hfl6, NE, NE9, Nat.add_assoc]
  refine call_of (b1 _ _ ha hb) ?_
  simp only [↓R1, R2, R3, R4, TY, reduceIte, Nat.reduceEqDiff, Nat.reduceAdd, Nat.reduceMul, Nat.reduceLT, Nat.reduceLeDiff, reduceCtorEq, decide_true, decide_false, Int.reduceLE, Int.reduceLT, Int.reduceToNat, Int.reduceAdd, Int.reduceSub, Int.reduceMul, Int.reduceEq, hfl, hfl1, hfl2, hfl3, hfl4, hfl5, hfl6, NE, NE9, Nat.add_assoc]
  refine call_of (b2 _ _ (hb.xt hA (x1 _ _)) (ha.xt hA (x1 _ _))) ?_
  cases s1 <;> cases s2
  · simp only [↓R1, R2, R3, R4, TY, reduceIte, Nat.reduceEqDiff, Nat.reduceAdd, Nat.reduceMul, Nat.reduceLT, Nat.reduceLeDiff, reduceCtorEq, decide_true, decide_false, Int.reduceLE, Int.reduceLT, Int.reduceToNat, Int.reduceAdd, Int.reduceSub, Int.reduceMul, Int.reduceEq, hfl, hfl1, hfl2, hfl3, hfl4, hfl5, hfl6, NE, NE9, Nat.add_assoc]
    refine Ended.back hA ?_ rfl (tup_rb (RB.bool _) (RB.int _ _))
    simp (maxDischargeDepth := 20) only [xt_push, xt_put, xt_refl, Nat.le_refl, Nat.le_add_right, Nat.add_assoc, Nat.reduceAdd]
  · simp only [↓R1, R2, R3, R4, TY, reduceIte, Nat.reduceEqDiff, Nat.reduceAdd, Nat.reduceMul, Nat.reduceLT, Nat.reduceLeDiff, reduceCtorEq, decide_true, decide_false, Int.reduceLE, Int.reduceLT, Int.reduceToNat, Int.reduceAdd, Int.reduceSub, Int.reduceMul, Int.reduceEq, hfl, hfl1, hfl2, hfl3, hfl4, hfl5, hfl6, NE, NE9, Nat.add_assoc]
    refine Ended.back hA ?_ rfl (tup_rb (RB.bool _) (RB.int _ _))
    simp (maxDischargeDepth := 20) only [xt_push, xt_put, xt_refl, Nat.le_refl, Nat.le_add_right, Nat.add_assoc, Nat.reduceAdd]
  · simp only [↓R1, R2, R3, R4, TY, reduceIte, Nat.reduceEqDiff, Nat.reduceAdd, Nat.reduceMul, Nat.reduceLT, Nat.reduceLeDiff, reduceCtorEq, decide_true, decide_false, Int.reduceLE, Int.reduceLT, Int.reduceToNat, Int.reduceAdd, Int.reduceSub, Int.reduceMul, Int.reduceEq, hfl, hfl1, hfl2, hfl3, hfl4, hfl5, hfl6, NE, NE9, Nat.add_assoc]
    refine Ended.back hA ?_ rfl (tup_rb (RB.bool _) (RB.int _ _))
    simp (maxDischargeDepth := 20) only [xt_push, xt_put, xt_refl, Nat.le_refl, Nat.le_add_right, Nat.add_assoc, Nat.reduceAdd]
  · simp only [↓R1, R2, R3, R4, TY, reduceIte, Nat.reduceEqDiff, Nat.reduceAdd, Nat.reduceMul, Nat.reduceLT, Nat.reduceLeDiff, reduceCtorEq, decide_true, decide_false, Int.reduceLE, Int.reduceLT, Int.reduceToNat, Int.reduceAdd, Int.reduceSub, Int.reduceMul, Int.reduceEq, hfl, hfl1, hfl2, hfl3, hfl4, hfl5, hfl6, NE, NE9, Nat.add_assoc]
    refine Ended.back hA ?_ rfl (tup_rb (RB.bool _) (RB.int _ _))
    simp (maxDischargeDepth := 20) only [xt_push, xt_put, xt_refl, Nat.le_refl, Nat.le_add_right, Nat.add_assoc, Nat.reduceAdd]

set_option maxHeartbeats 8000000 in
theorem sq_meet {va vb : Value} {a b : List V2} {k : Nat} (hG : G 1 = some tabV) (ha : Sl A 6 va (a.map vC)) (hb : Sl A 6 vb (b.map vC)) (za : Lz a k) (zb : Lz b k) (hk : k ≤ 500) (ca : pchk a 64 = 0) (cb : pchk b 64 = 0) (hm : meetB a b = true) :
    Sound Tryz.prog G 34 [va, vb] fl A (.tuple [ratV (sqv a b), .int .i64 0].toArray) A := by
  refine Sound.of mixed Tryz.func34 Tryz.ntmps34 Tryz.results34 (by kernel_rfl) rfl (by kernel_rfl) (by simp) fun hA => ?_
  obtain ⟨-, la, -⟩ := id (pchk_ok.1 ca)
  obtain ⟨-, lb, -⟩ := id (pchk_ok.1 cb)
  have la3 := (pchk_ok.1 ca).1
  have lb3 := (pchk_ok.1 cb).1
  obtain ⟨oa, c1, rfl⟩ := ha.len
  obtain ⟨ob, c2, rfl⟩ := hb.len
  rw [List.length_map] at ha hb
  rw [List.length_map, List.length_map]
  have hfl : fl ≤ A.next := by have := hA.floor; omega
  have hfl1 : fl ≤ A.next + 1 := by have := hA.floor; omega
  have hfl2 : fl ≤ A.next + 2 := by have := hA.floor; omega
  have hfl3 : fl ≤ A.next + 3 := by have := hA.floor; omega
  have hfl4 : fl ≤ A.next + 4 := by have := hA.floor; omega
  have hfl5 : fl ≤ A.next + 5 := by have := hA.floor; omega
  have hfl6 : fl ≤ A.next + 6 := by have := hA.floor; omega
  have hrb := ratV_rb A.next (sqv a b)
  have x1 : ∀ b1, Xt A.next A (A.push b1) := fun b1 => (Xt.refl A).push _
  have mt := fun fl A ha hb => meet_ok (G := G) (fl := fl) (A := A) (va := .slice oa a.length c1) (vb := .slice ob b.length c2) hG ha hb za zb hk ca cb
  rw [hm] at mt
  have z0 := fun fl A => rof_ok (G := G) (fl := fl) (A := A) (n := 0) (by decide) (by decide)
  have ev : sqv a b = rOf 0 := by unfold sqv; rw [if_pos hm, rOf_zero]
  rw [ev] at hrb ⊢
  generalize rOf 0 = z at *
  simp only [ratV_def] at z0 hrb ⊢
  simp only [↓R1, R2, R3, R4, TY, reduceIte, Nat.reduceEqDiff, Nat.reduceAdd, Nat.reduceMul, Nat.reduceLT, Nat.reduceLeDiff, reduceCtorEq, decide_true, decide_false, Int.reduceLE, Int.reduceLT, Int.reduceToNat, Int.reduceAdd, Int.reduceSub, Int.reduceMul, Int.reduceEq, hfl, hfl1, hfl2, hfl3, hfl4, hfl5, hfl6, NE, NE9, Nat.add_assoc]
  refine call_of (mt _ _ (ha.xt hA (x1 _)) (hb.xt hA (x1 _))) ?_
  simp only [↓R1, R2, R3, R4, TY, reduceIte, Nat.reduceEqDiff, Nat.reduceAdd, Nat.reduceMul, Nat.reduceLT, Nat.reduceLeDiff, reduceCtorEq, decide_true, decide_false, Int.reduceLE, Int.reduceLT, Int.reduceToNat, Int.reduceAdd, Int.reduceSub, Int.reduceMul, Int.reduceEq, hfl, hfl1, hfl2, hfl3, hfl4, hfl5, hfl6, NE, NE9, Nat.add_assoc]
  refine call_of (z0 _ _) ?_
  simp only [↓R1, R2, R3, R4, TY, reduceIte, Nat.reduceEqDiff, Nat.reduceAdd, Nat.reduceMul, Nat.reduceLT, Nat.reduceLeDiff, reduceCtorEq, decide_true, decide_false, Int.reduceLE, Int.reduceLT, Int.reduceToNat, Int.reduceAdd, Int.reduceSub, Int.reduceMul, Int.reduceEq, hfl, hfl1, hfl2, hfl3, hfl4, hfl5, hfl6, NE, NE9, Nat.add_assoc]
  refine Ended.back hA ?_ rfl (tup_rb hrb (RB.int _ _))
  simp (maxDischargeDepth := 20) only [xt_push, xt_put, xt_refl, Nat.le_refl, Nat.le_add_right, Nat.add_assoc, Nat.reduceAdd]

set_option maxHeartbeats 8000000 in
theorem sq_no {va vb : Value} {a b : List V2} {k : Nat} (hG : G 1 = some tabV) (ha : Sl A 6 va (a.map vC)) (hb : Sl A 6 vb (b.map vC)) (za : Lz a k) (zb : Lz b k) (hk : k ≤ 500) (ca : pchk a 64 = 0) (cb : pchk b 64 = 0) (hm : meetB a b = false) :
    Sound Tryz.prog G 34 [va, vb] fl A (.tuple [ratV (sqv a b), .int .i64 0].toArray) A := by
  refine Sound.of mixed Tryz.func34 Tryz.ntmps34 Tryz.results34 (by kernel_rfl) rfl (by kernel_rfl) (by simp) fun hA => ?_
  obtain ⟨-, la, -⟩ := id (pchk_ok.1 ca)
  obtain ⟨-, lb, -⟩ := id (pchk_ok.1 cb)
  have la3 := (pchk_ok.1 ca).1
  have lb3 := (pchk_ok.1 cb).1
  obtain ⟨oa, c1, rfl⟩ := ha.len
  obtain ⟨ob, c2, rfl⟩ := hb.len
  rw [List.length_map] at ha hb
  rw [List.length_map, List.length_map]
  have hfl : fl ≤ A.next := by have := hA.floor; omega
  have hfl1 : fl ≤ A.next + 1 := by have := hA.floor; omega
  have hfl2 : fl ≤ A.next + 2 := by have := hA.floor; omega
  have hfl3 : fl ≤ A.next + 3 := by have := hA.floor; omega
  have hfl4 : fl ≤ A.next + 4 := by have := hA.floor; omega
  have hfl5 : fl ≤ A.next + 5 := by have := hA.floor; omega
  have hfl6 : fl ≤ A.next + 6 := by have := hA.floor; omega
  have hrb := ratV_rb A.next (sqv a b)
  have x1 : ∀ b1, Xt A.next A (A.push b1) := fun b1 => (Xt.refl A).push _
  have mt := fun fl A ha hb => meet_ok (G := G) (fl := fl) (A := A) (va := .slice oa a.length c1) (vb := .slice ob b.length c2) hG ha hb za zb hk ca cb
  rw [hm] at mt
  have ev : sqv a b = sq2 a b b.length := by unfold sqv; rw [if_neg (by rw [hm]; decide)]
  rw [ev] at hrb ⊢
  have a0 : 0 < a.length := by omega
  obtain ⟨aa, rfl, -⟩ := ha.at (G := G) (i := 0) (by simpa using a0)
  have n0 := fun fl A hs => near_ok (G := G) (fl := fl) (A := A) (v := .slice ob b.length c2) (p := pget a 0) hG hs zb (za.at a0) (by omega) (by omega) (by omega)
  have en0 : near (pget a 0) b b.length = sq1 a b 0 := rfl
  rw [en0] at n0
  obtain ⟨g0, g1, g2, g3, g4, g5⟩ := vec_get (G := G) ha a0
  simp only [Nat.zero_mul, Nat.zero_add] at g0 g1 g2 g3 g4 g5
  have ga : aadd aa 0 = aa := rfl
  rw [ga] at g0
  have hab := ha.lt hA
  have c0 : (0 : Int) < ((a.length : Nat) : Int) := by omega
  simp only [prV_def] at n0
  simp only [ratV_def] at n0 hrb ⊢
  simp only [↓R1, R2, R3, R4, TY, reduceIte, Nat.reduceEqDiff, Nat.reduceAdd, Nat.reduceMul, Nat.reduceLT, Nat.reduceLeDiff, reduceCtorEq, decide_true, decide_false, Int.reduceLE, Int.reduceLT, Int.reduceToNat, Int.reduceAdd, Int.reduceSub, Int.reduceMul, Int.reduceEq, hfl, hfl1, hfl2, hfl3, hfl4, hfl5, hfl6, NE, NE9, Nat.add_assoc]
  refine call_of (mt _ _ (ha.xt hA (x1 _)) (hb.xt hA (x1 _))) ?_
  simp only [↓R1, R2, R3, R4, TY, reduceIte, Nat.reduceEqDiff, Nat.reduceAdd, Nat.reduceMul, Nat.reduceLT, Nat.reduceLeDiff, reduceCtorEq, decide_true, decide_false, Int.reduceLE, Int.reduceLT, Int.reduceToNat, Int.reduceAdd, Int.reduceSub, Int.reduceMul, Int.reduceEq, hfl, hfl1, hfl2, hfl3, hfl4, hfl5, hfl6, NE, NE9, Nat.add_assoc, c0, g0, g1, g2, g3, g4, g5, ga, hab]
  refine call_of (n0 _ _ (hb.xt hA (x1 _))) ?_
  simp only [↓R1, R2, R3, R4, TY, reduceIte, Nat.reduceEqDiff, Nat.reduceAdd, Nat.reduceMul, Nat.reduceLT, Nat.reduceLeDiff, reduceCtorEq, decide_true, decide_false, Int.reduceLE, Int.reduceLT, Int.reduceToNat, Int.reduceAdd, Int.reduceSub, Int.reduceMul, Int.reduceEq, hfl, hfl1, hfl2, hfl3, hfl4, hfl5, hfl6, NE, NE9, Nat.add_assoc]
  generalize hD : Hp.put _ _ _ = D
  have hxD : Xt A.next A D := by
    rw [← hD]
    simp (maxDischargeDepth := 20) only [xt_push, xt_put, xt_refl, Nat.le_refl, Nat.le_add_right, Nat.add_assoc, Nat.reduceAdd]
  have hDn : D.next = A.next + 2 := by rw [← hD]; rfl
  have f1 : (A.next = A.next + 1) = False := eq_false (by omega)
  have hD0 : D.blk A.next = some (.row [.bool false, .string { data := #[] }, .string { data := #[] }] 0 3) := by
    rw [← hD]; simp only [Hp.put_blk, Hp.push_blk, Hp.push_next, Hp.put_next, f1, if_false, if_true]
  have hD1 : D.blk (A.next + 1) = some (.row [.bool (decide ((sq1 a b 0).num < 0)), .string (S (nb (sq1 a b 0).num.natAbs)), .string (S (nb (sq1 a b 0).den))] 0 3) := by
    rw [← hD]; simp only [Hp.put_blk, if_true]
  clear hD
  refine range_of 32 a.length (fun i τ C => Xt A.next A C ∧ A.next + 1 < C.next ∧ C.blk A.next = some (.row [.bool false, .string { data := #[] }, .string { data := #[] }] 0 3) ∧
    C.blk (A.next + 1) = some (.row [.bool (decide (((sq1 a b) i).num < 0)), .string (S (nb ((sq1 a b) i).num.natAbs)), .string (S (nb ((sq1 a b) i).den))] 0 3) ∧
    τ 0 = some (.slice (some aa) a.length c1) ∧ τ 1 = some (.slice ob b.length c2) ∧ τ 4 = some (.pointer (some ⟨A.next, 0, some 0⟩)) ∧ τ 8 = some (.pointer (some ⟨A.next + 1, 0, some 0⟩)) ∧ τ 30 = some (.slice (some aa) a.length c1) ∧ τ 31 = some (.int .i64 (a.length : Nat)) ∧ τ 32 = some (.int .i64 (i : Nat))) ?_ ?_
  · exact ⟨hxD, by omega, hD0, hD1, rfl, rfl, rfl, rfl, rfl, rfl, rfl⟩
  rintro i τ C hi ⟨hx, hn, hC0, hC1, q0, q1, q4, q8, qs, ql, qi⟩
  have hflC : fl ≤ C.next := Nat.le_trans hA.floor hx.next
  have hn0 : A.next < C.next := by omega
  have hn3 : A.next + 1 < C.next + 1 := by omega
  have ne0 : (A.next = C.next) = False := eq_false (by omega)
  have ne1 : (A.next + 1 = C.next) = False := eq_false (by omega)
  have ne3 : (C.next = A.next + 1) = False := eq_false (by omega)
  have ne4 : (A.next = A.next + 1) = False := eq_false (by omega)
  have gN : ∀ j, C.get G ⟨A.next + 1, j, some 0⟩ = ([.bool (decide (((sq1 a b) i).num < 0)), .string (S (nb ((sq1 a b) i).num.natAbs)), .string (S (nb ((sq1 a b) i).den))] : List Value)[j]? := fun j => by simp only [Hp.get, hC1, if_true]
  simp only [↓R1, R2, R3, R4, TY, reduceIte, Nat.reduceEqDiff, Nat.reduceAdd, Nat.reduceMul, Nat.reduceLT, Nat.reduceLeDiff, reduceCtorEq, decide_true, decide_false, Int.reduceLE, Int.reduceLT, Int.reduceToNat, Int.reduceAdd, Int.reduceSub, Int.reduceMul, Int.reduceEq, q0, q1, q4, q8, qs, ql, qi]
  refine ⟨fun hlt => ?_, fun hlt => ?_⟩
  rotate_left
  · have e : i = a.length := by omega
    subst e
    simp only [↓R1, R2, R3, R4, TY, reduceIte, Nat.reduceEqDiff, Nat.reduceAdd, Nat.reduceMul, Nat.reduceLT, Nat.reduceLeDiff, reduceCtorEq, decide_true, decide_false, Int.reduceLE, Int.reduceLT, Int.reduceToNat, Int.reduceAdd, Int.reduceSub, Int.reduceMul, Int.reduceEq, q0, q1, q4, q8, qs, ql, qi]
    refine range_of 44 b.length (fun i τ C => Xt A.next A C ∧ A.next + 1 < C.next ∧ C.blk A.next = some (.row [.bool false, .string { data := #[] }, .string { data := #[] }] 0 3) ∧
      C.blk (A.next + 1) = some (.row [.bool (decide (((sq2 a b) i).num < 0)), .string (S (nb ((sq2 a b) i).num.natAbs)), .string (S (nb ((sq2 a b) i).den))] 0 3) ∧
      τ 0 = some (.slice (some aa) a.length c1) ∧ τ 1 = some (.slice ob b.length c2) ∧ τ 4 = some (.pointer (some ⟨A.next, 0, some 0⟩)) ∧ τ 8 = some (.pointer (some ⟨A.next + 1, 0, some 0⟩)) ∧ τ 42 = some (.slice ob b.length c2) ∧ τ 43 = some (.int .i64 (b.length : Nat)) ∧ τ 44 = some (.int .i64 (i : Nat))) ?_ ?_
    · exact ⟨hx, hn, hC0, hC1, q0, q1, q4, q8, rfl, rfl, rfl⟩
    rintro i τ C hi ⟨hx, hn, hC0, hC1, q0, q1, q4, q8, qs, ql, qi⟩
    have hflC : fl ≤ C.next := Nat.le_trans hA.floor hx.next
    have hn0 : A.next < C.next := by omega
    have hn3 : A.next + 1 < C.next + 1 := by omega
    have ne0 : (A.next = C.next) = False := eq_false (by omega)
    have ne1 : (A.next + 1 = C.next) = False := eq_false (by omega)
    have ne3 : (C.next = A.next + 1) = False := eq_false (by omega)
    have ne4 : (A.next = A.next + 1) = False := eq_false (by omega)
    have gN : ∀ j, C.get G ⟨A.next + 1, j, some 0⟩ = ([.bool (decide (((sq2 a b) i).num < 0)), .string (S (nb ((sq2 a b) i).num.natAbs)), .string (S (nb ((sq2 a b) i).den))] : List Value)[j]? := fun j => by simp only [Hp.get, hC1, if_true]
    simp only [↓R1, R2, R3, R4, TY, reduceIte, Nat.reduceEqDiff, Nat.reduceAdd, Nat.reduceMul, Nat.reduceLT, Nat.reduceLeDiff, reduceCtorEq, decide_true, decide_false, Int.reduceLE, Int.reduceLT, Int.reduceToNat, Int.reduceAdd, Int.reduceSub, Int.reduceMul, Int.reduceEq, q0, q1, q4, q8, qs, ql, qi]
    refine ⟨fun hlt => ?_, fun hlt => ?_⟩
    rotate_left
    · have e : i = b.length := by omega
      subst e
      simp only [↓R1, R2, R3, R4, TY, reduceIte, Nat.reduceEqDiff, Nat.reduceAdd, Nat.reduceMul, Nat.reduceLT, Nat.reduceLeDiff, reduceCtorEq, decide_true, decide_false, Int.reduceLE, Int.reduceLT, Int.reduceToNat, Int.reduceAdd, Int.reduceSub, Int.reduceMul, Int.reduceEq, q0, q1, q4, q8, qs, ql, qi, hflC, gN, hn, hC0, hfl, hfl1, hfl2, hfl3, hfl4, hfl5, hfl6, NE, NE9, Nat.add_assoc]
      refine Ended.back hA ?_ rfl (tup_rb hrb (RB.int _ _))
      simp (maxDischargeDepth := 20) only [xt_push, xt_put, hx, hx.next, Nat.le_refl, Nat.le_add_right]
    have hlt' : i < b.length := by omega
    obtain ⟨ad, hae, -⟩ := hb.at (G := G) (i := i) (by simpa using hlt')
    cases hae
    have hsC := hb.xt hA hx
    have hac : ad.block < C.next := Nat.lt_of_lt_of_le (hb.lt hA) hx.next
    have hac1 : ad.block < C.next + 1 := Nat.lt_succ_of_lt hac
    have nec : (ad.block = C.next) = False := eq_false (by omega)
    obtain ⟨g0, g1, g2, g3, g4, g5⟩ := vec_get (G := G) hsC hlt'
    have hi63 : i < 9223372036854775807 := by omega
    have nr := fun fl A hs => near_ok (G := G) (fl := fl) (A := A) (v := .slice (some aa) a.length c1) (p := pget b i) hG hs za (zb.at hlt') (by omega) (by omega) (by omega)
    have mn := fun fl A => qmin (G := G) (fl := fl) (A := A) hG ((rz_sq2 za zb (by omega) (by omega)) i (by omega)) (rz_near (zb.at hlt') za (by omega) _ (Nat.le_refl _)) (by omega)
    have en : rmin ((sq2 a b) i) (near (pget b i) a a.length) = (sq2 a b) (i + 1) := rfl
    rw [en] at mn
    have xo : ∀ b1 b2, Xt A.next A ((C.push b1).put C.next b2) := fun b1 b2 => (hx.push _).put hx.next _
    simp only [prV_def] at nr
    simp only [ratV_def] at nr mn
    simp only [↓R1, R2, R3, R4, TY, reduceIte, Nat.reduceEqDiff, Nat.reduceAdd, Nat.reduceMul, Nat.reduceLT, Nat.reduceLeDiff, reduceCtorEq, decide_true, decide_false, Int.reduceLE, Int.reduceLT, Int.reduceToNat, Int.reduceAdd, Int.reduceSub, Int.reduceMul, Int.reduceEq, q0, q1, q4, q8, qs, ql, qi, hlt, g0, g1, g2, g3, g4, g5, hac, hac1, nec, hn, hn0, hn3, ne0, ne1, ne3, ne4, gN, hflC, NE]
    refine call_of (nr _ _ (ha.xt hA (xo _ _))) ?_
    simp only [↓R1, R2, R3, R4, TY, reduceIte, Nat.reduceEqDiff, Nat.reduceAdd, Nat.reduceMul, Nat.reduceLT, Nat.reduceLeDiff, reduceCtorEq, decide_true, decide_false, Int.reduceLE, Int.reduceLT, Int.reduceToNat, Int.reduceAdd, Int.reduceSub, Int.reduceMul, Int.reduceEq, q0, q1, q4, q8, qs, ql, qi, hflC, gN, hn, hn0, hn3, ne0, ne1, ne3, ne4, hC1, hfl, hfl1, hfl2, hfl3, hfl4, hfl5, hfl6, NE, NE9, Nat.add_assoc]
    refine call_of (mn _ _) ?_
    simp only [↓R1, R2, R3, R4, TY, reduceIte, Nat.reduceEqDiff, Nat.reduceAdd, Nat.reduceMul, Nat.reduceLT, Nat.reduceLeDiff, reduceCtorEq, decide_true, decide_false, Int.reduceLE, Int.reduceLT, Int.reduceToNat, Int.reduceAdd, Int.reduceSub, Int.reduceMul, Int.reduceEq, q0, q1, q4, q8, qs, ql, qi, hflC, gN, hn, hn0, hn3, ne0, ne1, ne3, ne4, hC1, hfl, hfl1, hfl2, hfl3, hfl4, hfl5, hfl6, NE, NE9, Nat.add_assoc]
    rw [floOf_wr (by kernel_rfl)]
    simp only [↓R1, R2, R3, R4, TY, reduceIte, Nat.reduceEqDiff, Nat.reduceAdd, Nat.reduceMul, Nat.reduceLT, Nat.reduceLeDiff, reduceCtorEq, decide_true, decide_false, Int.reduceLE, Int.reduceLT, Int.reduceToNat, Int.reduceAdd, Int.reduceSub, Int.reduceMul, Int.reduceEq, q0, q1, q4, q8, qs, ql, qi, hflC, gN, hn, hn0, hn3, ne0, ne1, ne3, ne4, hC1, hi63, hfl, hfl1, hfl2, hfl3, hfl4, hfl5, hfl6, NE, NE9, Nat.add_assoc]
    refine range_on qi hlt' rfl ⟨?_, ?_, ?_, ?_, q0, q1, q4, q8, qs, ql, rfl⟩
    · simp (maxDischargeDepth := 20) only [xt_push, xt_put, hx, hx.next, Nat.le_refl, Nat.le_add_right]
    · simp only [Hp.put_next, Hp.push_next]; omega
    · simp only [Hp.put_blk, Hp.push_blk, ne0, ne4, if_false]; exact hC0
    · simp only [Hp.put_blk, if_true]
  have hlt' : i < a.length := by omega
  obtain ⟨ad, hae, -⟩ := ha.at (G := G) (i := i) (by simpa using hlt')
  cases hae
  have hsC := ha.xt hA hx
  have hac : aa.block < C.next := Nat.lt_of_lt_of_le (ha.lt hA) hx.next
  have hac1 : aa.block < C.next + 1 := Nat.lt_succ_of_lt hac
  have nec : (aa.block = C.next) = False := eq_false (by omega)
  obtain ⟨g0, g1, g2, g3, g4, g5⟩ := vec_get (G := G) hsC hlt'
  have hi63 : i < 9223372036854775807 := by omega
  have nr := fun fl A hs => near_ok (G := G) (fl := fl) (A := A) (v := .slice ob b.length c2) (p := pget a i) hG hs zb (za.at hlt') (by omega) (by omega) (by omega)
  have mn := fun fl A => qmin (G := G) (fl := fl) (A := A) hG ((rz_sq1 za zb (by omega) (by omega)) i (by omega)) (rz_near (za.at hlt') zb (by omega) _ (Nat.le_refl _)) (by omega)
  have en : rmin ((sq1 a b) i) (near (pget a i) b b.length) = (sq1 a b) (i + 1) := rfl
  rw [en] at mn
  have xo : ∀ b1 b2, Xt A.next A ((C.push b1).put C.next b2) := fun b1 b2 => (hx.push _).put hx.next _
  simp only [prV_def] at nr
  simp only [ratV_def] at nr mn
  simp only [↓R1, R2, R3, R4, TY, reduceIte, Nat.reduceEqDiff, Nat.reduceAdd, Nat.reduceMul, Nat.reduceLT, Nat.reduceLeDiff, reduceCtorEq, decide_true, decide_false, Int.reduceLE, Int.reduceLT, Int.reduceToNat, Int.reduceAdd, Int.reduceSub, Int.reduceMul, Int.reduceEq, q0, q1, q4, q8, qs, ql, qi, hlt, g0, g1, g2, g3, g4, g5, hac, hac1, nec, hn, hn0, hn3, ne0, ne1, ne3, ne4, gN, hflC, NE]
  refine call_of (nr _ _ (hb.xt hA (xo _ _))) ?_
  simp only [↓R1, R2, R3, R4, TY, reduceIte, Nat.reduceEqDiff, Nat.reduceAdd, Nat.reduceMul, Nat.reduceLT, Nat.reduceLeDiff, reduceCtorEq, decide_true, decide_false, Int.reduceLE, Int.reduceLT, Int.reduceToNat, Int.reduceAdd, Int.reduceSub, Int.reduceMul, Int.reduceEq, q0, q1, q4, q8, qs, ql, qi, hflC, gN, hn, hn0, hn3, ne0, ne1, ne3, ne4, hC1, hfl, hfl1, hfl2, hfl3, hfl4, hfl5, hfl6, NE, NE9, Nat.add_assoc]
  refine call_of (mn _ _) ?_
  simp only [↓R1, R2, R3, R4, TY, reduceIte, Nat.reduceEqDiff, Nat.reduceAdd, Nat.reduceMul, Nat.reduceLT, Nat.reduceLeDiff, reduceCtorEq, decide_true, decide_false, Int.reduceLE, Int.reduceLT, Int.reduceToNat, Int.reduceAdd, Int.reduceSub, Int.reduceMul, Int.reduceEq, q0, q1, q4, q8, qs, ql, qi, hflC, gN, hn, hn0, hn3, ne0, ne1, ne3, ne4, hC1, hfl, hfl1, hfl2, hfl3, hfl4, hfl5, hfl6, NE, NE9, Nat.add_assoc]
  rw [floOf_wr (by kernel_rfl)]
  simp only [↓R1, R2, R3, R4, TY, reduceIte, Nat.reduceEqDiff, Nat.reduceAdd, Nat.reduceMul, Nat.reduceLT, Nat.reduceLeDiff, reduceCtorEq, decide_true, decide_false, Int.reduceLE, Int.reduceLT, Int.reduceToNat, Int.reduceAdd, Int.reduceSub, Int.reduceMul, Int.reduceEq, q0, q1, q4, q8, qs, ql, qi, hflC, gN, hn, hn0, hn3, ne0, ne1, ne3, ne4, hC1, hi63, hfl, hfl1, hfl2, hfl3, hfl4, hfl5, hfl6, NE, NE9, Nat.add_assoc]
  refine range_on qi hlt' rfl ⟨?_, ?_, ?_, ?_, q0, q1, q4, q8, qs, ql, rfl⟩
  · simp (maxDischargeDepth := 20) only [xt_push, xt_put, hx, hx.next, Nat.le_refl, Nat.le_add_right]
  · simp only [Hp.put_next, Hp.push_next]; omega
  · simp only [Hp.put_blk, Hp.push_blk, ne0, ne4, if_false]; exact hC0
  · simp only [Hp.put_blk, if_true]

theorem sq_ok {va vb : Value} {a b : List V2} {k : Nat} (hG : G 1 = some tabV) (ha : Sl A 6 va (a.map vC)) (hb : Sl A 6 vb (b.map vC)) (za : Lz a k) (zb : Lz b k) (hk : k ≤ 500) (ca : pchk a 64 = 0) (cb : pchk b 64 = 0) :
    Sound Tryz.prog G 34 [va, vb] fl A (.tuple [ratV (sqv a b), .int .i64 0].toArray) A := by
  cases hm : meetB a b with
  | true => exact sq_meet hG ha hb za zb hk ca cb hm
  | false => exact sq_no hG ha hb za zb hk ca cb hm

end
end Go.Proofs.YthclikeipdplpaaGreatDoor.Ab

/- Distances of polygons: plain facts. -/
namespace Go.Proofs.YthclikeipdplpaaGreatDoor.Ab
open Go.RowKit
set_option linter.unusedVariables false
set_option linter.unusedSimpArgs false
set_option maxRecDepth 100000

/-! frames -/
/-! polygons that do not meet are apart -/
end Go.Proofs.YthclikeipdplpaaGreatDoor.Ab

/- The fact about package apart. -/
namespace Go.Proofs.YthclikeipdplpaaGreatDoor.Ab
open Go.RowKit
set_option linter.unusedVariables false
set_option linter.unusedSimpArgs false
set_option maxRecDepth 100000

theorem cells_func {f : Fn} {a b : Array Value} : (Value.func f a b).cells = [Value.func f a b].toArray := (rfl)
theorem sqr_apart : sqv (sqr 0 0 1 1) (sqr 4 5 5 6) = rOf 25 := by decide +kernel
theorem sqr_c1 : pchk (sqr 0 0 1 1) 64 = 0 := by decide +kernel
theorem sqr_c2 : pchk (sqr 4 5 5 6) 64 = 0 := by decide +kernel

section
variable {G : Gl} {fl : Nat} {A : Hp}

theorem abAt {x y : Int} (h1 : -1000 ≤ x) (h2 : x ≤ 1000) (h3 : -1000 ≤ y) (h4 : y ≤ 1000) : Sound Tryz.prog G 31 [.int .i64 x, .int .i64 y] fl A (prV (rOf x) (rOf y)) A := by
  refine Sound.of mixed Tryz.func31 Tryz.ntmps31 Tryz.results31 (by kernel_rfl) rfl (by kernel_rfl) (by simp) fun hA => ?_
  have hfl := hA.floor
  have o1 := fun fl A => rof_ok (G := G) (fl := fl) (A := A) (n := x) (by omega) (by omega)
  have o2 := fun fl A => rof_ok (G := G) (fl := fl) (A := A) (n := y) (by omega) (by omega)
  have hrb := prV_rb A.next (rOf x) (rOf y)
  generalize rOf x = p at *
  generalize rOf y = q at *
  simp only [prV_def] at hrb ⊢
  simp only [ratV_def] at o1 o2
  simp only [↓R1, R2, R3, R4, TY, reduceIte, Nat.reduceEqDiff, Nat.reduceAdd, Nat.reduceMul, Nat.reduceLT, Nat.reduceLeDiff, reduceCtorEq, decide_true, decide_false, Int.reduceLE, Int.reduceLT, Int.reduceToNat, Int.reduceAdd, Int.reduceSub, Int.reduceMul, Int.reduceEq, hfl, NE, NE9, Nat.add_assoc]
  refine call_of (o1 _ _) ?_
  simp only [↓R1, R2, R3, R4, TY, reduceIte, Nat.reduceEqDiff, Nat.reduceAdd, Nat.reduceMul, Nat.reduceLT, Nat.reduceLeDiff, reduceCtorEq, decide_true, decide_false, Int.reduceLE, Int.reduceLT, Int.reduceToNat, Int.reduceAdd, Int.reduceSub, Int.reduceMul, Int.reduceEq, hfl, NE, NE9, Nat.add_assoc]
  refine call_of (o2 _ _) ?_
  simp only [↓R1, R2, R3, R4, TY, reduceIte, Nat.reduceEqDiff, Nat.reduceAdd, Nat.reduceMul, Nat.reduceLT, Nat.reduceLeDiff, reduceCtorEq, decide_true, decide_false, Int.reduceLE, Int.reduceLT, Int.reduceToNat, Int.reduceAdd, Int.reduceSub, Int.reduceMul, Int.reduceEq, hfl, NE, NE9, Nat.add_assoc]
  refine Ended.back hA ?_ rfl hrb
  simp (maxDischargeDepth := 20) only [xt_push, xt_put, xt_refl, Nat.le_refl, Nat.le_add_right, Nat.add_assoc, Nat.reduceAdd]

set_option maxHeartbeats 4000000 in
theorem abSq {x y : Int} {id : Nat} (h1 : -900 ≤ x) (h2 : x ≤ 900) (h3 : -900 ≤ y) (h4 : y ≤ 900) (hb : A.blk id = some (.row [.func (.func 31) #[] #[]] 0 1)) :
    Sound Tryz.prog G 33 [.int .i64 x, .int .i64 y, .pointer (some ⟨id, 0, some 0⟩)] fl A (.slice (some ⟨A.next, 0, some 0⟩) 4 4) (A.push (.row ((sqr x y (x + 1) (y + 1)).map vC).flatten 0 6)) := by
  have g0 : A.get G ⟨id, 0, some 0⟩ = some (.func (.func 31) #[] #[]) := by simp [Hp.get, hb]
  have a1 := fun fl A => abAt (G := G) (fl := fl) (A := A) (x := x) (y := y) (by omega) (by omega) (by omega) (by omega)
  have a2 := fun fl A => abAt (G := G) (fl := fl) (A := A) (x := x + 1) (y := y) (by omega) (by omega) (by omega) (by omega)
  have a3 := fun fl A => abAt (G := G) (fl := fl) (A := A) (x := x + 1) (y := y + 1) (by omega) (by omega) (by omega) (by omega)
  have a4 := fun fl A => abAt (G := G) (fl := fl) (A := A) (x := x) (y := y + 1) (by omega) (by omega) (by omega) (by omega)
  have w1 : IntKind.i64.wrap (x + 1) = x + 1 := wrapI (by omega)
  have w2 : IntKind.i64.wrap (y + 1) = y + 1 := wrapI (by omega)
  have zz : zl [Value.bool false, .string { data := #[] }, .string { data := #[] }, .bool false, .string { data := #[] }, .string { data := #[] }] 24 = [Value.bool false, .string { data := #[] }, .string { data := #[] }, .bool false, .string { data := #[] }, .string { data := #[] }, Value.bool false, .string { data := #[] }, .string { data := #[] }, .bool false, .string { data := #[] }, .string { data := #[] }, Value.bool false, .string { data := #[] }, .string { data := #[] }, .bool false, .string { data := #[] }, .string { data := #[] }, Value.bool false, .string { data := #[] }, .string { data := #[] }, .bool false, .string { data := #[] }, .string { data := #[] }] := rfl
  have er : ((sqr x y (x + 1) (y + 1)).map vC).flatten = vC (rOf x, rOf y) ++ vC (rOf (x + 1), rOf y) ++ vC (rOf (x + 1), rOf (y + 1)) ++ vC (rOf x, rOf (y + 1)) := by simp [sqr]
  rw [er]
  generalize rOf x = u1 at *
  generalize rOf y = u2 at *
  generalize rOf (x + 1) = u3 at *
  generalize rOf (y + 1) = u4 at *
  simp only [prV_def] at a1 a2 a3 a4
  simp only [vC_def, List.cons_append, List.nil_append]
  refine Sound.of mixed Tryz.func33 Tryz.ntmps33 Tryz.results33 (by kernel_rfl) rfl (by kernel_rfl) (by simp) fun hA => ?_
  have hfl : fl ≤ A.next := by have := hA.floor; omega
  have hfl1 : fl ≤ A.next + 1 := by have := hA.floor; omega
  have hfl2 : fl ≤ A.next + 2 := by have := hA.floor; omega
  have hfl3 : fl ≤ A.next + 3 := by have := hA.floor; omega
  have hfl4 : fl ≤ A.next + 4 := by have := hA.floor; omega
  have hfl5 : fl ≤ A.next + 5 := by have := hA.floor; omega
  have hfl6 : fl ≤ A.next + 6 := by have := hA.floor; omega
  simp only [↓R1, R2, R3, R4, TY, reduceIte, Nat.reduceEqDiff, Nat.reduceAdd, Nat.reduceMul, Nat.reduceLT, Nat.reduceLeDiff, reduceCtorEq, decide_true, decide_false, Int.reduceLE, Int.reduceLT, Int.reduceToNat, Int.reduceAdd, Int.reduceSub, Int.reduceMul, Int.reduceEq, hfl, hfl1, hfl2, hfl3, hfl4, hfl5, hfl6, NE, NE9, Nat.add_assoc, zz, g0, w1, w2]
  refine call_of (a1 _ _) ?_
  simp only [↓R1, R2, R3, R4, TY, reduceIte, Nat.reduceEqDiff, Nat.reduceAdd, Nat.reduceMul, Nat.reduceLT, Nat.reduceLeDiff, reduceCtorEq, decide_true, decide_false, Int.reduceLE, Int.reduceLT, Int.reduceToNat, Int.reduceAdd, Int.reduceSub, Int.reduceMul, Int.reduceEq, hfl, hfl1, hfl2, hfl3, hfl4, hfl5, hfl6, NE, NE9, Nat.add_assoc, zz, g0, w1, w2]
  refine call_of (a2 _ _) ?_
  simp only [↓R1, R2, R3, R4, TY, reduceIte, Nat.reduceEqDiff, Nat.reduceAdd, Nat.reduceMul, Nat.reduceLT, Nat.reduceLeDiff, reduceCtorEq, decide_true, decide_false, Int.reduceLE, Int.reduceLT, Int.reduceToNat, Int.reduceAdd, Int.reduceSub, Int.reduceMul, Int.reduceEq, hfl, hfl1, hfl2, hfl3, hfl4, hfl5, hfl6, NE, NE9, Nat.add_assoc, zz, g0, w1, w2]
  refine call_of (a3 _ _) ?_
  simp only [↓R1, R2, R3, R4, TY, reduceIte, Nat.reduceEqDiff, Nat.reduceAdd, Nat.reduceMul, Nat.reduceLT, Nat.reduceLeDiff, reduceCtorEq, decide_true, decide_false, Int.reduceLE, Int.reduceLT, Int.reduceToNat, Int.reduceAdd, Int.reduceSub, Int.reduceMul, Int.reduceEq, hfl, hfl1, hfl2, hfl3, hfl4, hfl5, hfl6, NE, NE9, Nat.add_assoc, zz, g0, w1, w2]
  refine call_of (a4 _ _) ?_
  simp only [↓R1, R2, R3, R4, TY, reduceIte, Nat.reduceEqDiff, Nat.reduceAdd, Nat.reduceMul, Nat.reduceLT, Nat.reduceLeDiff, reduceCtorEq, decide_true, decide_false, Int.reduceLE, Int.reduceLT, Int.reduceToNat, Int.reduceAdd, Int.reduceSub, Int.reduceMul, Int.reduceEq, hfl, hfl1, hfl2, hfl3, hfl4, hfl5, hfl6, NE, NE9, Nat.add_assoc, zz, g0, w1, w2]
  refine Ended.one (id := A.next) hA ((Xt.refl A).push _) (Nat.le_refl _) (push_at rfl) (Nat.le_refl _) fun u hu => ?_
  simp only [List.mem_cons, List.not_mem_nil, or_false] at hu
  rcases hu with rfl | rfl | rfl | rfl | rfl | rfl | rfl | rfl | rfl | rfl | rfl | rfl | rfl | rfl | rfl | rfl | rfl | rfl | rfl | rfl | rfl | rfl | rfl | rfl <;> exact RB.zc rfl

set_option maxHeartbeats 8000000 in
theorem apartBegun_ok (hG : G 1 = some tabV) : Sound Tryz.prog G 7 [] fl A (.bool true) A := by
  refine Sound.of mixed Tryz.func7 Tryz.ntmps7 Tryz.results7 (by kernel_rfl) rfl (by kernel_rfl) (by simp) fun hA => ?_
  have hfl : fl ≤ A.next := by have := hA.floor; omega
  have hfl1 : fl ≤ A.next + 1 := by have := hA.floor; omega
  have hfl2 : fl ≤ A.next + 2 := by have := hA.floor; omega
  have hfl3 : fl ≤ A.next + 3 := by have := hA.floor; omega
  have hfl4 : fl ≤ A.next + 4 := by have := hA.floor; omega
  have hfl5 : fl ≤ A.next + 5 := by have := hA.floor; omega
  have hfl6 : fl ≤ A.next + 6 := by have := hA.floor; omega
  have bg := fun fl A => polyBegun_ok (G := G) (fl := fl) (A := A) hG
  have s1 := fun fl A id hb => abSq (G := G) (fl := fl) (A := A) (x := 0) (y := 0) (id := id) (by omega) (by omega) (by omega) (by omega) hb
  have s2 := fun fl A id hb => abSq (G := G) (fl := fl) (A := A) (x := 4) (y := 5) (id := id) (by omega) (by omega) (by omega) (by omega) hb
  have z1 := sqr_z (x := 0) (y := 0) (u := 1) (v := 1) (by decide) (by decide) (by decide) (by decide)
  have z2 := sqr_z (x := 4) (y := 5) (u := 5) (v := 6) (by decide) (by decide) (by decide) (by decide)
  have sq := fun fl (A : Hp) va vb ha hb => sq_ok (G := G) (fl := fl) (A := A) (va := va) (vb := vb) hG ha hb z1 z2 (by decide) sqr_c1 sqr_c2
  have w25 := fun fl A => rof_ok (G := G) (fl := fl) (A := A) (n := 25) (by decide) (by decide)
  have hd := eqD_rat (rOf 25) (rOf 25)
  rw [decide_eq_true rfl] at hd
  rw [sqr_apart] at sq
  have l1 : (sqr 0 0 1 1).length = 4 := rfl
  have l2 : (sqr 4 5 5 6).length = 4 := rfl
  have sa := fun (B : Hp) id => sl_at (B := B) (id := id) (l := sqr 0 0 1 1)
  have sb := fun (B : Hp) id => sl_at (B := B) (id := id) (l := sqr 4 5 5 6)
  rw [l1] at sa
  rw [l2] at sb
  simp only [Int.reduceAdd] at s1 s2
  generalize sqr 0 0 1 1 = Q1 at *
  generalize sqr 4 5 5 6 = Q2 at *
  generalize rOf 25 = u25 at *
  simp only [ratV_def] at sq w25 hd
  simp only [↓R1, R2, R3, R4, TY, reduceIte, Nat.reduceEqDiff, Nat.reduceAdd, Nat.reduceMul, Nat.reduceLT, Nat.reduceLeDiff, reduceCtorEq, decide_true, decide_false, Int.reduceLE, Int.reduceLT, Int.reduceToNat, Int.reduceAdd, Int.reduceSub, Int.reduceMul, Int.reduceEq, hfl, hfl1, hfl2, hfl3, hfl4, hfl5, hfl6, NE, NE9, Nat.add_assoc, cells_func]
  refine call_of (s1 _ _ _ ?_) ?_
  · simp only [Hp.put_blk, if_true]
  simp only [↓R1, R2, R3, R4, TY, reduceIte, Nat.reduceEqDiff, Nat.reduceAdd, Nat.reduceMul, Nat.reduceLT, Nat.reduceLeDiff, reduceCtorEq, decide_true, decide_false, Int.reduceLE, Int.reduceLT, Int.reduceToNat, Int.reduceAdd, Int.reduceSub, Int.reduceMul, Int.reduceEq, hfl, hfl1, hfl2, hfl3, hfl4, hfl5, hfl6, NE, NE9, Nat.add_assoc]
  refine call_of (s2 _ _ _ ?_) ?_
  · have f1 : (A.next = A.next + 1) = False := eq_false (by omega)
    simp only [Hp.put_blk, Hp.push_blk, Hp.put_next, Hp.push_next, f1, if_false, if_true]
  simp only [↓R1, R2, R3, R4, TY, reduceIte, Nat.reduceEqDiff, Nat.reduceAdd, Nat.reduceMul, Nat.reduceLT, Nat.reduceLeDiff, reduceCtorEq, decide_true, decide_false, Int.reduceLE, Int.reduceLT, Int.reduceToNat, Int.reduceAdd, Int.reduceSub, Int.reduceMul, Int.reduceEq, hfl, hfl1, hfl2, hfl3, hfl4, hfl5, hfl6, NE, NE9, Nat.add_assoc]
  refine call_of (sq _ _ _ _ (sa _ _ ?_) (sb _ _ ?_)) ?_
  · have f1 : (A.next + 1 = A.next + 1 + 1) = False := eq_false (by omega)
    simp only [Hp.put_blk, Hp.push_blk, Hp.put_next, Hp.push_next, f1, if_false, if_true]
  · exact push_at rfl
  simp only [↓R1, R2, R3, R4, TY, reduceIte, Nat.reduceEqDiff, Nat.reduceAdd, Nat.reduceMul, Nat.reduceLT, Nat.reduceLeDiff, reduceCtorEq, decide_true, decide_false, Int.reduceLE, Int.reduceLT, Int.reduceToNat, Int.reduceAdd, Int.reduceSub, Int.reduceMul, Int.reduceEq, hfl, hfl1, hfl2, hfl3, hfl4, hfl5, hfl6, NE, NE9, Nat.add_assoc]
  refine call_of (bg _ _) ?_
  simp only [↓R1, R2, R3, R4, TY, reduceIte, Nat.reduceEqDiff, Nat.reduceAdd, Nat.reduceMul, Nat.reduceLT, Nat.reduceLeDiff, reduceCtorEq, decide_true, decide_false, Int.reduceLE, Int.reduceLT, Int.reduceToNat, Int.reduceAdd, Int.reduceSub, Int.reduceMul, Int.reduceEq, hfl, hfl1, hfl2, hfl3, hfl4, hfl5, hfl6, NE, NE9, Nat.add_assoc]
  refine call_of (w25 _ _) ?_
  simp only [↓R1, R2, R3, R4, TY, reduceIte, Nat.reduceEqDiff, Nat.reduceAdd, Nat.reduceMul, Nat.reduceLT, Nat.reduceLeDiff, reduceCtorEq, decide_true, decide_false, Int.reduceLE, Int.reduceLT, Int.reduceToNat, Int.reduceAdd, Int.reduceSub, Int.reduceMul, Int.reduceEq, hfl, hfl1, hfl2, hfl3, hfl4, hfl5, hfl6, NE, NE9, Nat.add_assoc, hd, guard_rat]
  refine Ended.back hA ?_ rfl (RB.bool _)
  simp (maxDischargeDepth := 20) only [xt_push, xt_put, xt_refl, Nat.le_refl, Nat.le_add_right, Nat.add_assoc, Nat.reduceAdd]

end
end Go.Proofs.YthclikeipdplpaaGreatDoor.Ab
