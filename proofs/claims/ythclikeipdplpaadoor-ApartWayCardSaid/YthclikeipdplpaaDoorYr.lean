/- The fact about package apart. -/
import Derived.Test.YthclikeipdplpaaDoorYq
namespace Go.Proofs.YthclikeipdplpaaDoor.Ab
open Go.RowKit
set_option linter.unusedVariables false
set_option linter.unusedSimpArgs false
set_option maxRecDepth 100000

theorem cells_func {f : Fn} {a b : Array Value} : (Value.func f a b).cells = [Value.func f a b].toArray := (rfl)
theorem sqr_apart : sqv (sqr 0 0 1 1) (sqr 4 5 5 6) = rOf 25 := by decide +kernel
theorem sqr_c1 : pchk (sqr 0 0 1 1) 64 = 0 := by decide +kernel
theorem sqr_c2 : pchk (sqr 4 5 5 6) 64 = 0 := by decide +kernel

section
variable {G : Gl} {fl : Nat} {A : Hp}

theorem abAt {x y : Int} (h1 : -1000 ≤ x) (h2 : x ≤ 1000) (h3 : -1000 ≤ y) (h4 : y ≤ 1000) : Sound Tryd.prog G 62 [.int .i64 x, .int .i64 y] fl A (prV (rOf x) (rOf y)) A := by
  refine Sound.of mixed Tryd.func62 Tryd.ntmps62 Tryd.results62 (by kernel_rfl) rfl (by kernel_rfl) (by simp) fun hA => ?_
  have hfl := hA.floor
  have o1 := fun fl A => rof_ok (G := G) (fl := fl) (A := A) (n := x) (by omega) (by omega)
  have o2 := fun fl A => rof_ok (G := G) (fl := fl) (A := A) (n := y) (by omega) (by omega)
  have hrb := prV_rb A.next (rOf x) (rOf y)
  generalize rOf x = p at *
  generalize rOf y = q at *
  simp only [prV_def] at hrb ⊢
  simp only [ratV_def] at o1 o2
  simp only [↓R1, R2, R3, R4, TY, reduceIte, Nat.reduceEqDiff, Nat.reduceAdd, Nat.reduceMul, Nat.reduceLT, Nat.reduceLeDiff, reduceCtorEq, decide_true, decide_false, Int.reduceLE, Int.reduceLT, Int.reduceToNat, Int.reduceAdd, Int.reduceSub, Int.reduceMul, Int.reduceEq, hfl, NE, NE9, Nat.add_assoc]
  refine call_of (o1 _ _) ?_
  simp only [↓R1, R2, R3, R4, TY, reduceIte, Nat.reduceEqDiff, Nat.reduceAdd, Nat.reduceMul, Nat.reduceLT, Nat.reduceLeDiff, reduceCtorEq, decide_true, decide_false, Int.reduceLE, Int.reduceLT, Int.reduceToNat, Int.reduceAdd, Int.reduceSub, Int.reduceMul, Int.reduceEq, hfl, NE, NE9, Nat.add_assoc]
  refine call_of (o2 _ _) ?_
  simp only [↓R1, R2, R3, R4, TY, reduceIte, Nat.reduceEqDiff, Nat.reduceAdd, Nat.reduceMul, Nat.reduceLT, Nat.reduceLeDiff, reduceCtorEq, decide_true, decide_false, Int.reduceLE, Int.reduceLT, Int.reduceToNat, Int.reduceAdd, Int.reduceSub, Int.reduceMul, Int.reduceEq, hfl, NE, NE9, Nat.add_assoc]
  refine Ended.back hA ?_ rfl hrb
  simp (maxDischargeDepth := 20) only [xt_push, xt_put, xt_refl, Nat.le_refl, Nat.le_add_right, Nat.add_assoc, Nat.reduceAdd]

set_option maxHeartbeats 4000000 in
theorem abSq {x y : Int} {id : Nat} (h1 : -900 ≤ x) (h2 : x ≤ 900) (h3 : -900 ≤ y) (h4 : y ≤ 900) (hb : A.blk id = some (.row [.func (.func 62) #[] #[]] 0 1)) :
    Sound Tryd.prog G 63 [.int .i64 x, .int .i64 y, .pointer (some ⟨id, 0, some 0⟩)] fl A (.slice (some ⟨A.next, 0, some 0⟩) 4 4) (A.push (.row ((sqr x y (x + 1) (y + 1)).map vC).flatten 0 6)) := by
  have g0 : A.get G ⟨id, 0, some 0⟩ = some (.func (.func 62) #[] #[]) := by simp [Hp.get, hb]
  have a1 := fun fl A => abAt (G := G) (fl := fl) (A := A) (x := x) (y := y) (by omega) (by omega) (by omega) (by omega)
  have a2 := fun fl A => abAt (G := G) (fl := fl) (A := A) (x := x + 1) (y := y) (by omega) (by omega) (by omega) (by omega)
  have a3 := fun fl A => abAt (G := G) (fl := fl) (A := A) (x := x + 1) (y := y + 1) (by omega) (by omega) (by omega) (by omega)
  have a4 := fun fl A => abAt (G := G) (fl := fl) (A := A) (x := x) (y := y + 1) (by omega) (by omega) (by omega) (by omega)
  have w1 : IntKind.i64.wrap (x + 1) = x + 1 := wrapI (by omega)
  have w2 : IntKind.i64.wrap (y + 1) = y + 1 := wrapI (by omega)
  have zz : zl [Value.bool false, .string { data := #[] }, .string { data := #[] }, .bool false, .string { data := #[] }, .string { data := #[] }] 24 = [Value.bool false, .string { data := #[] }, .string { data := #[] }, .bool false, .string { data := #[] }, .string { data := #[] }, Value.bool false, .string { data := #[] }, .string { data := #[] }, .bool false, .string { data := #[] }, .string { data := #[] }, Value.bool false, .string { data := #[] }, .string { data := #[] }, .bool false, .string { data := #[] }, .string { data := #[] }, Value.bool false, .string { data := #[] }, .string { data := #[] }, .bool false, .string { data := #[] }, .string { data := #[] }] := rfl
  have er : ((sqr x y (x + 1) (y + 1)).map vC).flatten = vC (rOf x, rOf y) ++ vC (rOf (x + 1), rOf y) ++ vC (rOf (x + 1), rOf (y + 1)) ++ vC (rOf x, rOf (y + 1)) := by simp [sqr]
  rw [er]
  generalize rOf x = u1 at *
  generalize rOf y = u2 at *
  generalize rOf (x + 1) = u3 at *
  generalize rOf (y + 1) = u4 at *
  simp only [prV_def] at a1 a2 a3 a4
  simp only [vC_def, List.cons_append, List.nil_append]
  refine Sound.of mixed Tryd.func63 Tryd.ntmps63 Tryd.results63 (by kernel_rfl) rfl (by kernel_rfl) (by simp) fun hA => ?_
  have hfl : fl ≤ A.next := by have := hA.floor; omega
  have hfl1 : fl ≤ A.next + 1 := by have := hA.floor; omega
  have hfl2 : fl ≤ A.next + 2 := by have := hA.floor; omega
  have hfl3 : fl ≤ A.next + 3 := by have := hA.floor; omega
  have hfl4 : fl ≤ A.next + 4 := by have := hA.floor; omega
  have hfl5 : fl ≤ A.next + 5 := by have := hA.floor; omega
  have hfl6 : fl ≤ A.next + 6 := by have := hA.floor; omega
  simp only [↓R1, R2, R3, R4, TY, reduceIte, Nat.reduceEqDiff, Nat.reduceAdd, Nat.reduceMul, Nat.reduceLT, Nat.reduceLeDiff, reduceCtorEq, decide_true, decide_false, Int.reduceLE, Int.reduceLT, Int.reduceToNat, Int.reduceAdd, Int.reduceSub, Int.reduceMul, Int.reduceEq, hfl, hfl1, hfl2, hfl3, hfl4, hfl5, hfl6, NE, NE9, Nat.add_assoc, zz, g0, w1, w2]
  refine call_of (a1 _ _) ?_
  simp only [↓R1, R2, R3, R4, TY, reduceIte, Nat.reduceEqDiff, Nat.reduceAdd, Nat.reduceMul, Nat.reduceLT, Nat.reduceLeDiff, reduceCtorEq, decide_true, decide_false, Int.reduceLE, Int.reduceLT, Int.reduceToNat, Int.reduceAdd, Int.reduceSub, Int.reduceMul, Int.reduceEq, hfl, hfl1, hfl2, hfl3, hfl4, hfl5, hfl6, NE, NE9, Nat.add_assoc, zz, g0, w1, w2]
  refine call_of (a2 _ _) ?_
  simp only [↓R1, R2, R3, R4, TY, reduceIte, Nat.reduceEqDiff, Nat.reduceAdd, Nat.reduceMul, Nat.reduceLT, Nat.reduceLeDiff, reduceCtorEq, decide_true, decide_false, Int.reduceLE, Int.reduceLT, Int.reduceToNat, Int.reduceAdd, Int.reduceSub, Int.reduceMul, Int.reduceEq, hfl, hfl1, hfl2, hfl3, hfl4, hfl5, hfl6, NE, NE9, Nat.add_assoc, zz, g0, w1, w2]
  refine call_of (a3 _ _) ?_
  simp only [↓R1, R2, R3, R4, TY, reduceIte, Nat.reduceEqDiff, Nat.reduceAdd, Nat.reduceMul, Nat.reduceLT, Nat.reduceLeDiff, reduceCtorEq, decide_true, decide_false, Int.reduceLE, Int.reduceLT, Int.reduceToNat, Int.reduceAdd, Int.reduceSub, Int.reduceMul, Int.reduceEq, hfl, hfl1, hfl2, hfl3, hfl4, hfl5, hfl6, NE, NE9, Nat.add_assoc, zz, g0, w1, w2]
  refine call_of (a4 _ _) ?_
  simp only [↓R1, R2, R3, R4, TY, reduceIte, Nat.reduceEqDiff, Nat.reduceAdd, Nat.reduceMul, Nat.reduceLT, Nat.reduceLeDiff, reduceCtorEq, decide_true, decide_false, Int.reduceLE, Int.reduceLT, Int.reduceToNat, Int.reduceAdd, Int.reduceSub, Int.reduceMul, Int.reduceEq, hfl, hfl1, hfl2, hfl3, hfl4, hfl5, hfl6, NE, NE9, Nat.add_assoc, zz, g0, w1, w2]
  refine Ended.one (id := A.next) hA ((Xt.refl A).push _) (Nat.le_refl _) (push_at rfl) (Nat.le_refl _) fun u hu => ?_
  simp only [List.mem_cons, List.not_mem_nil, or_false] at hu
  rcases hu with rfl | rfl | rfl | rfl | rfl | rfl | rfl | rfl | rfl | rfl | rfl | rfl | rfl | rfl | rfl | rfl | rfl | rfl | rfl | rfl | rfl | rfl | rfl | rfl <;> exact RB.zc rfl

set_option maxHeartbeats 8000000 in
theorem apartBegun_ok (hG : G 1 = some tabV) : Sound Tryd.prog G 28 [] fl A (.bool true) A := by
  refine Sound.of mixed Tryd.func28 Tryd.ntmps28 Tryd.results28 (by kernel_rfl) rfl (by kernel_rfl) (by simp) fun hA => ?_
  have hfl : fl ≤ A.next := by have := hA.floor; omega
  have hfl1 : fl ≤ A.next + 1 := by have := hA.floor; omega
  have hfl2 : fl ≤ A.next + 2 := by have := hA.floor; omega
  have hfl3 : fl ≤ A.next + 3 := by have := hA.floor; omega
  have hfl4 : fl ≤ A.next + 4 := by have := hA.floor; omega
  have hfl5 : fl ≤ A.next + 5 := by have := hA.floor; omega
  have hfl6 : fl ≤ A.next + 6 := by have := hA.floor; omega
  have bg := fun fl A => polyBegun_ok (G := G) (fl := fl) (A := A) hG
  have s1 := fun fl A id hb => abSq (G := G) (fl := fl) (A := A) (x := 0) (y := 0) (id := id) (by omega) (by omega) (by omega) (by omega) hb
  have s2 := fun fl A id hb => abSq (G := G) (fl := fl) (A := A) (x := 4) (y := 5) (id := id) (by omega) (by omega) (by omega) (by omega) hb
  have z1 := sqr_z (x := 0) (y := 0) (u := 1) (v := 1) (by decide) (by decide) (by decide) (by decide)
  have z2 := sqr_z (x := 4) (y := 5) (u := 5) (v := 6) (by decide) (by decide) (by decide) (by decide)
  have sq := fun fl (A : Hp) va vb ha hb => sq_ok (G := G) (fl := fl) (A := A) (va := va) (vb := vb) hG ha hb z1 z2 (by decide) sqr_c1 sqr_c2
  have w25 := fun fl A => rof_ok (G := G) (fl := fl) (A := A) (n := 25) (by decide) (by decide)
  have hd := eqD_rat (rOf 25) (rOf 25)
  rw [decide_eq_true rfl] at hd
  rw [sqr_apart] at sq
  have l1 : (sqr 0 0 1 1).length = 4 := rfl
  have l2 : (sqr 4 5 5 6).length = 4 := rfl
  have sa := fun (B : Hp) id => sl_at (B := B) (id := id) (l := sqr 0 0 1 1)
  have sb := fun (B : Hp) id => sl_at (B := B) (id := id) (l := sqr 4 5 5 6)
  rw [l1] at sa
  rw [l2] at sb
  simp only [Int.reduceAdd] at s1 s2
  generalize sqr 0 0 1 1 = Q1 at *
  generalize sqr 4 5 5 6 = Q2 at *
  generalize rOf 25 = u25 at *
  simp only [ratV_def] at sq w25 hd
  simp only [↓R1, R2, R3, R4, TY, reduceIte, Nat.reduceEqDiff, Nat.reduceAdd, Nat.reduceMul, Nat.reduceLT, Nat.reduceLeDiff, reduceCtorEq, decide_true, decide_false, Int.reduceLE, Int.reduceLT, Int.reduceToNat, Int.reduceAdd, Int.reduceSub, Int.reduceMul, Int.reduceEq, hfl, hfl1, hfl2, hfl3, hfl4, hfl5, hfl6, NE, NE9, Nat.add_assoc, cells_func]
  refine call_of (s1 _ _ _ ?_) ?_
  · simp only [Hp.put_blk, if_true]
  simp only [↓R1, R2, R3, R4, TY, reduceIte, Nat.reduceEqDiff, Nat.reduceAdd, Nat.reduceMul, Nat.reduceLT, Nat.reduceLeDiff, reduceCtorEq, decide_true, decide_false, Int.reduceLE, Int.reduceLT, Int.reduceToNat, Int.reduceAdd, Int.reduceSub, Int.reduceMul, Int.reduceEq, hfl, hfl1, hfl2, hfl3, hfl4, hfl5, hfl6, NE, NE9, Nat.add_assoc]
  refine call_of (s2 _ _ _ ?_) ?_
  · have f1 : (A.next = A.next + 1) = False := eq_false (by omega)
    simp only [Hp.put_blk, Hp.push_blk, Hp.put_next, Hp.push_next, f1, if_false, if_true]
  simp only [↓R1, R2, R3, R4, TY, reduceIte, Nat.reduceEqDiff, Nat.reduceAdd, Nat.reduceMul, Nat.reduceLT, Nat.reduceLeDiff, reduceCtorEq, decide_true, decide_false, Int.reduceLE, Int.reduceLT, Int.reduceToNat, Int.reduceAdd, Int.reduceSub, Int.reduceMul, Int.reduceEq, hfl, hfl1, hfl2, hfl3, hfl4, hfl5, hfl6, NE, NE9, Nat.add_assoc]
  refine call_of (sq _ _ _ _ (sa _ _ ?_) (sb _ _ ?_)) ?_
  · have f1 : (A.next + 1 = A.next + 1 + 1) = False := eq_false (by omega)
    simp only [Hp.put_blk, Hp.push_blk, Hp.put_next, Hp.push_next, f1, if_false, if_true]
  · exact push_at rfl
  simp only [↓R1, R2, R3, R4, TY, reduceIte, Nat.reduceEqDiff, Nat.reduceAdd, Nat.reduceMul, Nat.reduceLT, Nat.reduceLeDiff, reduceCtorEq, decide_true, decide_false, Int.reduceLE, Int.reduceLT, Int.reduceToNat, Int.reduceAdd, Int.reduceSub, Int.reduceMul, Int.reduceEq, hfl, hfl1, hfl2, hfl3, hfl4, hfl5, hfl6, NE, NE9, Nat.add_assoc]
  refine call_of (bg _ _) ?_
  simp only [↓R1, R2, R3, R4, TY, reduceIte, Nat.reduceEqDiff, Nat.reduceAdd, Nat.reduceMul, Nat.reduceLT, Nat.reduceLeDiff, reduceCtorEq, decide_true, decide_false, Int.reduceLE, Int.reduceLT, Int.reduceToNat, Int.reduceAdd, Int.reduceSub, Int.reduceMul, Int.reduceEq, hfl, hfl1, hfl2, hfl3, hfl4, hfl5, hfl6, NE, NE9, Nat.add_assoc]
  refine call_of (w25 _ _) ?_
  simp only [↓R1, R2, R3, R4, TY, reduceIte, Nat.reduceEqDiff, Nat.reduceAdd, Nat.reduceMul, Nat.reduceLT, Nat.reduceLeDiff, reduceCtorEq, decide_true, decide_false, Int.reduceLE, Int.reduceLT, Int.reduceToNat, Int.reduceAdd, Int.reduceSub, Int.reduceMul, Int.reduceEq, hfl, hfl1, hfl2, hfl3, hfl4, hfl5, hfl6, NE, NE9, Nat.add_assoc, hd, guard_rat]
  refine Ended.back hA ?_ rfl (RB.bool _)
  simp (maxDischargeDepth := 20) only [xt_push, xt_put, xt_refl, Nat.le_refl, Nat.le_add_right, Nat.add_assoc, Nat.reduceAdd]

end
end Go.Proofs.YthclikeipdplpaaDoor.Ab
