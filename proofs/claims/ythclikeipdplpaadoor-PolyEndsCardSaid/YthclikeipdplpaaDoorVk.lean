/- Frames: points of a list. -/
import Derived.Test.YthclikeipdplpaaDoorVj
namespace Go.Proofs.YthclikeipdplpaaDoor.Ab
open Go.RowKit
set_option linter.unusedVariables false
set_option linter.unusedSimpArgs false
set_option maxRecDepth 100000

def prC (p q : Rat) : List Value := [.bool (decide (p.num < 0)), .string (S (nb p.num.natAbs)), .string (S (nb p.den)), .bool (decide (q.num < 0)), .string (S (nb q.num.natAbs)), .string (S (nb q.den))]
def pr0 : List Value := [.bool false, .string (S []), .string (S []), .bool false, .string (S []), .string (S [])]

section
variable {G : Gl} {fl : Nat} {A : Hp}

set_option maxHeartbeats 4000000 in
theorem flist {x y a b c d : Rat} {o : Option Rat} {j k l id : Nat} (hG : G 1 = some tabV) (hx : Rz x j) (hy : Rz y j) (ho : Rz (o.getD 0) k) (ha : Rz a l) (hb : Rz b l) (hc : Rz c l) (hd : Rz d l) (hk : j + 2 * l + 8 * k ≤ 8000) (hid : id < A.next) (hbk : A.blk id = some (.row (prC a b ++ prC c d) 0 6)) :
    Sound Tryd.prog G 13 [frV x y o, .slice (some ⟨id, 0, some 0⟩) 2 2] fl A (.slice (some ⟨A.next, 0, some 0⟩) 2 2) (A.push (.row (prC (x + rx o a b) (y + ry o a b) ++ prC (x + rx o c d) (y + ry o c d)) 0 6)) := by
  refine Sound.of mixed Tryd.func13 Tryd.ntmps13 Tryd.results13 (by kernel_rfl) rfl (by kernel_rfl) (by simp) fun hA => ?_
  have hfl : fl ≤ A.next := by have := hA.floor; omega
  have hfl1 : fl ≤ A.next + 1 := by have := hA.floor; omega
  have hfl2 : fl ≤ A.next + 2 := by have := hA.floor; omega
  have hfl3 : fl ≤ A.next + 3 := by have := hA.floor; omega
  have hfl4 : fl ≤ A.next + 4 := by have := hA.floor; omega
  have hfl5 : fl ≤ A.next + 5 := by have := hA.floor; omega
  have hfl6 : fl ≤ A.next + 6 := by have := hA.floor; omega
  have hfl7 : fl ≤ A.next + 7 := by have := hA.floor; omega
  have hfl8 : fl ≤ A.next + 8 := by have := hA.floor; omega
  have hfl9 : fl ≤ A.next + 9 := by have := hA.floor; omega
  have hfl10 : fl ≤ A.next + 10 := by have := hA.floor; omega
  have hfl11 : fl ≤ A.next + 11 := by have := hA.floor; omega
  have p1 := fun fl A => fput (G := G) (fl := fl) (A := A) hG hx hy ho ha hb hk
  have p2 := fun fl A => fput (G := G) (fl := fl) (A := A) hG hx hy ho hc hd hk
  have z12 : zl [Value.bool false, .string { data := #[] }, .string { data := #[] }, .bool false, .string { data := #[] }, .string { data := #[] }] 12 = pr0 ++ pr0 := rfl
  simp only [prV_def, frV_def] at p1 p2 ⊢
  have w4 : ((80 : Nat) : Int) * ((2 : Nat) : Int) ≤ 281474976710656 := by decide
  have w5 : ((2 : Nat) : Int) ≤ 281474976710656 := by decide
  have w6 : ((2 : Nat) : Int) ≤ 9223372036854775807 := by decide
  have w7 : (0 : Int) ≤ ((2 : Nat) : Int) := by decide
  simp only [↓R1, R2, R3, R4, TY, reduceIte, Nat.reduceEqDiff, Nat.reduceAdd, Nat.reduceMul, Nat.reduceLT, Nat.reduceLeDiff, reduceCtorEq, decide_true, decide_false, Int.reduceLE, Int.reduceLT, Int.reduceToNat, Int.reduceAdd, Int.reduceSub, Int.reduceMul, Int.reduceEq, hfl, hfl1, hfl2, hfl3, hfl4, hfl5, hfl6, NE, NE9, Nat.add_assoc, hfl7, hfl8, hfl9, hfl10, hfl11, w4, w5, w6, w7]
  refine range_of 13 2 (fun i τ C => Xt A.next A C ∧ C.next = A.next + 2 + i ∧ C.blk A.next = some (.row [.bool (decide (x.num < 0)), .string (S (nb x.num.natAbs)), .string (S (nb x.den)), .bool (decide (y.num < 0)), .string (S (nb y.num.natAbs)), .string (S (nb y.den)), .bool o.isNone, .bool (decide ((o.getD 0).num < 0)), .string (S (nb (o.getD 0).num.natAbs)), .string (S (nb (o.getD 0).den))] 0 10) ∧ C.blk (A.next + 1) = some (.row ((if 1 ≤ i then prC (x + rx o a b) (y + ry o a b) else pr0) ++ (if 2 ≤ i then prC (x + rx o c d) (y + ry o c d) else pr0)) 0 6) ∧
    τ 2 = some (.pointer (some ⟨A.next, 0, some 0⟩)) ∧ τ 5 = some (.slice (some ⟨A.next + 1, 0, some 0⟩) 2 2) ∧ τ 11 = some (.slice (some ⟨id, 0, some 0⟩) 2 2) ∧ τ 12 = some (.int .i64 2) ∧ τ 13 = some (.int .i64 i)) ?_ ?_
  · exact ⟨((Xt.refl A).push _).push _, rfl, by rw [Hp.push_blk, if_neg (by simp only [Hp.push_next]; omega)]; exact push_at rfl, (push_at rfl).trans (congrArg (fun c => some (Blk.row c 0 6)) z12), rfl, rfl, rfl, rfl, rfl⟩
  rintro i τ C hi ⟨hCx, hCn, hC0, hC1, q2, q5, q11, q12, q13⟩
  have hbC : C.blk id = some (.row (prC a b ++ prC c d) 0 6) := by rw [hCx.blk _ hid]; exact hbk
  have gs : ∀ i, C.get G ⟨id, i, some 0⟩ = (prC a b ++ prC c d)[i]? := fun i => by simp only [Hp.get, hbC, if_true]
  have gf : ∀ i, C.get G ⟨A.next, i, some 0⟩ = ([.bool (decide (x.num < 0)), .string (S (nb x.num.natAbs)), .string (S (nb x.den)), .bool (decide (y.num < 0)), .string (S (nb y.num.natAbs)), .string (S (nb y.den)), .bool o.isNone, .bool (decide ((o.getD 0).num < 0)), .string (S (nb (o.getD 0).num.natAbs)), .string (S (nb (o.getD 0).den))] : List Value)[i]? := fun i => by simp only [Hp.get, hC0, if_true]
  have hi2 : i = 0 ∨ i = 1 ∨ i = 2 := by omega
  rcases hi2 with rfl | rfl | rfl
  · have h1 : (A.next = A.next + 2) = False := eq_false (by omega)
    have h2 : (A.next + 1 = A.next + 2) = False := eq_false (by omega)
    have h3 : (A.next + 2 = A.next + 1) = False := eq_false (by omega)
    have h4 : (A.next + 2 = A.next) = False := eq_false (by omega)
    have hCn : C.next = A.next + 2 := hCn
    rw [if_neg (by omega), if_neg (by omega)] at hC1
    simp only [↓R1, R2, R3, R4, TY, reduceIte, Nat.reduceEqDiff, Nat.reduceAdd, Nat.reduceMul, Nat.reduceLT, Nat.reduceLeDiff, reduceCtorEq, decide_true, decide_false, Int.reduceLE, Int.reduceLT, Int.reduceToNat, Int.reduceAdd, Int.reduceSub, Int.reduceMul, Int.reduceEq, q2, q5, q11, q12, q13]
    refine ⟨fun _ => ?_, fun h => absurd (by decide) h⟩
    have hj : ((0 : Nat) : Int) < ((2 : Nat) : Int) := by decide
    simp only [↓R1, R2, R3, R4, TY, reduceIte, Nat.reduceEqDiff, Nat.reduceAdd, Nat.reduceMul, Nat.reduceLT, Nat.reduceLeDiff, reduceCtorEq, decide_true, decide_false, Int.reduceLE, Int.reduceLT, Int.reduceToNat, Int.reduceAdd, Int.reduceSub, Int.reduceMul, Int.reduceEq, w4, q2, q5, q11, q12, q13, gs, gf, hCn, h1, h2, h3, h4, prC, pr0, List.cons_append, List.nil_append, List.getElem?_cons_zero, List.getElem?_cons_succ, List.length_cons, List.length_nil, List.set_cons_zero, List.set_cons_succ, hfl, hfl1, hfl2, hfl3, hfl4, hfl5, hfl6, NE, NE9, Nat.add_assoc, hfl7, hfl8, hfl9, hfl10, hfl11, hC1, hj]
    refine call_of (p1 _ _) ?_
    simp only [↓R1, R2, R3, R4, TY, reduceIte, Nat.reduceEqDiff, Nat.reduceAdd, Nat.reduceMul, Nat.reduceLT, Nat.reduceLeDiff, reduceCtorEq, decide_true, decide_false, Int.reduceLE, Int.reduceLT, Int.reduceToNat, Int.reduceAdd, Int.reduceSub, Int.reduceMul, Int.reduceEq, w4, q2, q5, q11, q12, q13, gs, gf, hCn, h1, h2, h3, h4, prC, pr0, List.cons_append, List.nil_append, List.getElem?_cons_zero, List.getElem?_cons_succ, List.length_cons, List.length_nil, List.set_cons_zero, List.set_cons_succ, hfl, hfl1, hfl2, hfl3, hfl4, hfl5, hfl6, NE, NE9, Nat.add_assoc, hfl7, hfl8, hfl9, hfl10, hfl11, hC1, hj]
    have h5 : (A.next = A.next + 1) = False := eq_false (by omega)
    refine range_on q13 (by omega) rfl ⟨?_, ?_, ?_, ?_, q2, q5, q11, q12, rfl⟩
    · simp (maxDischargeDepth := 20) only [xt_push, xt_put, hCx, Nat.le_refl, Nat.le_add_right, Nat.add_assoc, Nat.reduceAdd]
    · simp only [Hp.put_next, Hp.push_next, hCn, Nat.add_assoc, Nat.reduceAdd]
    · simp only [Hp.put_blk, Hp.push_blk, hCn, h1, h5, if_false]; exact hC0
    · simp only [Hp.put_blk, if_true]; rfl
  · have h1 : (A.next = A.next + 3) = False := eq_false (by omega)
    have h2 : (A.next + 1 = A.next + 3) = False := eq_false (by omega)
    have h3 : (A.next + 3 = A.next + 1) = False := eq_false (by omega)
    have h4 : (A.next + 3 = A.next) = False := eq_false (by omega)
    have hCn : C.next = A.next + 3 := hCn
    rw [if_pos (by omega), if_neg (by omega)] at hC1
    simp only [↓R1, R2, R3, R4, TY, reduceIte, Nat.reduceEqDiff, Nat.reduceAdd, Nat.reduceMul, Nat.reduceLT, Nat.reduceLeDiff, reduceCtorEq, decide_true, decide_false, Int.reduceLE, Int.reduceLT, Int.reduceToNat, Int.reduceAdd, Int.reduceSub, Int.reduceMul, Int.reduceEq, q2, q5, q11, q12, q13]
    refine ⟨fun _ => ?_, fun h => absurd (by decide) h⟩
    have hj : ((1 : Nat) : Int) < ((2 : Nat) : Int) := by decide
    simp only [↓R1, R2, R3, R4, TY, reduceIte, Nat.reduceEqDiff, Nat.reduceAdd, Nat.reduceMul, Nat.reduceLT, Nat.reduceLeDiff, reduceCtorEq, decide_true, decide_false, Int.reduceLE, Int.reduceLT, Int.reduceToNat, Int.reduceAdd, Int.reduceSub, Int.reduceMul, Int.reduceEq, w4, q2, q5, q11, q12, q13, gs, gf, hCn, h1, h2, h3, h4, prC, pr0, List.cons_append, List.nil_append, List.getElem?_cons_zero, List.getElem?_cons_succ, List.length_cons, List.length_nil, List.set_cons_zero, List.set_cons_succ, hfl, hfl1, hfl2, hfl3, hfl4, hfl5, hfl6, NE, NE9, Nat.add_assoc, hfl7, hfl8, hfl9, hfl10, hfl11, hC1, hj]
    refine call_of (p2 _ _) ?_
    simp only [↓R1, R2, R3, R4, TY, reduceIte, Nat.reduceEqDiff, Nat.reduceAdd, Nat.reduceMul, Nat.reduceLT, Nat.reduceLeDiff, reduceCtorEq, decide_true, decide_false, Int.reduceLE, Int.reduceLT, Int.reduceToNat, Int.reduceAdd, Int.reduceSub, Int.reduceMul, Int.reduceEq, w4, q2, q5, q11, q12, q13, gs, gf, hCn, h1, h2, h3, h4, prC, pr0, List.cons_append, List.nil_append, List.getElem?_cons_zero, List.getElem?_cons_succ, List.length_cons, List.length_nil, List.set_cons_zero, List.set_cons_succ, hfl, hfl1, hfl2, hfl3, hfl4, hfl5, hfl6, NE, NE9, Nat.add_assoc, hfl7, hfl8, hfl9, hfl10, hfl11, hC1, hj]
    have h5 : (A.next = A.next + 1) = False := eq_false (by omega)
    refine range_on q13 (by omega) rfl ⟨?_, ?_, ?_, ?_, q2, q5, q11, q12, rfl⟩
    · simp (maxDischargeDepth := 20) only [xt_push, xt_put, hCx, Nat.le_refl, Nat.le_add_right, Nat.add_assoc, Nat.reduceAdd]
    · simp only [Hp.put_next, Hp.push_next, hCn, Nat.add_assoc, Nat.reduceAdd]
    · simp only [Hp.put_blk, Hp.push_blk, hCn, h1, h5, if_false]; exact hC0
    · simp only [Hp.put_blk, if_true]; rfl
  · rw [if_pos (by omega), if_pos (by omega)] at hC1
    simp only [↓R1, R2, R3, R4, TY, reduceIte, Nat.reduceEqDiff, Nat.reduceAdd, Nat.reduceMul, Nat.reduceLT, Nat.reduceLeDiff, reduceCtorEq, decide_true, decide_false, Int.reduceLE, Int.reduceLT, Int.reduceToNat, Int.reduceAdd, Int.reduceSub, Int.reduceMul, Int.reduceEq, q2, q5, q11, q12, q13, hfl, hfl1, hfl2, hfl3, hfl4, hfl5, hfl6, NE, NE9, Nat.add_assoc, hfl7, hfl8, hfl9, hfl10, hfl11]
    refine ⟨fun h => absurd h (by decide), fun _ => Ended.one hA hCx (Nat.le_succ _) hC1 (Nat.le_refl _) fun u hu => ?_⟩
    simp only [prC, List.mem_append, List.mem_cons, List.not_mem_nil, or_false] at hu
    rcases hu with (rfl | rfl | rfl | rfl | rfl | rfl) | (rfl | rfl | rfl | rfl | rfl | rfl) <;> exact RB.zc rfl
end
end Go.Proofs.YthclikeipdplpaaDoor.Ab
