/- Spans: products, squares, quotients. -/
import Derived.Test.YtincjhklpgfkgaaDoorUb
namespace Go.Proofs.YtincjhklpgfkgaaDoor.Ab
open Go.RowKit
set_option linter.unusedVariables false
set_option linter.unusedSimpArgs false
set_option maxRecDepth 100000

def smlo (a b c d : Rat) : Rat := rmin (rmin (rmin (a * c) (a * d)) (b * c)) (b * d)
def smhi (a b c d : Rat) : Rat := rmax (rmax (rmax (a * c) (a * d)) (b * c)) (b * d)

theorem smlo_eq (a b c d : Rat) : smlo a b c d = List.foldl rmin (a * c) [a * d, b * c, b * d] := by unfold smlo; simp only [List.foldl_cons, List.foldl_nil]
theorem smhi_eq (a b c d : Rat) : smhi a b c d = List.foldl rmax (a * c) [a * d, b * c, b * d] := by unfold smhi; simp only [List.foldl_cons, List.foldl_nil]
theorem push_at {A : Hp} {b : Blk} {i : Nat} (h : i = A.next) : (A.push b).blk i = some b := by rw [Hp.push_blk, if_pos h]
theorem zl_len {l : List Value} {n : Nat} : (zl l n).length = n := by simp [zl]
theorem set4r (z : List Value) (hz : z.length = 12) (p q r s : Rat) : (((((((((((z.set 0 (.bool (decide (p.num < 0)))).set 1 (.string (S (nb p.num.natAbs)))).set 2 (.string (S (nb p.den)))).set 3 (.bool (decide (q.num < 0)))).set 4 (.string (S (nb q.num.natAbs)))).set 5 (.string (S (nb q.den)))).set 6 (.bool (decide (r.num < 0)))).set 7 (.string (S (nb r.num.natAbs)))).set 8 (.string (S (nb r.den)))).set 9 (.bool (decide (s.num < 0)))).set 10 (.string (S (nb s.num.natAbs)))).set 11 (.string (S (nb s.den))) = ([p, q, r, s].map ratC).flatten := by
  match z, hz with
  | [_, _, _, _, _, _, _, _, _, _, _, _], _ => rfl

section
variable {G : Gl} {fl : Nat} {A : Hp}

set_option maxHeartbeats 2000000 in
theorem smul {a b c d : Rat} {j k : Nat} (hG : G 2 = some tabV) (h : Sp a b j) (h' : Sp c d k) (hk : j + k ≤ 50000) : Sound Tryd.prog G 24 [prV a b, prV c d] fl A (prV (smlo a b c d) (smhi a b c d)) A := by
  refine Sound.of mixed Tryd.func24 Tryd.ntmps24 Tryd.results24 (by kernel_rfl) rfl (by kernel_rfl) (by simp) fun hA => ?_
  have hfl : fl ≤ A.next := by have := hA.floor; omega
  have hfl1 : fl ≤ A.next + 1 := by have := hA.floor; omega
  have hfl2 : fl ≤ A.next + 2 := by have := hA.floor; omega
  have hfl3 : fl ≤ A.next + 3 := by have := hA.floor; omega
  have hfl4 : fl ≤ A.next + 4 := by have := hA.floor; omega
  have hfl5 : fl ≤ A.next + 5 := by have := hA.floor; omega
  have hfl6 : fl ≤ A.next + 6 := by have := hA.floor; omega
  have f1 := fun fl A => sfit (G := G) (fl := fl) (A := A) hG h (by omega)
  have f2 := fun fl A => sfit (G := G) (fl := fl) (A := A) hG h' (by omega)
  have o1 := fun fl A => qmul (G := G) (fl := fl) (A := A) hG h.low h'.low (by omega)
  have o2 := fun fl A => qmul (G := G) (fl := fl) (A := A) hG h.low h'.high (by omega)
  have o3 := fun fl A => qmul (G := G) (fl := fl) (A := A) hG h.high h'.low (by omega)
  have o4 := fun fl A => qmul (G := G) (fl := fl) (A := A) hG h.high h'.high (by omega)
  rw [ratV_def (a * c)] at o1
  rw [ratV_def (a * d)] at o2
  rw [ratV_def (b * c)] at o3
  rw [ratV_def (b * d)] at o4
  have hrb := prV_rb A.next (smlo a b c d) (smhi a b c d)
  rw [prV_def] at f1 f2
  rw [prV_def] at hrb ⊢
  rw [prV_def, prV_def]
  simp only [↓R1, R2, R3, R4, TY, reduceIte, Nat.reduceEqDiff, Nat.reduceAdd, Nat.reduceMul, Nat.reduceLT, Nat.reduceLeDiff, reduceCtorEq, decide_true, decide_false, Int.reduceLE, Int.reduceLT, Int.reduceToNat, Int.reduceAdd, Int.reduceSub, Int.reduceMul, Int.reduceEq, hfl, hfl1, hfl2, hfl3, hfl4, hfl5, hfl6, NE, zl_len, List.length_set]
  refine call_of (f1 _ _) ?_
  simp only [↓R1, R2, R3, R4, TY, reduceIte, Nat.reduceEqDiff, Nat.reduceAdd, Nat.reduceMul, Nat.reduceLT, Nat.reduceLeDiff, reduceCtorEq, decide_true, decide_false, Int.reduceLE, Int.reduceLT, Int.reduceToNat, Int.reduceAdd, Int.reduceSub, Int.reduceMul, Int.reduceEq, hfl, hfl1, hfl2, hfl3, hfl4, hfl5, hfl6, NE, zl_len, List.length_set]
  refine call_of (f2 _ _) ?_
  simp only [↓R1, R2, R3, R4, TY, reduceIte, Nat.reduceEqDiff, Nat.reduceAdd, Nat.reduceMul, Nat.reduceLT, Nat.reduceLeDiff, reduceCtorEq, decide_true, decide_false, Int.reduceLE, Int.reduceLT, Int.reduceToNat, Int.reduceAdd, Int.reduceSub, Int.reduceMul, Int.reduceEq, hfl, hfl1, hfl2, hfl3, hfl4, hfl5, hfl6, NE, zl_len, List.length_set]
  rw [floOf_wr (by kernel_rfl)]
  simp only [↓R1, R2, R3, R4, TY, reduceIte, Nat.reduceEqDiff, Nat.reduceAdd, Nat.reduceMul, Nat.reduceLT, Nat.reduceLeDiff, reduceCtorEq, decide_true, decide_false, Int.reduceLE, Int.reduceLT, Int.reduceToNat, Int.reduceAdd, Int.reduceSub, Int.reduceMul, Int.reduceEq, hfl, hfl1, hfl2, hfl3, hfl4, hfl5, hfl6, NE, zl_len, List.length_set]
  rw [floOf_wr (by kernel_rfl)]
  simp only [↓R1, R2, R3, R4, TY, reduceIte, Nat.reduceEqDiff, Nat.reduceAdd, Nat.reduceMul, Nat.reduceLT, Nat.reduceLeDiff, reduceCtorEq, decide_true, decide_false, Int.reduceLE, Int.reduceLT, Int.reduceToNat, Int.reduceAdd, Int.reduceSub, Int.reduceMul, Int.reduceEq, hfl, hfl1, hfl2, hfl3, hfl4, hfl5, hfl6, NE, zl_len, List.length_set]
  refine call_of (o1 _ _) ?_
  simp only [↓R1, R2, R3, R4, TY, reduceIte, Nat.reduceEqDiff, Nat.reduceAdd, Nat.reduceMul, Nat.reduceLT, Nat.reduceLeDiff, reduceCtorEq, decide_true, decide_false, Int.reduceLE, Int.reduceLT, Int.reduceToNat, Int.reduceAdd, Int.reduceSub, Int.reduceMul, Int.reduceEq, hfl, hfl1, hfl2, hfl3, hfl4, hfl5, hfl6, NE, zl_len, List.length_set]
  refine call_of (o2 _ _) ?_
  simp only [↓R1, R2, R3, R4, TY, reduceIte, Nat.reduceEqDiff, Nat.reduceAdd, Nat.reduceMul, Nat.reduceLT, Nat.reduceLeDiff, reduceCtorEq, decide_true, decide_false, Int.reduceLE, Int.reduceLT, Int.reduceToNat, Int.reduceAdd, Int.reduceSub, Int.reduceMul, Int.reduceEq, hfl, hfl1, hfl2, hfl3, hfl4, hfl5, hfl6, NE, zl_len, List.length_set]
  refine call_of (o3 _ _) ?_
  simp only [↓R1, R2, R3, R4, TY, reduceIte, Nat.reduceEqDiff, Nat.reduceAdd, Nat.reduceMul, Nat.reduceLT, Nat.reduceLeDiff, reduceCtorEq, decide_true, decide_false, Int.reduceLE, Int.reduceLT, Int.reduceToNat, Int.reduceAdd, Int.reduceSub, Int.reduceMul, Int.reduceEq, hfl, hfl1, hfl2, hfl3, hfl4, hfl5, hfl6, NE, zl_len, List.length_set]
  refine call_of (o4 _ _) ?_
  simp only [↓R1, R2, R3, R4, TY, reduceIte, Nat.reduceEqDiff, Nat.reduceAdd, Nat.reduceMul, Nat.reduceLT, Nat.reduceLeDiff, reduceCtorEq, decide_true, decide_false, Int.reduceLE, Int.reduceLT, Int.reduceToNat, Int.reduceAdd, Int.reduceSub, Int.reduceMul, Int.reduceEq, hfl, hfl1, hfl2, hfl3, hfl4, hfl5, hfl6, NE, zl_len, List.length_set]
  have r1 := h.low.mul h'.low
  have r2 := h.low.mul h'.high
  have r3 := h.high.mul h'.low
  have r4 := h.high.mul h'.high
  have key : ∀ (B : Hp) (fl' : Nat), B.blk (A.next + 1 + 1 + 1) = some (.row (((a * c :: [a * d, b * c, b * d]).map ratC).flatten) 0 3) → A.next + 1 + 1 + 1 < B.next → Sound Tryd.prog G 77 [.slice (some ⟨A.next + 1 + 1 + 1, 0, some 0⟩) 4 4] fl' B (prV (smlo a b c d) (smhi a b c d)) B := fun B fl' hB hn => by
    rw [smlo_eq, smhi_eq]
    refine saround hG hn (by simp) hB r1 ?_ hk (by omega)
    simp only [List.mem_cons, List.not_mem_nil, or_false]
    rintro x (h | h | h) <;> rw [h] <;> assumption
  rw [prV_def] at key
  generalize hB : Hp.push (Hp.put _ (A.next + 1) _) _ = B
  have hB1 : B.blk (A.next + 1 + 1 + 1) = some (.row (((a * c :: [a * d, b * c, b * d]).map ratC).flatten) 0 3) := by
    rw [← hB]; exact (push_at rfl).trans (congrArg (fun c => some (Blk.row c 0 3)) (set4r _ zl_len _ _ _ _))
  have hBn : A.next + 1 + 1 + 1 < B.next := by rw [← hB]; exact Nat.lt_succ_self _
  have hBx : Xt A.next A B := by
    rw [← hB]
    simp (maxDischargeDepth := 20) only [xt_push, xt_put, xt_refl, Nat.le_refl, Nat.le_add_right, Nat.add_assoc, Nat.reduceAdd]
  have hB2 : B.blk (A.next + 1 + 1) = some (.row [.bool false, .string (S []), .string (S []), .bool false, .string (S []), .string (S [])] 0 6) := by
    rw [← hB, Hp.push_blk, if_neg (by simp only [Hp.put_next, Hp.push_next]; omega), Hp.put_blk, if_neg (by omega), Hp.put_blk, if_neg (by omega)]; exact push_at rfl
  clear hB
  refine call_of (key B _ hB1 hBn) ?_
  simp only [↓R1, R2, R3, R4, TY, reduceIte, Nat.reduceEqDiff, Nat.reduceAdd, Nat.reduceMul, Nat.reduceLT, Nat.reduceLeDiff, reduceCtorEq, decide_true, decide_false, Int.reduceLE, Int.reduceLT, Int.reduceToNat, Int.reduceAdd, Int.reduceSub, Int.reduceMul, Int.reduceEq, hfl, hfl1, hfl2, hfl3, hfl4, hfl5, hfl6, NE, hB2]
  rw [floOf_wr (by kernel_rfl)]
  simp only [↓R1, R2, R3, R4, TY, reduceIte, Nat.reduceEqDiff, Nat.reduceAdd, Nat.reduceMul, Nat.reduceLT, Nat.reduceLeDiff, reduceCtorEq, decide_true, decide_false, Int.reduceLE, Int.reduceLT, Int.reduceToNat, Int.reduceAdd, Int.reduceSub, Int.reduceMul, Int.reduceEq, hfl, hfl1, hfl2, hfl3, hfl4, hfl5, hfl6, NE, hB2]
  refine Ended.back hA ?_ rfl hrb
  exact hBx.put (by omega) _

end
end Go.Proofs.YtincjhklpgfkgaaDoor.Ab
