/- Numbers: the laws of arithmetic. -/
import Derived.Test.YtpaffoiiipgkeaaDoorNj
namespace Go.Proofs.YtpaffoiiipgkeaaDoor.Ab
open Go.RowKit
set_option linter.unusedVariables false
set_option linter.unusedSimpArgs false
set_option maxRecDepth 100000

theorem append_eq {α : Type} (a b : List α) : List.append a b = a ++ b := rfl
theorem nb_len_add {m n k : Nat} (hm : (nb m).length ≤ k) (hn : (nb n).length ≤ k) : (nb (m + n)).length ≤ k + 1 := by
  rw [nb_len_le] at hm hn ⊢
  rw [Nat.pow_succ]; omega
theorem nb_len_mul {m n j k : Nat} (hm : (nb m).length ≤ j) (hn : (nb n).length ≤ k) : (nb (m * n)).length ≤ j + k := by
  rw [nb_len_le] at hm hn ⊢
  rw [Nat.pow_add]
  exact Nat.mul_lt_mul'' hm hn
theorem nb_len_le' {m n k : Nat} (h : m ≤ n) (hn : (nb n).length ≤ k) : (nb m).length ≤ k := Nat.le_trans (nb_len_mono h) hn
theorem S_nb {m n : Nat} : (S (nb m) = S (nb n)) = (m = n) := by rw [S_inj]; exact propext ⟨nb_inj, fun h => by rw [h]⟩

section
variable {G : Gl} {fl : Nat} {A : Hp}

theorem addN {m n : Nat} (hm : (nb m).length ≤ 900000) (hn : (nb n).length ≤ 900000) : Sound Tryd.prog G 19 [.string (S (nb m)), .string (S (nb n))] fl A (.string (S (nb (m + n)))) A := by
  have := add_ok (G := G) (fl := fl) (A := A) (a := nb m) (b := nb n) (by rw [nv_nb]; exact hm) (by rw [nv_nb]; exact hn)
  rwa [nv_nb, nv_nb] at this
theorem mulN {m n : Nat} (hm : (nb m).length ≤ 400000) (hn : (nb n).length ≤ 400000) : Sound Tryd.prog G 20 [.string (S (nb m)), .string (S (nb n))] fl A (.string (S (nb (m * n)))) A := by
  have := mul_ok (G := G) (fl := fl) (A := A) (a := nb m) (b := nb n) (by rw [nv_nb]; exact hm) (by rw [nv_nb]; exact hn)
  rwa [nv_nb, nv_nb] at this
theorem subN {m n : Nat} (hm : (nb m).length ≤ 900000) (hn : (nb n).length ≤ 900000) : Sound Tryd.prog G 18 [.string (S (nb m)), .string (S (nb n))] fl A (.tuple [Value.string (S (nb (subR m n).1)), .int .i64 (subR m n).2].toArray) A := by
  have := sub_ok (G := G) (fl := fl) (A := A) (a := nb m) (b := nb n) (by rw [nv_nb]; exact hm) (by rw [nv_nb]; exact hn)
  rwa [nv_nb, nv_nb] at this
theorem cmpN_ok (m n : Nat) : Sound Tryd.prog G 16 [.string (S (nb m)), .string (S (nb n))] fl A (.int .i64 (cmpN m n)) A := by
  have := cmp_ok (G := G) (fl := fl) (A := A) (nb m) (nb n)
  rwa [nv_nb, nv_nb] at this
theorem textN {m : Nat} (hm : (nb m).length ≤ 900000) : Sound Tryd.prog G 14 [.string (S (nb m))] fl A (.string (S (dec m))) A := by
  have := decText_ok (G := G) (fl := fl) (A := A) (l := nb m) (by rw [nv_nb]; exact hm)
  rwa [nv_nb] at this

theorem nb_small {n : Nat} (h0 : 0 < n) (h : n < 256) : nb n = [UInt8.ofNat n] := by
  rw [nb_pos (by omega), Nat.div_eq_of_lt h, nb_zero, Nat.mod_eq_of_lt h]; rfl

theorem natBegun_ok : Sound Tryd.prog G 12 [] fl A (.bool true) A := by
  refine Sound.of mixed Tryd.func12 Tryd.ntmps12 Tryd.results12 (by kernel_rfl) rfl (by kernel_rfl) (by simp) fun hA => ?_
  have e2 : nb 2 = [2] := nb_small (by omega) (by omega)
  have e4 : nb 4 = [4] := nb_small (by omega) (by omega)
  have e12 : nb 12 = [12] := nb_small (by omega) (by omega)
  have d12 : dec 12 = [49, 50] := by
    rw [dec, if_neg (by omega), dl_pos (by omega), dl_pos (by omega), show 12 / 10 / 10 = 0 from rfl, dl_zero]; rfl
  simp only [↓R1, R2, R3, R4, TY, reduceIte, Nat.reduceEqDiff, Nat.reduceAdd, Nat.reduceMul, Nat.reduceLT, Nat.reduceLeDiff, reduceCtorEq, decide_true, decide_false, Int.reduceLE, Int.reduceLT, Int.reduceToNat, Int.reduceAdd, Int.reduceSub, Int.reduceMul, Int.reduceEq]
  have a := addN (G := G) (fl := fl) (A := A) (m := 2) (n := 2) (by rw [e2]; decide) (by rw [e2]; decide)
  rw [e2, show 2 + 2 = 4 from rfl, e4] at a
  refine call_of a ?_
  simp only [↓R1, R2, R3, R4, TY, reduceIte, Nat.reduceEqDiff, Nat.reduceAdd, Nat.reduceMul, Nat.reduceLT, Nat.reduceLeDiff, reduceCtorEq, decide_true, decide_false, Int.reduceLE, Int.reduceLT, Int.reduceToNat, Int.reduceAdd, Int.reduceSub, Int.reduceMul, Int.reduceEq]
  have t := textN (G := G) (fl := fl) (A := A) (m := 12) (by rw [e12]; decide)
  rw [e12, d12] at t
  refine call_of t ?_
  simp only [↓R1, R2, R3, R4, TY, reduceIte, Nat.reduceEqDiff, Nat.reduceAdd, Nat.reduceMul, Nat.reduceLT, Nat.reduceLeDiff, reduceCtorEq, decide_true, decide_false, Int.reduceLE, Int.reduceLT, Int.reduceToNat, Int.reduceAdd, Int.reduceSub, Int.reduceMul, Int.reduceEq]
  exact Ended.back hA (Xt.refl _) rfl (RB.bool _)

set_option maxHeartbeats 4000000 in
theorem natLaws_calls {l1 l2 l3 : List UInt8} (k1 : l1.length ≤ 9223372036854775807) (k2 : l2.length ≤ 9223372036854775807) (k3 : l3.length ≤ 9223372036854775807) :
    ∀ (μ : Mu) (w : World) (args' : Array Value), HR G μ fl A w → fl ≤ A.next → VRa μ A [.string (S l1), .string (S l2), .string (S l3)].toArray args' →
    Calls Tryd.prog 4 args' w fun e w' => ∃ u, e = .returned u ∧ ∃ ν, VR ν A (.bool true) u ∧ HR G ν fl A w' ∧ Trans fl μ A w ν A w' := by
  refine calls_of mixed Tryd.func4 Tryd.ntmps4 Tryd.results4 (by kernel_rfl) rfl (by kernel_rfl) (by simp) fun hA => ?_
  have fin : ∀ (b : Bool), b = true → Ended A (.bool b) A (.bool true) A := fun b hb => Ended.back hA (Xt.refl A) (congrArg _ hb) (RB.bool _)
  have hx := bare_len l1
  have hy := bare_len l2
  have hz := bare_len l3
  simp only [↓R1, R2, R3, R4, TY, reduceIte, Nat.reduceEqDiff, Nat.reduceAdd, Nat.reduceMul, Nat.reduceLT, Nat.reduceLeDiff, reduceCtorEq, decide_true, decide_false, Int.reduceLE, Int.reduceLT, Int.reduceToNat, Int.reduceAdd, Int.reduceSub, Int.reduceMul, Int.reduceEq]
  refine call_of natBegun_ok ?_
  simp only [↓R1, R2, R3, R4, TY, reduceIte, Nat.reduceEqDiff, Nat.reduceAdd, Nat.reduceMul, Nat.reduceLT, Nat.reduceLeDiff, reduceCtorEq, decide_true, decide_false, Int.reduceLE, Int.reduceLT, Int.reduceToNat, Int.reduceAdd, Int.reduceSub, Int.reduceMul, Int.reduceEq]
  refine call_of (bare_ok l1 k1) ?_
  simp only [↓R1, R2, R3, R4, TY, reduceIte, Nat.reduceEqDiff, Nat.reduceAdd, Nat.reduceMul, Nat.reduceLT, Nat.reduceLeDiff, reduceCtorEq, decide_true, decide_false, Int.reduceLE, Int.reduceLT, Int.reduceToNat, Int.reduceAdd, Int.reduceSub, Int.reduceMul, Int.reduceEq]
  refine call_of (bare_ok l2 k2) ?_
  simp only [↓R1, R2, R3, R4, TY, reduceIte, Nat.reduceEqDiff, Nat.reduceAdd, Nat.reduceMul, Nat.reduceLT, Nat.reduceLeDiff, reduceCtorEq, decide_true, decide_false, Int.reduceLE, Int.reduceLT, Int.reduceToNat, Int.reduceAdd, Int.reduceSub, Int.reduceMul, Int.reduceEq]
  refine call_of (bare_ok l3 k3) ?_
  simp only [↓R1, R2, R3, R4, TY, reduceIte, Nat.reduceEqDiff, Nat.reduceAdd, Nat.reduceMul, Nat.reduceLT, Nat.reduceLeDiff, reduceCtorEq, decide_true, decide_false, Int.reduceLE, Int.reduceLT, Int.reduceToNat, Int.reduceAdd, Int.reduceSub, Int.reduceMul, Int.reduceEq]
  generalize bare l1 = x at hx ⊢
  generalize bare l2 = y at hy ⊢
  generalize bare l3 = z at hz ⊢
  have hxy := nb_len_add hx hy
  have hyz := nb_len_add hy hz
  have hxz := nb_len_add hx hz
  have e1 : subR (x + y) y = (x, 0) := by rw [subR, if_neg (by omega)]; simp
  refine call_of (addN (by omega) (by omega)) ?_
  simp only [↓R1, R2, R3, R4, TY, reduceIte, Nat.reduceEqDiff, Nat.reduceAdd, Nat.reduceMul, Nat.reduceLT, Nat.reduceLeDiff, reduceCtorEq, decide_true, decide_false, Int.reduceLE, Int.reduceLT, Int.reduceToNat, Int.reduceAdd, Int.reduceSub, Int.reduceMul, Int.reduceEq]
  refine call_of (subN (by omega) (by omega)) ?_
  rw [e1]
  simp only [↓R1, R2, R3, R4, TY, reduceIte, Nat.reduceEqDiff, Nat.reduceAdd, Nat.reduceMul, Nat.reduceLT, Nat.reduceLeDiff, reduceCtorEq, decide_true, decide_false, Int.reduceLE, Int.reduceLT, Int.reduceToNat, Int.reduceAdd, Int.reduceSub, Int.reduceMul, Int.reduceEq]
  refine call_of (addN (by omega) (by omega)) ?_
  simp only [↓R1, R2, R3, R4, TY, reduceIte, Nat.reduceEqDiff, Nat.reduceAdd, Nat.reduceMul, Nat.reduceLT, Nat.reduceLeDiff, reduceCtorEq, decide_true, decide_false, Int.reduceLE, Int.reduceLT, Int.reduceToNat, Int.reduceAdd, Int.reduceSub, Int.reduceMul, Int.reduceEq]
  refine call_of (mulN (by omega) (by omega)) ?_
  simp only [↓R1, R2, R3, R4, TY, reduceIte, Nat.reduceEqDiff, Nat.reduceAdd, Nat.reduceMul, Nat.reduceLT, Nat.reduceLeDiff, reduceCtorEq, decide_true, decide_false, Int.reduceLE, Int.reduceLT, Int.reduceToNat, Int.reduceAdd, Int.reduceSub, Int.reduceMul, Int.reduceEq]
  have mxy := nb_len_mul hx hy
  have mxz := nb_len_mul hx hz
  have myz := nb_len_mul hy hz
  refine call_of (mulN (by omega) (by omega)) ?_
  simp only [↓R1, R2, R3, R4, TY, reduceIte, Nat.reduceEqDiff, Nat.reduceAdd, Nat.reduceMul, Nat.reduceLT, Nat.reduceLeDiff, reduceCtorEq, decide_true, decide_false, Int.reduceLE, Int.reduceLT, Int.reduceToNat, Int.reduceAdd, Int.reduceSub, Int.reduceMul, Int.reduceEq]
  refine call_of (mulN (by omega) (by omega)) ?_
  simp only [↓R1, R2, R3, R4, TY, reduceIte, Nat.reduceEqDiff, Nat.reduceAdd, Nat.reduceMul, Nat.reduceLT, Nat.reduceLeDiff, reduceCtorEq, decide_true, decide_false, Int.reduceLE, Int.reduceLT, Int.reduceToNat, Int.reduceAdd, Int.reduceSub, Int.reduceMul, Int.reduceEq]
  refine call_of (addN (by omega) (by omega)) ?_
  have d1 : x * (y + z) = x * y + x * z := Nat.mul_add _ _ _
  rw [d1]
  simp only [append_eq, List.cons_append, List.nil_append]
  simp only [↓R1, R2, R3, R4, TY, reduceIte, Nat.reduceEqDiff, Nat.reduceAdd, Nat.reduceMul, Nat.reduceLT, Nat.reduceLeDiff, reduceCtorEq, decide_true, decide_false, Int.reduceLE, Int.reduceLT, Int.reduceToNat, Int.reduceAdd, Int.reduceSub, Int.reduceMul, Int.reduceEq, S_nb]
  have q1 : (x + (y + z) = x + y + z) = True := eq_true (by omega)
  have q2 : (x * (y * z) = x * y * z) = True := eq_true (Nat.mul_assoc _ _ _).symm
  have q3 : (x + y = y + x) = True := eq_true (Nat.add_comm _ _)
  have q4 : (x * y = y * x) = True := eq_true (Nat.mul_comm _ _)
  have n1 : nb 1 = [1] := nb_small (by omega) (by omega)
  have m1 := mulN (G := G) (fl := fl) (A := A) (m := x) (n := 1) (by omega) (by rw [n1]; decide)
  rw [n1, Nat.mul_one] at m1
  refine call_of (addN (by omega) (by omega)) ?_
  simp only [↓R1, R2, R3, R4, TY, reduceIte, Nat.reduceEqDiff, Nat.reduceAdd, Nat.reduceMul, Nat.reduceLT, Nat.reduceLeDiff, reduceCtorEq, decide_true, decide_false, Int.reduceLE, Int.reduceLT, Int.reduceToNat, Int.reduceAdd, Int.reduceSub, Int.reduceMul, Int.reduceEq, S_nb]
  refine call_of (addN (by omega) (by omega)) ?_
  simp only [↓R1, R2, R3, R4, TY, reduceIte, Nat.reduceEqDiff, Nat.reduceAdd, Nat.reduceMul, Nat.reduceLT, Nat.reduceLeDiff, reduceCtorEq, decide_true, decide_false, Int.reduceLE, Int.reduceLT, Int.reduceToNat, Int.reduceAdd, Int.reduceSub, Int.reduceMul, Int.reduceEq, S_nb]
  refine call_of (addN (by omega) (by omega)) ?_
  simp only [↓R1, R2, R3, R4, TY, reduceIte, Nat.reduceEqDiff, Nat.reduceAdd, Nat.reduceMul, Nat.reduceLT, Nat.reduceLeDiff, reduceCtorEq, decide_true, decide_false, Int.reduceLE, Int.reduceLT, Int.reduceToNat, Int.reduceAdd, Int.reduceSub, Int.reduceMul, Int.reduceEq, S_nb]
  refine call_of (addN (by omega) (by omega)) ?_
  simp only [↓R1, R2, R3, R4, TY, reduceIte, Nat.reduceEqDiff, Nat.reduceAdd, Nat.reduceMul, Nat.reduceLT, Nat.reduceLeDiff, reduceCtorEq, decide_true, decide_false, Int.reduceLE, Int.reduceLT, Int.reduceToNat, Int.reduceAdd, Int.reduceSub, Int.reduceMul, Int.reduceEq, S_nb, q1]
  refine call_of (mulN (by omega) (by omega)) ?_
  simp only [↓R1, R2, R3, R4, TY, reduceIte, Nat.reduceEqDiff, Nat.reduceAdd, Nat.reduceMul, Nat.reduceLT, Nat.reduceLeDiff, reduceCtorEq, decide_true, decide_false, Int.reduceLE, Int.reduceLT, Int.reduceToNat, Int.reduceAdd, Int.reduceSub, Int.reduceMul, Int.reduceEq, S_nb]
  refine call_of (mulN (by omega) (by omega)) ?_
  simp only [↓R1, R2, R3, R4, TY, reduceIte, Nat.reduceEqDiff, Nat.reduceAdd, Nat.reduceMul, Nat.reduceLT, Nat.reduceLeDiff, reduceCtorEq, decide_true, decide_false, Int.reduceLE, Int.reduceLT, Int.reduceToNat, Int.reduceAdd, Int.reduceSub, Int.reduceMul, Int.reduceEq, S_nb]
  refine call_of (mulN (by omega) (by omega)) ?_
  simp only [↓R1, R2, R3, R4, TY, reduceIte, Nat.reduceEqDiff, Nat.reduceAdd, Nat.reduceMul, Nat.reduceLT, Nat.reduceLeDiff, reduceCtorEq, decide_true, decide_false, Int.reduceLE, Int.reduceLT, Int.reduceToNat, Int.reduceAdd, Int.reduceSub, Int.reduceMul, Int.reduceEq, S_nb]
  refine call_of (mulN (by omega) (by omega)) ?_
  simp only [↓R1, R2, R3, R4, TY, reduceIte, Nat.reduceEqDiff, Nat.reduceAdd, Nat.reduceMul, Nat.reduceLT, Nat.reduceLeDiff, reduceCtorEq, decide_true, decide_false, Int.reduceLE, Int.reduceLT, Int.reduceToNat, Int.reduceAdd, Int.reduceSub, Int.reduceMul, Int.reduceEq, S_nb, q2]
  refine call_of (addN (by omega) (by omega)) ?_
  simp only [↓R1, R2, R3, R4, TY, reduceIte, Nat.reduceEqDiff, Nat.reduceAdd, Nat.reduceMul, Nat.reduceLT, Nat.reduceLeDiff, reduceCtorEq, decide_true, decide_false, Int.reduceLE, Int.reduceLT, Int.reduceToNat, Int.reduceAdd, Int.reduceSub, Int.reduceMul, Int.reduceEq, S_nb]
  refine call_of (addN (by omega) (by omega)) ?_
  simp only [↓R1, R2, R3, R4, TY, reduceIte, Nat.reduceEqDiff, Nat.reduceAdd, Nat.reduceMul, Nat.reduceLT, Nat.reduceLeDiff, reduceCtorEq, decide_true, decide_false, Int.reduceLE, Int.reduceLT, Int.reduceToNat, Int.reduceAdd, Int.reduceSub, Int.reduceMul, Int.reduceEq, S_nb, q3]
  refine call_of (mulN (by omega) (by omega)) ?_
  simp only [↓R1, R2, R3, R4, TY, reduceIte, Nat.reduceEqDiff, Nat.reduceAdd, Nat.reduceMul, Nat.reduceLT, Nat.reduceLeDiff, reduceCtorEq, decide_true, decide_false, Int.reduceLE, Int.reduceLT, Int.reduceToNat, Int.reduceAdd, Int.reduceSub, Int.reduceMul, Int.reduceEq, S_nb]
  refine call_of (mulN (by omega) (by omega)) ?_
  simp only [↓R1, R2, R3, R4, TY, reduceIte, Nat.reduceEqDiff, Nat.reduceAdd, Nat.reduceMul, Nat.reduceLT, Nat.reduceLeDiff, reduceCtorEq, decide_true, decide_false, Int.reduceLE, Int.reduceLT, Int.reduceToNat, Int.reduceAdd, Int.reduceSub, Int.reduceMul, Int.reduceEq, S_nb, q4]
  refine call_of m1 ?_
  simp only [↓R1, R2, R3, R4, TY, reduceIte, Nat.reduceEqDiff, Nat.reduceAdd, Nat.reduceMul, Nat.reduceLT, Nat.reduceLeDiff, reduceCtorEq, decide_true, decide_false, Int.reduceLE, Int.reduceLT, Int.reduceToNat, Int.reduceAdd, Int.reduceSub, Int.reduceMul, Int.reduceEq, S_nb]
  have q5 : cmpN (x + z) (y + z) = cmpN x y := by
    unfold cmpN
    congr 1
    · exact propext (by omega)
    · congr 1; exact propext (by omega)
  refine call_of (cmpN_ok _ _) ?_
  simp only [↓R1, R2, R3, R4, TY, reduceIte, Nat.reduceEqDiff, Nat.reduceAdd, Nat.reduceMul, Nat.reduceLT, Nat.reduceLeDiff, reduceCtorEq, decide_true, decide_false, Int.reduceLE, Int.reduceLT, Int.reduceToNat, Int.reduceAdd, Int.reduceSub, Int.reduceMul, Int.reduceEq, S_nb]
  refine call_of (addN (by omega) (by omega)) ?_
  simp only [↓R1, R2, R3, R4, TY, reduceIte, Nat.reduceEqDiff, Nat.reduceAdd, Nat.reduceMul, Nat.reduceLT, Nat.reduceLeDiff, reduceCtorEq, decide_true, decide_false, Int.reduceLE, Int.reduceLT, Int.reduceToNat, Int.reduceAdd, Int.reduceSub, Int.reduceMul, Int.reduceEq, S_nb]
  refine call_of (addN (by omega) (by omega)) ?_
  simp only [↓R1, R2, R3, R4, TY, reduceIte, Nat.reduceEqDiff, Nat.reduceAdd, Nat.reduceMul, Nat.reduceLT, Nat.reduceLeDiff, reduceCtorEq, decide_true, decide_false, Int.reduceLE, Int.reduceLT, Int.reduceToNat, Int.reduceAdd, Int.reduceSub, Int.reduceMul, Int.reduceEq, S_nb]
  refine call_of (cmpN_ok _ _) ?_
  rw [q5]
  simp only [↓R1, R2, R3, R4, TY, reduceIte, Nat.reduceEqDiff, Nat.reduceAdd, Nat.reduceMul, Nat.reduceLT, Nat.reduceLeDiff, reduceCtorEq, decide_true, decide_false, Int.reduceLE, Int.reduceLT, Int.reduceToNat, Int.reduceAdd, Int.reduceSub, Int.reduceMul, Int.reduceEq, S_nb]
  exact fin _ (by simp)
end
end Go.Proofs.YtpaffoiiipgkeaaDoor.Ab
