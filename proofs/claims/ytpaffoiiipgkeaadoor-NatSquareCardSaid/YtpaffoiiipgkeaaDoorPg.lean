/- The greatest common divisor of numbers of any length. -/
import Derived.Test.YtpaffoiiipgkeaaDoorPf
import Derived.Test.YtpaffoiiipgkeaaDoorOg
namespace Go.Proofs.YtpaffoiiipgkeaaDoor.Ab
open Go.RowKit
set_option linter.unusedVariables false
set_option linter.unusedSimpArgs false
set_option maxRecDepth 100000

section
variable {G : Gl} {fl : Nat} {A : Hp}

set_option maxHeartbeats 2000000 in
theorem gcdG {m n : Nat} (hG : G 1 = some tabV) (hm : (nb m).length ≤ 400000) (hn : (nb n).length ≤ 400000) : Sound Tryd.prog G 41 [.string (S (nb m)), .string (S (nb n))] fl A (.string (S (nb (Nat.gcd m n)))) A := by
  refine Sound.of mixed Tryd.func41 Tryd.ntmps41 Tryd.results41 (by kernel_rfl) rfl (by kernel_rfl) (by simp) fun hA => ?_
  simp only [↓R1, R2, R3, R4, TY, reduceIte, Nat.reduceEqDiff, Nat.reduceAdd, Nat.reduceMul, Nat.reduceLT, Nat.reduceLeDiff, reduceCtorEq, decide_true, decide_false, Int.reduceLE, Int.reduceLT, Int.reduceToNat, Int.reduceAdd, Int.reduceSub, Int.reduceMul, Int.reduceEq]
  refine call_of (trim_ok _) ?_
  simp only [↓R1, R2, R3, R4, TY, reduceIte, Nat.reduceEqDiff, Nat.reduceAdd, Nat.reduceMul, Nat.reduceLT, Nat.reduceLeDiff, reduceCtorEq, decide_true, decide_false, Int.reduceLE, Int.reduceLT, Int.reduceToNat, Int.reduceAdd, Int.reduceSub, Int.reduceMul, Int.reduceEq, nv_nb]
  refine call_of (trim_ok _) ?_
  simp only [↓R1, R2, R3, R4, TY, reduceIte, Nat.reduceEqDiff, Nat.reduceAdd, Nat.reduceMul, Nat.reduceLT, Nat.reduceLeDiff, reduceCtorEq, decide_true, decide_false, Int.reduceLE, Int.reduceLT, Int.reduceToNat, Int.reduceAdd, Int.reduceSub, Int.reduceMul, Int.reduceEq, nv_nb]
  refine loop_rank (fun r τ B => B = A ∧ ∃ x y : Nat, x + y = r ∧ Nat.gcd x y = Nat.gcd m n ∧ (nb x).length ≤ 400000 ∧ (nb y).length ≤ 400000 ∧ τ 0 = some (.string (S (nb x))) ∧ τ 1 = some (.string (S (nb y)))) (m + n) ⟨rfl, m, n, rfl, rfl, hm, hn, rfl, rfl⟩ ?_
  rintro r τ B ⟨rfl, x, y, rfl, hg, lx, ly, q0, q1⟩ K' hN hE
  have hcat : (nb x).length + (nb y).length ≤ 9223372036854775807 := by omega
  by_cases hx0 : x = 0
  · have e0 : (x = 0) = True := eq_true hx0
    simp only [↓R1, R2, R3, R4, TY, reduceIte, Nat.reduceEqDiff, Nat.reduceAdd, Nat.reduceMul, Nat.reduceLT, Nat.reduceLeDiff, reduceCtorEq, decide_true, decide_false, Int.reduceLE, Int.reduceLT, Int.reduceToNat, Int.reduceAdd, Int.reduceSub, Int.reduceMul, Int.reduceEq, q0, q1, S_inj, nb_nil_eq, e0, ne_eq, not_true_eq_false]
    refine hE _ _ _ (by simp) ?_
    simp only [↓R1, R2, R3, R4, TY, reduceIte, Nat.reduceEqDiff, Nat.reduceAdd, Nat.reduceMul, Nat.reduceLT, Nat.reduceLeDiff, reduceCtorEq, decide_true, decide_false, Int.reduceLE, Int.reduceLT, Int.reduceToNat, Int.reduceAdd, Int.reduceSub, Int.reduceMul, Int.reduceEq, q0, q1, hcat, S_append, S_size]
    refine Ended.back hA (Xt.refl _) ?_ (RB.string _)
    rw [← hg, hx0, nb_zero, Nat.gcd_zero_left]; rfl
  by_cases hy0 : y = 0
  · have e0 : (x = 0) = False := eq_false hx0
    have e1 : (y = 0) = True := eq_true hy0
    simp only [↓R1, R2, R3, R4, TY, reduceIte, Nat.reduceEqDiff, Nat.reduceAdd, Nat.reduceMul, Nat.reduceLT, Nat.reduceLeDiff, reduceCtorEq, decide_true, decide_false, Int.reduceLE, Int.reduceLT, Int.reduceToNat, Int.reduceAdd, Int.reduceSub, Int.reduceMul, Int.reduceEq, q0, q1, S_inj, nb_nil_eq, e0, e1, ne_eq, not_true_eq_false, not_false_eq_true]
    refine hE _ _ _ (by simp) ?_
    simp only [↓R1, R2, R3, R4, TY, reduceIte, Nat.reduceEqDiff, Nat.reduceAdd, Nat.reduceMul, Nat.reduceLT, Nat.reduceLeDiff, reduceCtorEq, decide_true, decide_false, Int.reduceLE, Int.reduceLT, Int.reduceToNat, Int.reduceAdd, Int.reduceSub, Int.reduceMul, Int.reduceEq, q0, q1, hcat, S_append, S_size]
    refine Ended.back hA (Xt.refl _) ?_ (RB.string _)
    rw [← hg, hy0, nb_zero, Nat.gcd_zero_right, List.append_nil]
  have e0 : (x = 0) = False := eq_false hx0
  have e1 : (y = 0) = False := eq_false hy0
  by_cases hlt : (nb x).length < (nb y).length
  · have c0 : (y = 0) = False := eq_false hy0
    have gg : Nat.gcd y x = Nat.gcd m n := (by rw [Nat.gcd_comm]; exact hg)
    by_cases h8 : (nb y).length ≤ 8
    · simp only [↓R1, R2, R3, R4, TY, reduceIte, Nat.reduceEqDiff, Nat.reduceAdd, Nat.reduceMul, Nat.reduceLT, Nat.reduceLeDiff, reduceCtorEq, decide_true, decide_false, Int.reduceLE, Int.reduceLT, Int.reduceToNat, Int.reduceAdd, Int.reduceSub, Int.reduceMul, Int.reduceEq, q0, q1, S_inj, nb_nil_eq, S_size, len_lt_iff, len_le8, e0, e1, hlt, h8, ne_eq, not_false_eq_true]
      have u1 : y < 18446744073709551616 := nb8.1 h8
      have u2 : x < 18446744073709551616 := nb8.1 (by omega)
      refine call_of (shortN u1) ?_
      simp only [↓R1, R2, R3, R4, TY, reduceIte, Nat.reduceEqDiff, Nat.reduceAdd, Nat.reduceMul, Nat.reduceLT, Nat.reduceLeDiff, reduceCtorEq, decide_true, decide_false, Int.reduceLE, Int.reduceLT, Int.reduceToNat, Int.reduceAdd, Int.reduceSub, Int.reduceMul, Int.reduceEq, q0, q1]
      refine call_of (shortN u2) ?_
      simp only [↓R1, R2, R3, R4, TY, reduceIte, Nat.reduceEqDiff, Nat.reduceAdd, Nat.reduceMul, Nat.reduceLT, Nat.reduceLeDiff, reduceCtorEq, decide_true, decide_false, Int.reduceLE, Int.reduceLT, Int.reduceToNat, Int.reduceAdd, Int.reduceSub, Int.reduceMul, Int.reduceEq, q0, q1]
      refine call_of (common_ok u1 u2) ?_
      simp only [↓R1, R2, R3, R4, TY, reduceIte, Nat.reduceEqDiff, Nat.reduceAdd, Nat.reduceMul, Nat.reduceLT, Nat.reduceLeDiff, reduceCtorEq, decide_true, decide_false, Int.reduceLE, Int.reduceLT, Int.reduceToNat, Int.reduceAdd, Int.reduceSub, Int.reduceMul, Int.reduceEq, q0, q1]
      refine call_of (fromShort_ok (Nat.lt_of_le_of_lt (Nat.gcd_le_left _ (by omega)) u1)) ?_
      simp only [↓R1, R2, R3, R4, TY, reduceIte, Nat.reduceEqDiff, Nat.reduceAdd, Nat.reduceMul, Nat.reduceLT, Nat.reduceLeDiff, reduceCtorEq, decide_true, decide_false, Int.reduceLE, Int.reduceLT, Int.reduceToNat, Int.reduceAdd, Int.reduceSub, Int.reduceMul, Int.reduceEq, q0, q1]
      refine hE _ _ _ (by simp) ?_
      simp only [↓R1, R2, R3, R4, TY, reduceIte, Nat.reduceEqDiff, Nat.reduceAdd, Nat.reduceMul, Nat.reduceLT, Nat.reduceLeDiff, reduceCtorEq, decide_true, decide_false, Int.reduceLE, Int.reduceLT, Int.reduceToNat, Int.reduceAdd, Int.reduceSub, Int.reduceMul, Int.reduceEq, q0, q1]
      exact Ended.back hA (Xt.refl _) (by rw [gg]) (RB.string _)
    · have w1 : IntKind.i64.wrap (((nb x).length : Int) + 8) = (((nb x).length + 8 : Nat) : Int) := by rw [wrapI (by omega)]; omega
      have w2 : (((nb y).length : Int) ≤ (((nb x).length + 8 : Nat) : Int)) = ((nb y).length ≤ (nb x).length + 8) := propext (by omega)
      by_cases hh : (nb y).length ≤ (nb x).length + 8
      · simp only [↓R1, R2, R3, R4, TY, reduceIte, Nat.reduceEqDiff, Nat.reduceAdd, Nat.reduceMul, Nat.reduceLT, Nat.reduceLeDiff, reduceCtorEq, decide_true, decide_false, Int.reduceLE, Int.reduceLT, Int.reduceToNat, Int.reduceAdd, Int.reduceSub, Int.reduceMul, Int.reduceEq, q0, q1, S_inj, nb_nil_eq, S_size, len_lt_iff, len_le8, e0, e1, hlt, h8, w1, w2, hh, ne_eq, not_false_eq_true]
        have hv := halves_ok (G := G) (fl := fl) (A := B) (a := nb y) (b := nb x) hG ly lx (by rw [nv_nb]; exact hy0) (by rw [nv_nb]; exact hx0)
        rw [nv_nb, nv_nb] at hv
        refine call_of hv ?_
        simp only [↓R1, R2, R3, R4, TY, reduceIte, Nat.reduceEqDiff, Nat.reduceAdd, Nat.reduceMul, Nat.reduceLT, Nat.reduceLeDiff, reduceCtorEq, decide_true, decide_false, Int.reduceLE, Int.reduceLT, Int.reduceToNat, Int.reduceAdd, Int.reduceSub, Int.reduceMul, Int.reduceEq, q0, q1]
        refine hE _ _ _ (by simp) ?_
        simp only [↓R1, R2, R3, R4, TY, reduceIte, Nat.reduceEqDiff, Nat.reduceAdd, Nat.reduceMul, Nat.reduceLT, Nat.reduceLeDiff, reduceCtorEq, decide_true, decide_false, Int.reduceLE, Int.reduceLT, Int.reduceToNat, Int.reduceAdd, Int.reduceSub, Int.reduceMul, Int.reduceEq, q0, q1]
        exact Ended.back hA (Xt.refl _) (by rw [gg]) (RB.string _)
      · simp only [↓R1, R2, R3, R4, TY, reduceIte, Nat.reduceEqDiff, Nat.reduceAdd, Nat.reduceMul, Nat.reduceLT, Nat.reduceLeDiff, reduceCtorEq, decide_true, decide_false, Int.reduceLE, Int.reduceLT, Int.reduceToNat, Int.reduceAdd, Int.reduceSub, Int.reduceMul, Int.reduceEq, q0, q1, S_inj, nb_nil_eq, S_size, len_lt_iff, len_le8, e0, e1, hlt, h8, w1, w2, hh, ne_eq, not_false_eq_true]
        refine call_of (divG ly lx hx0) ?_
        simp only [↓R1, R2, R3, R4, TY, reduceIte, Nat.reduceEqDiff, Nat.reduceAdd, Nat.reduceMul, Nat.reduceLT, Nat.reduceLeDiff, reduceCtorEq, decide_true, decide_false, Int.reduceLE, Int.reduceLT, Int.reduceToNat, Int.reduceAdd, Int.reduceSub, Int.reduceMul, Int.reduceEq, q0, q1]
        have hr : y % x < x := Nat.mod_lt _ (by omega)
        have hlt2 : x < y := lt_of_nb_len (by omega)
        refine hN _ _ (x + y % x) (by omega) ⟨rfl, x, y % x, rfl, ?_, lx, nb_len_le' (Nat.mod_le _ _) ly, rfl, rfl⟩
        rw [← gg, Nat.gcd_comm y, Nat.gcd_rec x y, Nat.gcd_comm]
  · have c0 : (x = 0) = False := eq_false hx0
    have gg : Nat.gcd x y = Nat.gcd m n := hg
    by_cases h8 : (nb x).length ≤ 8
    · simp only [↓R1, R2, R3, R4, TY, reduceIte, Nat.reduceEqDiff, Nat.reduceAdd, Nat.reduceMul, Nat.reduceLT, Nat.reduceLeDiff, reduceCtorEq, decide_true, decide_false, Int.reduceLE, Int.reduceLT, Int.reduceToNat, Int.reduceAdd, Int.reduceSub, Int.reduceMul, Int.reduceEq, q0, q1, S_inj, nb_nil_eq, S_size, len_lt_iff, len_le8, e0, e1, hlt, h8, ne_eq, not_false_eq_true]
      have u1 : x < 18446744073709551616 := nb8.1 h8
      have u2 : y < 18446744073709551616 := nb8.1 (by omega)
      refine call_of (shortN u1) ?_
      simp only [↓R1, R2, R3, R4, TY, reduceIte, Nat.reduceEqDiff, Nat.reduceAdd, Nat.reduceMul, Nat.reduceLT, Nat.reduceLeDiff, reduceCtorEq, decide_true, decide_false, Int.reduceLE, Int.reduceLT, Int.reduceToNat, Int.reduceAdd, Int.reduceSub, Int.reduceMul, Int.reduceEq, q0, q1]
      refine call_of (shortN u2) ?_
      simp only [↓R1, R2, R3, R4, TY, reduceIte, Nat.reduceEqDiff, Nat.reduceAdd, Nat.reduceMul, Nat.reduceLT, Nat.reduceLeDiff, reduceCtorEq, decide_true, decide_false, Int.reduceLE, Int.reduceLT, Int.reduceToNat, Int.reduceAdd, Int.reduceSub, Int.reduceMul, Int.reduceEq, q0, q1]
      refine call_of (common_ok u1 u2) ?_
      simp only [↓R1, R2, R3, R4, TY, reduceIte, Nat.reduceEqDiff, Nat.reduceAdd, Nat.reduceMul, Nat.reduceLT, Nat.reduceLeDiff, reduceCtorEq, decide_true, decide_false, Int.reduceLE, Int.reduceLT, Int.reduceToNat, Int.reduceAdd, Int.reduceSub, Int.reduceMul, Int.reduceEq, q0, q1]
      refine call_of (fromShort_ok (Nat.lt_of_le_of_lt (Nat.gcd_le_left _ (by omega)) u1)) ?_
      simp only [↓R1, R2, R3, R4, TY, reduceIte, Nat.reduceEqDiff, Nat.reduceAdd, Nat.reduceMul, Nat.reduceLT, Nat.reduceLeDiff, reduceCtorEq, decide_true, decide_false, Int.reduceLE, Int.reduceLT, Int.reduceToNat, Int.reduceAdd, Int.reduceSub, Int.reduceMul, Int.reduceEq, q0, q1]
      refine hE _ _ _ (by simp) ?_
      simp only [↓R1, R2, R3, R4, TY, reduceIte, Nat.reduceEqDiff, Nat.reduceAdd, Nat.reduceMul, Nat.reduceLT, Nat.reduceLeDiff, reduceCtorEq, decide_true, decide_false, Int.reduceLE, Int.reduceLT, Int.reduceToNat, Int.reduceAdd, Int.reduceSub, Int.reduceMul, Int.reduceEq, q0, q1]
      exact Ended.back hA (Xt.refl _) (by rw [gg]) (RB.string _)
    · have w1 : IntKind.i64.wrap (((nb y).length : Int) + 8) = (((nb y).length + 8 : Nat) : Int) := by rw [wrapI (by omega)]; omega
      have w2 : (((nb x).length : Int) ≤ (((nb y).length + 8 : Nat) : Int)) = ((nb x).length ≤ (nb y).length + 8) := propext (by omega)
      by_cases hh : (nb x).length ≤ (nb y).length + 8
      · simp only [↓R1, R2, R3, R4, TY, reduceIte, Nat.reduceEqDiff, Nat.reduceAdd, Nat.reduceMul, Nat.reduceLT, Nat.reduceLeDiff, reduceCtorEq, decide_true, decide_false, Int.reduceLE, Int.reduceLT, Int.reduceToNat, Int.reduceAdd, Int.reduceSub, Int.reduceMul, Int.reduceEq, q0, q1, S_inj, nb_nil_eq, S_size, len_lt_iff, len_le8, e0, e1, hlt, h8, w1, w2, hh, ne_eq, not_false_eq_true]
        have hv := halves_ok (G := G) (fl := fl) (A := B) (a := nb x) (b := nb y) hG lx ly (by rw [nv_nb]; exact hx0) (by rw [nv_nb]; exact hy0)
        rw [nv_nb, nv_nb] at hv
        refine call_of hv ?_
        simp only [↓R1, R2, R3, R4, TY, reduceIte, Nat.reduceEqDiff, Nat.reduceAdd, Nat.reduceMul, Nat.reduceLT, Nat.reduceLeDiff, reduceCtorEq, decide_true, decide_false, Int.reduceLE, Int.reduceLT, Int.reduceToNat, Int.reduceAdd, Int.reduceSub, Int.reduceMul, Int.reduceEq, q0, q1]
        refine hE _ _ _ (by simp) ?_
        simp only [↓R1, R2, R3, R4, TY, reduceIte, Nat.reduceEqDiff, Nat.reduceAdd, Nat.reduceMul, Nat.reduceLT, Nat.reduceLeDiff, reduceCtorEq, decide_true, decide_false, Int.reduceLE, Int.reduceLT, Int.reduceToNat, Int.reduceAdd, Int.reduceSub, Int.reduceMul, Int.reduceEq, q0, q1]
        exact Ended.back hA (Xt.refl _) (by rw [gg]) (RB.string _)
      · simp only [↓R1, R2, R3, R4, TY, reduceIte, Nat.reduceEqDiff, Nat.reduceAdd, Nat.reduceMul, Nat.reduceLT, Nat.reduceLeDiff, reduceCtorEq, decide_true, decide_false, Int.reduceLE, Int.reduceLT, Int.reduceToNat, Int.reduceAdd, Int.reduceSub, Int.reduceMul, Int.reduceEq, q0, q1, S_inj, nb_nil_eq, S_size, len_lt_iff, len_le8, e0, e1, hlt, h8, w1, w2, hh, ne_eq, not_false_eq_true]
        refine call_of (divG lx ly hy0) ?_
        simp only [↓R1, R2, R3, R4, TY, reduceIte, Nat.reduceEqDiff, Nat.reduceAdd, Nat.reduceMul, Nat.reduceLT, Nat.reduceLeDiff, reduceCtorEq, decide_true, decide_false, Int.reduceLE, Int.reduceLT, Int.reduceToNat, Int.reduceAdd, Int.reduceSub, Int.reduceMul, Int.reduceEq, q0, q1]
        have hr : x % y < y := Nat.mod_lt _ (by omega)
        have hlt2 : y < x := lt_of_nb_len (by omega)
        refine hN _ _ (y + x % y) (by omega) ⟨rfl, y, x % y, rfl, ?_, ly, nb_len_le' (Nat.mod_le _ _) lx, rfl, rfl⟩
        rw [← gg, Nat.gcd_comm x, Nat.gcd_rec y x, Nat.gcd_comm]
end
end Go.Proofs.YtpaffoiiipgkeaaDoor.Ab
