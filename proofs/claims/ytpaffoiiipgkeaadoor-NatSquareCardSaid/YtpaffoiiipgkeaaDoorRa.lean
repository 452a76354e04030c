/- Numbers: common divisors and quotients of short ones. -/
import Derived.Test.YtpaffoiiipgkeaaDoorNk
namespace Go.Proofs.YtpaffoiiipgkeaaDoor.Ab
open Go.RowKit
set_option linter.unusedVariables false
set_option linter.unusedSimpArgs false
set_option maxRecDepth 100000

theorem nb8 {n : Nat} : (nb n).length ≤ 8 ↔ n < 18446744073709551616 := nb_len_le (k := 8)

section
variable {G : Gl} {fl : Nat} {A : Hp}

theorem common_ok {m n : Nat} (hm : m < 18446744073709551616) (hn : n < 18446744073709551616) : Sound Tryd.prog G 61 [.int .u64 (m : Nat), .int .u64 (n : Nat)] fl A (.int .u64 (Nat.gcd m n : Nat)) A := by
  refine Sound.of mixed Tryd.func61 Tryd.ntmps61 Tryd.results61 (by kernel_rfl) rfl (by kernel_rfl) (by simp) fun hA => ?_
  simp only [↓R1, R2, R3, R4, TY, reduceIte, Nat.reduceEqDiff, Nat.reduceAdd, Nat.reduceMul, Nat.reduceLT, Nat.reduceLeDiff, reduceCtorEq, decide_true, decide_false, Int.reduceLE, Int.reduceLT, Int.reduceToNat, Int.reduceAdd, Int.reduceSub, Int.reduceMul, Int.reduceEq]
  refine loop_of (fun τ B => B = A ∧ ∃ x y : Nat, x < 18446744073709551616 ∧ y < 18446744073709551616 ∧ Nat.gcd x y = Nat.gcd m n ∧ τ 0 = some (.int .u64 (x : Nat)) ∧ τ 1 = some (.int .u64 (y : Nat))) (fun τ _ => match τ 1 with | some (.int _ y) => y.toNat | _ => 0) ⟨rfl, m, n, hm, hn, rfl, rfl, rfl⟩ ?_
  rintro τ B ⟨rfl, x, y, hx, hy, hg, q0, q1⟩
  have hpos : ((0 : Int) < ((y : Nat) : Int)) = (0 < y) := propext (by omega)
  simp only [↓R1, R2, R3, R4, TY, reduceIte, Nat.reduceEqDiff, Nat.reduceAdd, Nat.reduceMul, Nat.reduceLT, Nat.reduceLeDiff, reduceCtorEq, decide_true, decide_false, Int.reduceLE, Int.reduceLT, Int.reduceToNat, Int.reduceAdd, Int.reduceSub, Int.reduceMul, Int.reduceEq, q0, q1, hpos]
  refine ⟨fun h => ?_, fun h => ?_⟩
  · have hne : ¬ ((y : Nat) : Int) = 0 := by omega
    have hne2 : (((y : Nat) : Int) ≠ 0) = True := eq_true (by omega)
    simp only [↓R1, R2, R3, R4, TY, reduceIte, Nat.reduceEqDiff, Nat.reduceAdd, Nat.reduceMul, Nat.reduceLT, Nat.reduceLeDiff, reduceCtorEq, decide_true, decide_false, Int.reduceLE, Int.reduceLT, Int.reduceToNat, Int.reduceAdd, Int.reduceSub, Int.reduceMul, Int.reduceEq, q0, q1, hpos, hne, hne2, ne_eq, not_false_eq_true, UN]
    have hlt : x % y < y := Nat.mod_lt _ h
    refine loop_on ⟨rfl, y, x % y, hy, by omega, ?_, rfl, rfl⟩ ?_
    · rw [← hg, Nat.gcd_comm x y, Nat.gcd_rec y x, Nat.gcd_comm]
    · simp only [upd, if_true, q1, Int.toNat_natCast]; exact hlt
  · have : y = 0 := by omega
    subst this
    refine Ended.back hA (Xt.refl _) ?_ (RB.int _ _)
    rw [← hg, Nat.gcd_zero_right]

theorem shortN {m : Nat} (hm : m < 18446744073709551616) : Sound Tryd.prog G 53 [.string (S (nb m))] fl A (.int .u64 (m : Nat)) A := by
  have := short_ok (G := G) (fl := fl) (A := A) (nb8.2 hm)
  rwa [nv_nb] at this
theorem nb_nil_eq (n : Nat) : (nb n = []) = (n = 0) := propext nb_eq_nil
theorem len_lt_iff {m n : Nat} : (((nb m).length : Int) < ((nb n).length : Int)) = ((nb m).length < (nb n).length) := propext (by omega)
theorem len_le8 {m : Nat} : (((nb m).length : Int) ≤ 8) = ((nb m).length ≤ 8) := propext (by omega)

theorem gcdN {m n : Nat} (hm : m < 18446744073709551616) (hn : n < 18446744073709551616) : Sound Tryd.prog G 41 [.string (S (nb m)), .string (S (nb n))] fl A (.string (S (nb (Nat.gcd m n)))) A := by
  refine Sound.of mixed Tryd.func41 Tryd.ntmps41 Tryd.results41 (by kernel_rfl) rfl (by kernel_rfl) (by simp) fun hA => ?_
  have h8m := nb8.2 hm
  have h8n := nb8.2 hn
  simp only [↓R1, R2, R3, R4, TY, reduceIte, Nat.reduceEqDiff, Nat.reduceAdd, Nat.reduceMul, Nat.reduceLT, Nat.reduceLeDiff, reduceCtorEq, decide_true, decide_false, Int.reduceLE, Int.reduceLT, Int.reduceToNat, Int.reduceAdd, Int.reduceSub, Int.reduceMul, Int.reduceEq]
  refine call_of (trim_ok _) ?_
  simp only [↓R1, R2, R3, R4, TY, reduceIte, Nat.reduceEqDiff, Nat.reduceAdd, Nat.reduceMul, Nat.reduceLT, Nat.reduceLeDiff, reduceCtorEq, decide_true, decide_false, Int.reduceLE, Int.reduceLT, Int.reduceToNat, Int.reduceAdd, Int.reduceSub, Int.reduceMul, Int.reduceEq, nv_nb]
  refine call_of (trim_ok _) ?_
  simp only [↓R1, R2, R3, R4, TY, reduceIte, Nat.reduceEqDiff, Nat.reduceAdd, Nat.reduceMul, Nat.reduceLT, Nat.reduceLeDiff, reduceCtorEq, decide_true, decide_false, Int.reduceLE, Int.reduceLT, Int.reduceToNat, Int.reduceAdd, Int.reduceSub, Int.reduceMul, Int.reduceEq, nv_nb]
  refine loop_of (fun τ B => B = A ∧ τ 0 = some (.string (S (nb m))) ∧ τ 1 = some (.string (S (nb n)))) (fun _ _ => 0) ⟨rfl, rfl, rfl⟩ ?_
  rintro τ B ⟨rfl, q0, q1⟩
  simp only [↓R1, R2, R3, R4, TY, reduceIte, Nat.reduceEqDiff, Nat.reduceAdd, Nat.reduceMul, Nat.reduceLT, Nat.reduceLeDiff, reduceCtorEq, decide_true, decide_false, Int.reduceLE, Int.reduceLT, Int.reduceToNat, Int.reduceAdd, Int.reduceSub, Int.reduceMul, Int.reduceEq, q0, q1, S_inj, nb_nil_eq, S_size, len_lt_iff, len_le8, h8m, h8n]
  have hcat : (nb m).length + (nb n).length ≤ 9223372036854775807 := by omega
  refine ⟨fun h => ?_, fun h => ⟨fun h2 => ?_, fun h2 => ⟨fun h3 => ?_, fun h3 => ?_⟩⟩⟩
  · simp only [↓R1, R2, R3, R4, TY, reduceIte, Nat.reduceEqDiff, Nat.reduceAdd, Nat.reduceMul, Nat.reduceLT, Nat.reduceLeDiff, reduceCtorEq, decide_true, decide_false, Int.reduceLE, Int.reduceLT, Int.reduceToNat, Int.reduceAdd, Int.reduceSub, Int.reduceMul, Int.reduceEq, hcat, S_append]
    refine Ended.back hA (Xt.refl _) ?_ (RB.string _)
    rw [h, nb_zero, Nat.gcd_zero_left]; rfl
  · simp only [↓R1, R2, R3, R4, TY, reduceIte, Nat.reduceEqDiff, Nat.reduceAdd, Nat.reduceMul, Nat.reduceLT, Nat.reduceLeDiff, reduceCtorEq, decide_true, decide_false, Int.reduceLE, Int.reduceLT, Int.reduceToNat, Int.reduceAdd, Int.reduceSub, Int.reduceMul, Int.reduceEq, hcat, S_append]
    refine Ended.back hA (Xt.refl _) ?_ (RB.string _)
    rw [h2, nb_zero, Nat.gcd_zero_right, List.append_nil]
  · refine call_of (shortN hn) ?_
    simp only [↓R1, R2, R3, R4, TY, reduceIte, Nat.reduceEqDiff, Nat.reduceAdd, Nat.reduceMul, Nat.reduceLT, Nat.reduceLeDiff, reduceCtorEq, decide_true, decide_false, Int.reduceLE, Int.reduceLT, Int.reduceToNat, Int.reduceAdd, Int.reduceSub, Int.reduceMul, Int.reduceEq, q0, q1]
    refine call_of (shortN hm) ?_
    simp only [↓R1, R2, R3, R4, TY, reduceIte, Nat.reduceEqDiff, Nat.reduceAdd, Nat.reduceMul, Nat.reduceLT, Nat.reduceLeDiff, reduceCtorEq, decide_true, decide_false, Int.reduceLE, Int.reduceLT, Int.reduceToNat, Int.reduceAdd, Int.reduceSub, Int.reduceMul, Int.reduceEq, q0, q1]
    refine call_of (common_ok hn hm) ?_
    simp only [↓R1, R2, R3, R4, TY, reduceIte, Nat.reduceEqDiff, Nat.reduceAdd, Nat.reduceMul, Nat.reduceLT, Nat.reduceLeDiff, reduceCtorEq, decide_true, decide_false, Int.reduceLE, Int.reduceLT, Int.reduceToNat, Int.reduceAdd, Int.reduceSub, Int.reduceMul, Int.reduceEq, q0, q1]
    refine call_of (fromShort_ok (Nat.lt_of_le_of_lt (Nat.gcd_le_left _ (by omega)) hn)) ?_
    simp only [↓R1, R2, R3, R4, TY, reduceIte, Nat.reduceEqDiff, Nat.reduceAdd, Nat.reduceMul, Nat.reduceLT, Nat.reduceLeDiff, reduceCtorEq, decide_true, decide_false, Int.reduceLE, Int.reduceLT, Int.reduceToNat, Int.reduceAdd, Int.reduceSub, Int.reduceMul, Int.reduceEq, q0, q1]
    refine Ended.back hA (Xt.refl _) ?_ (RB.string _)
    rw [Nat.gcd_comm]
  · refine call_of (shortN hm) ?_
    simp only [↓R1, R2, R3, R4, TY, reduceIte, Nat.reduceEqDiff, Nat.reduceAdd, Nat.reduceMul, Nat.reduceLT, Nat.reduceLeDiff, reduceCtorEq, decide_true, decide_false, Int.reduceLE, Int.reduceLT, Int.reduceToNat, Int.reduceAdd, Int.reduceSub, Int.reduceMul, Int.reduceEq, q0, q1]
    refine call_of (shortN hn) ?_
    simp only [↓R1, R2, R3, R4, TY, reduceIte, Nat.reduceEqDiff, Nat.reduceAdd, Nat.reduceMul, Nat.reduceLT, Nat.reduceLeDiff, reduceCtorEq, decide_true, decide_false, Int.reduceLE, Int.reduceLT, Int.reduceToNat, Int.reduceAdd, Int.reduceSub, Int.reduceMul, Int.reduceEq, q0, q1]
    refine call_of (common_ok hm hn) ?_
    simp only [↓R1, R2, R3, R4, TY, reduceIte, Nat.reduceEqDiff, Nat.reduceAdd, Nat.reduceMul, Nat.reduceLT, Nat.reduceLeDiff, reduceCtorEq, decide_true, decide_false, Int.reduceLE, Int.reduceLT, Int.reduceToNat, Int.reduceAdd, Int.reduceSub, Int.reduceMul, Int.reduceEq, q0, q1]
    refine call_of (fromShort_ok (Nat.lt_of_le_of_lt (Nat.gcd_le_left _ (by omega)) hm)) ?_
    simp only [↓R1, R2, R3, R4, TY, reduceIte, Nat.reduceEqDiff, Nat.reduceAdd, Nat.reduceMul, Nat.reduceLT, Nat.reduceLeDiff, reduceCtorEq, decide_true, decide_false, Int.reduceLE, Int.reduceLT, Int.reduceToNat, Int.reduceAdd, Int.reduceSub, Int.reduceMul, Int.reduceEq, q0, q1]
    exact Ended.back hA (Xt.refl _) rfl (RB.string _)

theorem divN {m n : Nat} (hm : m < 18446744073709551616) (hn : n < 18446744073709551616) (h0 : n ≠ 0) :
    Sound Tryd.prog G 21 [.string (S (nb m)), .string (S (nb n))] fl A (.tuple [Value.string (S (nb (m / n))), .string (S (nb (m % n))), .int .i64 0].toArray) A := by
  refine Sound.of mixed Tryd.func21 Tryd.ntmps21 Tryd.results21 (by kernel_rfl) rfl (by kernel_rfl) (by simp) fun hA => ?_
  have h8m := nb8.2 hm
  have h8n := nb8.2 hn
  have hz : (n = 0) = False := eq_false h0
  simp only [↓R1, R2, R3, R4, TY, reduceIte, Nat.reduceEqDiff, Nat.reduceAdd, Nat.reduceMul, Nat.reduceLT, Nat.reduceLeDiff, reduceCtorEq, decide_true, decide_false, Int.reduceLE, Int.reduceLT, Int.reduceToNat, Int.reduceAdd, Int.reduceSub, Int.reduceMul, Int.reduceEq]
  refine call_of (trim_ok _) ?_
  simp only [↓R1, R2, R3, R4, TY, reduceIte, Nat.reduceEqDiff, Nat.reduceAdd, Nat.reduceMul, Nat.reduceLT, Nat.reduceLeDiff, reduceCtorEq, decide_true, decide_false, Int.reduceLE, Int.reduceLT, Int.reduceToNat, Int.reduceAdd, Int.reduceSub, Int.reduceMul, Int.reduceEq, nv_nb]
  refine call_of (trim_ok _) ?_
  simp only [↓R1, R2, R3, R4, TY, reduceIte, Nat.reduceEqDiff, Nat.reduceAdd, Nat.reduceMul, Nat.reduceLT, Nat.reduceLeDiff, reduceCtorEq, decide_true, decide_false, Int.reduceLE, Int.reduceLT, Int.reduceToNat, Int.reduceAdd, Int.reduceSub, Int.reduceMul, Int.reduceEq, nv_nb, S_inj, nb_nil_eq, S_size, len_le8, h8m, h8n, hz]
  have hne : (((n : Nat) : Int) = 0) = False := eq_false (by omega)
  have m1 : m / n % 18446744073709551616 = m / n := Nat.mod_eq_of_lt (Nat.lt_of_le_of_lt (Nat.div_le_self _ _) hm)
  refine call_of (shortN hm) ?_
  simp only [↓R1, R2, R3, R4, TY, reduceIte, Nat.reduceEqDiff, Nat.reduceAdd, Nat.reduceMul, Nat.reduceLT, Nat.reduceLeDiff, reduceCtorEq, decide_true, decide_false, Int.reduceLE, Int.reduceLT, Int.reduceToNat, Int.reduceAdd, Int.reduceSub, Int.reduceMul, Int.reduceEq]
  refine call_of (shortN hn) ?_
  simp only [↓R1, R2, R3, R4, TY, reduceIte, Nat.reduceEqDiff, Nat.reduceAdd, Nat.reduceMul, Nat.reduceLT, Nat.reduceLeDiff, reduceCtorEq, decide_true, decide_false, Int.reduceLE, Int.reduceLT, Int.reduceToNat, Int.reduceAdd, Int.reduceSub, Int.reduceMul, Int.reduceEq, ne_eq, hne, not_false_eq_true, m1, UN]
  refine call_of (fromShort_ok (Nat.lt_of_le_of_lt (Nat.div_le_self _ _) hm)) ?_
  simp only [↓R1, R2, R3, R4, TY, reduceIte, Nat.reduceEqDiff, Nat.reduceAdd, Nat.reduceMul, Nat.reduceLT, Nat.reduceLeDiff, reduceCtorEq, decide_true, decide_false, Int.reduceLE, Int.reduceLT, Int.reduceToNat, Int.reduceAdd, Int.reduceSub, Int.reduceMul, Int.reduceEq]
  refine call_of (shortN hm) ?_
  simp only [↓R1, R2, R3, R4, TY, reduceIte, Nat.reduceEqDiff, Nat.reduceAdd, Nat.reduceMul, Nat.reduceLT, Nat.reduceLeDiff, reduceCtorEq, decide_true, decide_false, Int.reduceLE, Int.reduceLT, Int.reduceToNat, Int.reduceAdd, Int.reduceSub, Int.reduceMul, Int.reduceEq]
  refine call_of (shortN hn) ?_
  simp only [↓R1, R2, R3, R4, TY, reduceIte, Nat.reduceEqDiff, Nat.reduceAdd, Nat.reduceMul, Nat.reduceLT, Nat.reduceLeDiff, reduceCtorEq, decide_true, decide_false, Int.reduceLE, Int.reduceLT, Int.reduceToNat, Int.reduceAdd, Int.reduceSub, Int.reduceMul, Int.reduceEq, ne_eq, hne, not_false_eq_true, UN]
  refine call_of (fromShort_ok (Nat.lt_of_lt_of_le (Nat.mod_lt _ (by omega)) (by omega))) ?_
  simp only [↓R1, R2, R3, R4, TY, reduceIte, Nat.reduceEqDiff, Nat.reduceAdd, Nat.reduceMul, Nat.reduceLT, Nat.reduceLeDiff, reduceCtorEq, decide_true, decide_false, Int.reduceLE, Int.reduceLT, Int.reduceToNat, Int.reduceAdd, Int.reduceSub, Int.reduceMul, Int.reduceEq]
  refine Ended.back hA (Xt.refl _) rfl (RB.tuple fun w hw => ?_)
  simp only [List.mem_cons, List.not_mem_nil, or_false] at hw
  rcases hw with rfl | rfl | rfl
  · exact RB.string _
  · exact RB.string _
  · exact RB.int _ _
end
end Go.Proofs.YtpaffoiiipgkeaaDoor.Ab
