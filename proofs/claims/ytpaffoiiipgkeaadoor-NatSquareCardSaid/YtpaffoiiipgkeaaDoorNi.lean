/- Numbers: what a law begins with. -/
import Derived.Test.YtpaffoiiipgkeaaDoorNh
namespace Go.Proofs.YtpaffoiiipgkeaaDoor.Ab
open Go.RowKit
set_option linter.unusedVariables false
set_option linter.unusedSimpArgs false
set_option maxRecDepth 100000

section
variable {G : Gl} {fl : Nat} {A : Hp}

theorem trimLeftByte_ok (l : List UInt8) : Sound Tryd.prog G 66 [.string (S l), .int .u8 0] fl A (.string (S (nb (nv l)))) A := by
  refine Sound.of mixed Tryd.func66 Tryd.ntmps66 Tryd.results66 (by kernel_rfl) rfl (by kernel_rfl) (by simp) fun hA => ?_
  simp only [↓R1, R2, R3, R4, TY, reduceIte, Nat.reduceEqDiff, Nat.reduceAdd, Nat.reduceMul, Nat.reduceLT, Nat.reduceLeDiff, reduceCtorEq, decide_true, decide_false, Int.reduceLE, Int.reduceLT, Int.reduceToNat, Int.reduceAdd, Int.reduceSub, Int.reduceMul, Int.reduceEq]
  refine loop_of (fun τ B => B = A ∧ ∃ m, τ 0 = some (.string (S m)) ∧ nv m = nv l ∧ τ 1 = some (.int .u8 0)) (fun τ A => match τ 0 with | some (.string s) => s.size | _ => 0) ⟨rfl, l, rfl, rfl, rfl⟩ ?_
  rintro τ B ⟨rfl, m, q0, hm, q1⟩
  have hend : (∀ b k, m = b :: k → b ≠ 0) → Ended B (.string (S m)) B (.string (S (nb (nv l)))) B := fun h => Ended.back hA (Xt.refl _) (by rw [← hm, nb_nv m h]) (RB.string _)
  cases m with
  | nil =>
    simp only [↓R1, R2, R3, R4, TY, reduceIte, Nat.reduceEqDiff, Nat.reduceAdd, Nat.reduceMul, Nat.reduceLT, Nat.reduceLeDiff, reduceCtorEq, decide_true, decide_false, Int.reduceLE, Int.reduceLT, Int.reduceToNat, Int.reduceAdd, Int.reduceSub, Int.reduceMul, Int.reduceEq, q0, q1, S_size, List.length_nil, Int.ofNat_zero, Int.lt_irrefl]
    exact hend (by simp)
  | cons b k =>
    have h0 : byteAt (S (b :: k)) 0 = ((b.toNat : Nat) : Int) := rfl
    have h1 : (0 : Int) < ((k.length + 1 : Nat) : Int) := by omega
    simp only [↓R1, R2, R3, R4, TY, reduceIte, Nat.reduceEqDiff, Nat.reduceAdd, Nat.reduceMul, Nat.reduceLT, Nat.reduceLeDiff, reduceCtorEq, decide_true, decide_false, Int.reduceLE, Int.reduceLT, Int.reduceToNat, Int.reduceAdd, Int.reduceSub, Int.reduceMul, Int.reduceEq, q0, q1, S_size, h0, h1, S_extract]
    refine ⟨fun hz => ?_, fun hz => hend fun b' k' e => ?_⟩
    · have hb : b = 0 := UInt8.toNat_inj.1 (by simp; omega)
      refine loop_on ⟨rfl, k, ?_, by rw [← hm, hb, nv_zero_cons], q1⟩ ?_
      · simp [upd]
      · simp [q0, upd, ByteArray.size]
    · cases e; intro h; apply hz; rw [h]; rfl

theorem trimLeft_ok (l : List UInt8) : Sound Tryd.prog G 46 [.string (S l), .string (S [0])] fl A (.string (S (nb (nv l)))) A := by
  refine Sound.of mixed Tryd.func46 Tryd.ntmps46 Tryd.results46 (by kernel_rfl) rfl (by kernel_rfl) (by simp) fun hA => ?_
  have h0 : byteAt (S [0]) 0 = 0 := rfl
  have h1 : (S [0] = S []) = False := eq_false (by simp [S])
  have h3 : (S [0]).size = 1 := rfl
  have h4 : ((1 : Nat) : Int) = 1 := rfl
  have h5 : (0 : Int) < 1 := by decide
  have h6 : (0 : Int) < 128 := by decide
  simp only [↓R1, R2, R3, R4, TY, reduceIte, Nat.reduceEqDiff, Nat.reduceAdd, Nat.reduceMul, Nat.reduceLT, Nat.reduceLeDiff, reduceCtorEq, decide_true, decide_false, Int.reduceLE, Int.reduceLT, Int.reduceToNat, Int.reduceAdd, Int.reduceSub, Int.reduceMul, Int.reduceEq, S_inj, h0, h1, h3, h4, h5, h6]
  refine ⟨fun h => ?_, fun h => ?_⟩
  · subst h; exact Ended.back hA (Xt.refl _) (by simp [nv_nil, nb_zero]) (RB.string _)
  refine call_of (trimLeftByte_ok l) ?_
  simp only [↓R1, R2, R3, R4, TY, reduceIte, Nat.reduceEqDiff, Nat.reduceAdd, Nat.reduceMul, Nat.reduceLT, Nat.reduceLeDiff, reduceCtorEq, decide_true, decide_false, Int.reduceLE, Int.reduceLT, Int.reduceToNat, Int.reduceAdd, Int.reduceSub, Int.reduceMul, Int.reduceEq]
  exact Ended.back hA (Xt.refl _) rfl (RB.string _)

/-- What a law reads of a string. -/
def bare (l : List UInt8) : Nat := nv (l.take 60)
theorem bare_len (l : List UInt8) : (nb (bare l)).length ≤ 60 := Nat.le_trans (nb_len_nv _) (by rw [List.length_take]; omega)
theorem bare_ok (l : List UInt8) (hl : l.length ≤ 9223372036854775807) : Sound Tryd.prog G 13 [.string (S l)] fl A (.string (S (nb (bare l)))) A := by
  refine Sound.of mixed Tryd.func13 Tryd.ntmps13 Tryd.results13 (by kernel_rfl) rfl (by kernel_rfl) (by simp) fun hA => ?_
  simp only [↓R1, R2, R3, R4, TY, reduceIte, Nat.reduceEqDiff, Nat.reduceAdd, Nat.reduceMul, Nat.reduceLT, Nat.reduceLeDiff, reduceCtorEq, decide_true, decide_false, Int.reduceLE, Int.reduceLT, Int.reduceToNat, Int.reduceAdd, Int.reduceSub, Int.reduceMul, Int.reduceEq, S_size]
  have h1 : (if (60 : Int) < (l.length : Int) then 60 else (l.length : Int)) = ((min 60 l.length : Nat) : Int) := by split <;> omega
  have h2 : min 60 l.length ≤ l.length := Nat.min_le_right _ _
  simp only [↓R1, R2, R3, R4, TY, reduceIte, Nat.reduceEqDiff, Nat.reduceAdd, Nat.reduceMul, Nat.reduceLT, Nat.reduceLeDiff, reduceCtorEq, decide_true, decide_false, Int.reduceLE, Int.reduceLT, Int.reduceToNat, Int.reduceAdd, Int.reduceSub, Int.reduceMul, Int.reduceEq, S_size, h1, h2, S_extract, List.drop_zero]
  have h3 : l.take (min 60 l.length) = l.take 60 := by rw [List.take_eq_take_iff]; omega
  rw [h3]
  refine call_of (trimLeft_ok _) ?_
  simp only [↓R1, R2, R3, R4, TY, reduceIte, Nat.reduceEqDiff, Nat.reduceAdd, Nat.reduceMul, Nat.reduceLT, Nat.reduceLeDiff, reduceCtorEq, decide_true, decide_false, Int.reduceLE, Int.reduceLT, Int.reduceToNat, Int.reduceAdd, Int.reduceSub, Int.reduceMul, Int.reduceEq]
  exact Ended.back hA (Xt.refl _) rfl (RB.string _)
end
end Go.Proofs.YtpaffoiiipgkeaaDoor.Ab
