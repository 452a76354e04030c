/- Words: the law of IsName, IsNumber and Line. -/
import Derived.Test.YtjgkodhadgfbmaaDoorDf
namespace Go.Proofs.YtjgkodhadgfbmaaDoor.Ab
open Go.RowKit
set_option linter.unusedVariables false
set_option linter.unusedSimpArgs false
set_option maxRecDepth 100000

def cN (l : List UInt8) (at_ : Int) (j : Nat) : Nat := (l.take (min j at_.toNat)).count 10
theorem cN_step {l : List UInt8} {at_ : Int} {j : Nat} (hj : j < l.length) : cN l at_ (j + 1) = cN l at_ j + if (j : Int) < at_ ∧ l[j] = 10 then 1 else 0 := by
  unfold cN
  by_cases h : (j : Int) < at_
  · rw [show min (j + 1) at_.toNat = j + 1 by omega, show min j at_.toNat = j by omega, List.take_succ_eq_append_getElem hj, List.count_append]
    by_cases h2 : l[j] = 10
    · rw [if_pos ⟨h, h2⟩, h2]; rfl
    · rw [if_neg (fun h' => h2 h'.2), List.count_singleton, if_neg (by simpa using h2)]
  · rw [show min (j + 1) at_.toNat = min j at_.toNat by omega, if_neg (fun h' => h h'.1)]; rfl
theorem cN_le {l : List UInt8} {at_ : Int} {j : Nat} : cN l at_ j ≤ l.length := by
  unfold cN
  exact Nat.le_trans List.count_le_length (by simp; omega)
section
variable {G : Gl} {fl : Nat} {A : Hp}
/-- The law of IsName, IsNumber and Line. -/
theorem wordNames_run {l : List UInt8} {at_ : Int} (hl : l.length ≤ 1048576) :
    ∀ (μ : Mu) (w : World) (args' : Array Value), HR G μ fl A w → fl ≤ A.next → VRa μ A [.string (S l), .int .i64 at_].toArray args' →
    Calls Tryd.prog 3 args' w fun e w' => ∃ u, e = .returned u ∧ ∃ ν, VR ν A (.bool true) u ∧ HR G ν fl A w' ∧ Trans fl μ A w ν A w' := by
  refine calls_of mixed Tryd.func3 Tryd.ntmps3 Tryd.results3 (by kernel_rfl) rfl (by kernel_rfl) (by kernel_rfl) fun hA => ?_
  have fin : ∀ (b : Bool) (B : Hp), Xt A.next A B → b = true → Ended A (.bool b) B (.bool true) A := fun b B hx hb => Ended.back hA hx (congrArg _ hb) (RB.bool _)
  have hl2 : l.length < 9223372036854775807 := by omega
  simp only [↓R1, R2, R3, R4, TY, reduceIte, Nat.reduceEqDiff, Nat.reduceAdd, Nat.reduceMul, Nat.reduceLT, Nat.reduceLeDiff, reduceCtorEq, decide_true, decide_false, Int.reduceLE, Int.reduceLT, Int.reduceToNat, Int.reduceAdd, Int.reduceSub, Int.reduceMul, Int.reduceEq, FE, S_size]
  refine range_of 9 l.length (fun j τ B => B = A ∧ τ 0 = some (.string (S l)) ∧ τ 1 = some (.int .i64 at_) ∧ τ 5 = some (.int .i64 ((1 + cN l at_ j : Nat) : Int)) ∧ τ 8 = some (.int .i64 l.length) ∧ τ 9 = some (.int .i64 (j : Nat))) ?_ ?_
  · exact ⟨rfl, rfl, rfl, by simp [cN]; rfl, rfl, rfl⟩
  rintro j τ B hj ⟨rfl, q0, q1, q5, q8, q9⟩
  simp only [↓R1, R2, R3, R4, TY, reduceIte, Nat.reduceEqDiff, Nat.reduceAdd, Nat.reduceMul, Nat.reduceLT, Nat.reduceLeDiff, reduceCtorEq, decide_true, decide_false, Int.reduceLE, Int.reduceLT, Int.reduceToNat, Int.reduceAdd, Int.reduceSub, Int.reduceMul, Int.reduceEq, FE, S_size, q0, q1, q5, q8, q9]
  refine ⟨fun hlt => ?_, fun hlt => ?_⟩
  rotate_left
  · refine call_of worded_ok ?_
    simp only [↓R1, R2, R3, R4, TY, reduceIte, Nat.reduceEqDiff, Nat.reduceAdd, Nat.reduceMul, Nat.reduceLT, Nat.reduceLeDiff, reduceCtorEq, decide_true, decide_false, Int.reduceLE, Int.reduceLT, Int.reduceToNat, Int.reduceAdd, Int.reduceSub, Int.reduceMul, Int.reduceEq, FE, S_size, q0, q1, q5, q8, q9]
    refine call_of (isName_ok _) ?_
    simp only [↓R1, R2, R3, R4, TY, reduceIte, Nat.reduceEqDiff, Nat.reduceAdd, Nat.reduceMul, Nat.reduceLT, Nat.reduceLeDiff, reduceCtorEq, decide_true, decide_false, Int.reduceLE, Int.reduceLT, Int.reduceToNat, Int.reduceAdd, Int.reduceSub, Int.reduceMul, Int.reduceEq, FE, S_size, q0, q1, q5, q8, q9]
    refine call_of (nameIs_ok _) ?_
    simp only [↓R1, R2, R3, R4, TY, reduceIte, Nat.reduceEqDiff, Nat.reduceAdd, Nat.reduceMul, Nat.reduceLT, Nat.reduceLeDiff, reduceCtorEq, decide_true, decide_false, Int.reduceLE, Int.reduceLT, Int.reduceToNat, Int.reduceAdd, Int.reduceSub, Int.reduceMul, Int.reduceEq, FE, S_size, q0, q1, q5, q8, q9, beq_self_eq_true]
    refine call_of (isNumber_ok _ hl2) ?_
    simp only [↓R1, R2, R3, R4, TY, reduceIte, Nat.reduceEqDiff, Nat.reduceAdd, Nat.reduceMul, Nat.reduceLT, Nat.reduceLeDiff, reduceCtorEq, decide_true, decide_false, Int.reduceLE, Int.reduceLT, Int.reduceToNat, Int.reduceAdd, Int.reduceSub, Int.reduceMul, Int.reduceEq, FE, S_size, q0, q1, q5, q8, q9, beq_self_eq_true]
    refine call_of (numberIs_ok _ hl) ?_
    simp only [↓R1, R2, R3, R4, TY, reduceIte, Nat.reduceEqDiff, Nat.reduceAdd, Nat.reduceMul, Nat.reduceLT, Nat.reduceLeDiff, reduceCtorEq, decide_true, decide_false, Int.reduceLE, Int.reduceLT, Int.reduceToNat, Int.reduceAdd, Int.reduceSub, Int.reduceMul, Int.reduceEq, FE, S_size, q0, q1, q5, q8, q9, beq_self_eq_true]
    refine call_of (line_ok _ _ hl2) ?_
    have hjl : j = l.length := by omega
    subst hjl
    have e : (1 + (((l.take (atN l at_)).count 10 : Nat) : Int)) = ((1 + cN l at_ l.length : Nat) : Int) := by
      unfold cN atN; rw [Nat.min_comm]; omega
    simp only [↓R1, R2, R3, R4, TY, reduceIte, Nat.reduceEqDiff, Nat.reduceAdd, Nat.reduceMul, Nat.reduceLT, Nat.reduceLeDiff, reduceCtorEq, decide_true, decide_false, Int.reduceLE, Int.reduceLT, Int.reduceToNat, Int.reduceAdd, Int.reduceSub, Int.reduceMul, Int.reduceEq, FE, S_size, q0, q1, q5, q8, q9, e, beq_self_eq_true]
    exact fin _ _ (Xt.refl _) rfl
  have hb : byteAt (S l) (j : Int) = ((l[j].toNat : Nat) : Int) := S_at hlt
  have hj63 : j < 9223372036854775807 := by omega
  have hc := cN_le (l := l) (at_ := at_) (j := j)
  have hst := cN_step (at_ := at_) hlt
  have w1 : IntKind.i64.wrap (((1 + cN l at_ j : Nat) : Int) + 1) = ((1 + (cN l at_ j + 1) : Nat) : Int) := by rw [wrapI (by omega)]; omega
  simp only [↓R1, R2, R3, R4, TY, reduceIte, Nat.reduceEqDiff, Nat.reduceAdd, Nat.reduceMul, Nat.reduceLT, Nat.reduceLeDiff, reduceCtorEq, decide_true, decide_false, Int.reduceLE, Int.reduceLT, Int.reduceToNat, Int.reduceAdd, Int.reduceSub, Int.reduceMul, Int.reduceEq, FE, S_size, q0, q1, q5, q8, q9, hlt, hb, hj63, w1]
  refine ⟨fun h1 => ⟨fun h2 => ?_, fun h2 => ?_⟩, fun h1 => ?_⟩
  · have hb2 : l[j] = 10 := UInt8.toNat_inj.1 (by simp; omega)
    rw [if_pos ⟨h1, hb2⟩] at hst
    exact range_on q9 hlt rfl ⟨rfl, q0, q1, by rw [hst]; rfl, q8, rfl⟩
  · rw [if_neg (fun h => h2 (by rw [h.2]; rfl))] at hst
    exact range_on q9 hlt rfl ⟨rfl, q0, q1, by rw [hst]; exact q5, q8, rfl⟩
  · rw [if_neg (fun h => h1 h.1)] at hst
    exact range_on q9 hlt rfl ⟨rfl, q0, q1, by rw [hst]; exact q5, q8, rfl⟩
theorem wordNames_calls {s : ByteArray} {at_ : Int} (hl : s.size ≤ 1048576) :
    ∀ (μ : Mu) (w : World) (args' : Array Value), HR G μ fl A w → fl ≤ A.next → VRa μ A [.string s, .int .i64 at_].toArray args' →
    Calls Tryd.prog 3 args' w fun e w' => ∃ u, e = .returned u ∧ ∃ ν, VR ν A (.bool true) u ∧ HR G ν fl A w' ∧ Trans fl μ A w ν A w' := by
  rw [S_eq s] at hl ⊢
  rw [S_size] at hl
  exact wordNames_run hl
end
end Go.Proofs.YtjgkodhadgfbmaaDoor.Ab
