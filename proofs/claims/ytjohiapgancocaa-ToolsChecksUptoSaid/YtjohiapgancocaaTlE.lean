/- Tools: the fact about tools, and the law of First. -/
import Derived.Test.YtjohiapgancocaaTlD
import Derived.Test.YtjohiapgancocaaAb21
namespace Go.Proofs.Ytjohiapgancocaa.Ab
open Go.RowKit
set_option linter.unusedVariables false
set_option linter.unusedSimpArgs false
set_option maxRecDepth 100000

section
variable {G : Gl} {fl : Nat} {A : Hp}

theorem tooled_ok : Sound Try.prog G 12 [] fl A (.bool true) A := by
  refine Sound.of mixed Try.func12 Try.ntmps12 Try.results12 (by kernel_rfl) rfl (by kernel_rfl) (by kernel_rfl) fun hA => ?_
  have hz : zl [.int .i64 0, .int .i64 0, .int .i64 0] 6 = [.int .i64 0, .int .i64 0, .int .i64 0, .int .i64 0, .int .i64 0, .int .i64 0] := rfl
  simp only [↓R1, R2, R3, R4, TY, reduceIte, Nat.reduceEqDiff, Nat.reduceAdd, Nat.reduceMul, Nat.reduceLT, Nat.reduceLeDiff, reduceCtorEq, decide_true, decide_false, hz]
  refine call_of (first_ok (l := [⟨0, 0, 5⟩, ⟨0, 6, 4⟩]) (q := ⟨0, 0, 2⟩) ⟨by simp [Us.cells], .inr (.inr ⟨_, _, _, 0, _, rfl, rfl, rfl, by rw [Hp.push_blk, if_pos rfl], fun j x hj => by simpa [Us.cells] using hj⟩)⟩) ?_
  rw [show firstR [⟨0, 0, 5⟩, ⟨0, 6, 4⟩] ⟨0, 0, 2⟩ = (10, 0) from by decide +kernel]
  simp only [↓R1, R2, R3, R4, TY, reduceIte, Nat.reduceEqDiff, Nat.reduceAdd, Nat.reduceMul, Nat.reduceLT, Nat.reduceLeDiff, reduceCtorEq, decide_true, decide_false]
  refine call_of (valid_ok ⟨5, 1, 1⟩) ?_
  simp only [↓R1, R2, R3, R4, TY, reduceIte, Nat.reduceEqDiff, Nat.reduceAdd, Nat.reduceMul, Nat.reduceLT, Nat.reduceLeDiff, reduceCtorEq, decide_true, decide_false]
  exact Ended.back hA (by simp (maxDischargeDepth := 20) only [xt_push, xt_refl]) (congrArg _ (by decide)) (RB.bool _)

/-- The law of First. -/
theorem toolsFirst_calls {v : Value} {l : List Us} {q : Us} (hs : Sl A 3 v (l.map Us.cells)) :
    ∀ (μ : Mu) (w : World) (args' : Array Value), HR G μ fl A w → fl ≤ A.next → VRa μ A [v, .int .i64 q.tool, .int .i64 q.from_, .int .i64 q.long].toArray args' →
    Calls Try.prog 3 args' w fun e w' => ∃ u, e = .returned u ∧ ∃ ν, VR ν A (.bool true) u ∧ HR G ν fl A w' ∧ Trans fl μ A w ν A w' := by
  refine calls_of mixed Try.func3 Try.ntmps3 Try.results3 (by kernel_rfl) rfl (by kernel_rfl) (by kernel_rfl) fun hA => ?_
  have fin : ∀ (b : Bool), b = true → Ended A (.bool b) A (.bool true) A := fun b hb => Ended.back hA (Xt.refl A) (congrArg _ hb) (RB.bool _)
  simp only [↓R1, R2, R3, R4, TY, reduceIte, Nat.reduceEqDiff, Nat.reduceAdd, Nat.reduceMul, Nat.reduceLT, Nat.reduceLeDiff, reduceCtorEq, decide_true, decide_false]
  refine call_of (first_ok hs) ?_
  simp only [↓R1, R2, R3, R4, TY, reduceIte, Nat.reduceEqDiff, Nat.reduceAdd, Nat.reduceMul, Nat.reduceLT, Nat.reduceLeDiff, reduceCtorEq, decide_true, decide_false]
  refine call_of (usesFault_ok hs) ?_
  simp only [↓R1, R2, R3, R4, TY, reduceIte, Nat.reduceEqDiff, Nat.reduceAdd, Nat.reduceMul, Nat.reduceLT, Nat.reduceLeDiff, reduceCtorEq, decide_true, decide_false]
  have h0 : chk l = 0 → q.valid → firstR l q = if ff l q.tool q.long.toNat q.from_.toNat (2001 - q.long - q.from_).toNat < 0 then (0, 19) else (ff l q.tool q.long.toNat q.from_.toNat (2001 - q.long - q.from_).toNat, 0) := fun h1 h2 => by
    rw [firstR, if_neg (by simpa using h1), if_neg (by simpa using h2)]
  have h1 : chk l = 0 → ¬ q.valid → firstR l q = (0, 1) := fun h1 h2 => by rw [firstR, if_neg (by simpa using h1), if_pos h2]
  have h2 : chk l ≠ 0 → firstR l q = (0, chk l) := fun h1 => by rw [firstR, if_pos h1]
  refine ⟨fun hc => ?_, fun hc => ?_⟩
  · refine call_of (useIs_ok q) ?_
    simp only [↓R1, R2, R3, R4, TY, reduceIte, Nat.reduceEqDiff, Nat.reduceAdd, Nat.reduceMul, Nat.reduceLT, Nat.reduceLeDiff, reduceCtorEq, decide_true, decide_false]
    refine ⟨fun hv => ?_, fun hv => ?_⟩
    · simp only [hc]
      simp only [↓R1, R2, R3, R4, TY, reduceIte, Nat.reduceEqDiff, Nat.reduceAdd, Nat.reduceMul, Nat.reduceLT, Nat.reduceLeDiff, reduceCtorEq, decide_true, decide_false]
      obtain ⟨h60, hval⟩ := chk_valid hc
      refine call_of (firstOf_ok h60 hval hv.2.2.1 (by have := hv.2.2.2.2.2; have := hv.2.2.2.1; omega) hv.2.2.2.1 hv.2.2.2.2.1 hs) ?_
      simp only [↓R1, R2, R3, R4, TY, reduceIte, Nat.reduceEqDiff, Nat.reduceAdd, Nat.reduceMul, Nat.reduceLT, Nat.reduceLeDiff, reduceCtorEq, decide_true, decide_false]
      rw [h0 hc hv]
      refine ⟨fun hn => ?_, fun hn => ?_⟩
      · refine call_of tooled_ok ?_
        rw [if_pos hn]
        simp only [↓R1, R2, R3, R4, TY, reduceIte, Nat.reduceEqDiff, Nat.reduceAdd, Nat.reduceMul, Nat.reduceLT, Nat.reduceLeDiff, reduceCtorEq, decide_true, decide_false]
        exact fin _ (by simp [hc])
      · refine call_of tooled_ok ?_
        rw [if_neg hn]
        simp only [↓R1, R2, R3, R4, TY, reduceIte, Nat.reduceEqDiff, Nat.reduceAdd, Nat.reduceMul, Nat.reduceLT, Nat.reduceLeDiff, reduceCtorEq, decide_true, decide_false]
        exact fin _ (by simp [hc])
    · refine ⟨fun h => absurd h (by decide), fun _ => ?_⟩
      refine call_of tooled_ok ?_
      rw [h1 hc hv]
      simp only [↓R1, R2, R3, R4, TY, reduceIte, Nat.reduceEqDiff, Nat.reduceAdd, Nat.reduceMul, Nat.reduceLT, Nat.reduceLeDiff, reduceCtorEq, decide_true, decide_false]
      exact fin _ (by simp)
  · refine ⟨fun h => absurd h hc, fun _ => ?_⟩
    refine call_of tooled_ok ?_
    rw [h2 hc]
    simp only [↓R1, R2, R3, R4, TY, reduceIte, Nat.reduceEqDiff, Nat.reduceAdd, Nat.reduceMul, Nat.reduceLT, Nat.reduceLeDiff, reduceCtorEq, decide_true, decide_false]
    exact fin _ (by simp)
end
end Go.Proofs.Ytjohiapgancocaa.Ab
