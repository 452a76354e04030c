/- Words: Valid, Text, the law of both. -/
import Derived.Test.YtjgkodhadgfbmaaDoorDf
import Derived.Lib.Join
namespace Go.Proofs.YtjgkodhadgfbmaaDoor.Ab
open Go.RowKit
set_option linter.unusedVariables false
set_option linter.unusedSimpArgs false
set_option maxRecDepth 100000

/-- A word with any kind and place. -/
structure Wx where
  kind : Int
  at_ : Int
  text : List UInt8
def wX (w : Wx) : List Value := [.int .i64 w.kind, .int .i64 w.at_, .string (S w.text)]
def valX (w : Wx) : Bool := if w.kind = 1 then nmB w.text else if w.kind = 2 then nuB w.text else decide (w.kind = 3 ∧ (w.text = [123] ∨ w.text = [125] ∨ w.text = [59]))
theorem sgn_one {b : UInt8} : pSgn b = true ↔ b = 123 ∨ b = 125 ∨ b = 59 := by
  unfold pSgn
  rw [decide_eq_true_iff]
  have h : ∀ n : UInt8, b.toNat = n.toNat ↔ b = n := fun n => UInt8.toNat_inj
  rw [← h 123, ← h 125, ← h 59]
  exact Iff.rfl
def jn (xs : List (List UInt8)) : List UInt8 := Lib.join xs [32]
theorem jn_snoc (xs : List (List UInt8)) (y : List UInt8) : jn (xs ++ [y]) = if xs = [] then y else jn xs ++ [32] ++ y := by
  cases xs with
  | nil => simp [jn, Lib.join_one]
  | cons x r =>
    rw [if_neg (by simp)]
    unfold jn
    rw [List.cons_append, Lib.join_cons, Lib.join_cons]
    simp [Lib.joinTail]
theorem jn_len {xs : List (List UInt8)} {m : Nat} (h : ∀ x ∈ xs, x.length ≤ m) : (jn xs).length ≤ xs.length * (m + 1) := by
  cases xs with
  | nil => simp [jn, Lib.join_nil]
  | cons x r =>
    unfold jn
    rw [Lib.join_cons, List.length_append]
    have h2 : ∀ r : List (List UInt8), (∀ x ∈ r, x.length ≤ m) → (Lib.joinTail [32] r).length ≤ r.length * (m + 1) := by
      intro r
      induction r with
      | nil => simp [Lib.joinTail]
      | cons y r ih =>
        intro hy
        have h3 := ih fun x hx => hy x (by simp [hx])
        have h4 := hy y (by simp)
        simp only [Lib.joinTail, List.map_cons, List.flatten_cons, List.length_append, List.length_cons, List.length_nil] at h3 ⊢
        rw [Nat.succ_mul]
        omega
    have h3 := h2 r fun x hx => h x (by simp [hx])
    have h4 := h x (by simp)
    simp only [List.length_cons, Nat.succ_mul]
    omega
section
variable {G : Gl} {fl : Nat} {A : Hp}
theorem wordValidX_ok (w : Wx) (hl : w.text.length ≤ 1048576) : Sound Tryd.prog G 16 [.agg (wX w).toArray] fl A (.bool (valX w)) A := by
  refine Sound.of mixed Tryd.func16 Tryd.ntmps16 Tryd.results16 (by kernel_rfl) rfl (by kernel_rfl) (by kernel_rfl) fun hA => ?_
  have fin : ∀ (x : Bool) (B : Hp), Xt A.next A B → x = valX w → Ended A (.bool x) B (.bool (valX w)) A := fun x B hx h => Ended.back hA hx (congrArg _ h) (RB.bool _)
  have hx : ∀ r, Xt A.next A (A.push r) := fun r => (Xt.refl A).push r
  have hV : valX w = if w.kind = 1 then nmB w.text else if w.kind = 2 then nuB w.text else decide (w.kind = 3 ∧ (w.text = [123] ∨ w.text = [125] ∨ w.text = [59])) := rfl
  simp only [wX]
  simp only [↓R1, R2, R3, R4, TY, reduceIte, Nat.reduceEqDiff, Nat.reduceAdd, Nat.reduceMul, Nat.reduceLT, Nat.reduceLeDiff, reduceCtorEq, decide_true, decide_false, Int.reduceLE, Int.reduceLT, Int.reduceToNat, Int.reduceAdd, Int.reduceSub, Int.reduceMul, Int.reduceEq, FE]
  have e0 : ∀ x : List UInt8, (S w.text = S x) = (w.text = x) := fun x => S_inj
  refine ⟨fun h1 => ?_, fun h1 => ⟨fun h2 => ?_, fun h2 => ⟨fun h3 => ⟨fun h4 => ?_, fun h4 => ⟨fun h5 => ?_, fun h5 => ?_⟩⟩, fun h3 => ?_⟩⟩⟩
  · refine call_of (nameIs_ok _) ?_
    simp only [↓R1, R2, R3, R4, TY, reduceIte, Nat.reduceEqDiff, Nat.reduceAdd, Nat.reduceMul, Nat.reduceLT, Nat.reduceLeDiff, reduceCtorEq, decide_true, decide_false, Int.reduceLE, Int.reduceLT, Int.reduceToNat, Int.reduceAdd, Int.reduceSub, Int.reduceMul, Int.reduceEq, FE]
    exact fin _ _ (hx _) (by rw [hV, if_pos h1])
  · refine call_of (numberIs_ok _ hl) ?_
    simp only [↓R1, R2, R3, R4, TY, reduceIte, Nat.reduceEqDiff, Nat.reduceAdd, Nat.reduceMul, Nat.reduceLT, Nat.reduceLeDiff, reduceCtorEq, decide_true, decide_false, Int.reduceLE, Int.reduceLT, Int.reduceToNat, Int.reduceAdd, Int.reduceSub, Int.reduceMul, Int.reduceEq, FE]
    exact fin _ _ (hx _) (by rw [hV, if_neg h1, if_pos h2])
  · refine fin _ _ (hx _) ?_
    rw [hV, if_neg h1, if_neg h2, decide_eq_true ⟨h3, .inl ((e0 [123]).mp h4)⟩]
  · refine fin _ _ (hx _) ?_
    rw [hV, if_neg h1, if_neg h2, decide_eq_true ⟨h3, .inr (.inl ((e0 [125]).mp h5))⟩]
  · refine fin _ _ (hx _) ?_
    rw [hV, if_neg h1, if_neg h2, decide_eq_decide]
    have n1 : ¬ w.text = [123] := fun e => h4 ((e0 [123]).mpr e)
    have n2 : ¬ w.text = [125] := fun e => h5 ((e0 [125]).mpr e)
    have n3 := (e0 [59])
    constructor
    · intro h; exact ⟨h3, .inr (.inr (n3.mp h))⟩
    · rintro ⟨_, h | h | h⟩
      · exact absurd h n1
      · exact absurd h n2
      · exact n3.mpr h
  · refine fin _ _ (hx _) ?_
    rw [hV, if_neg h1, if_neg h2, decide_eq_false (fun h => h3 h.1)]
theorem valid_ok (w : Wx) (hl : w.text.length ≤ 1048576) : Sound Tryd.prog G 17 [.agg (wX w).toArray] fl A (.bool (valX w)) A := by
  refine Sound.of mixed Tryd.func17 Tryd.ntmps17 Tryd.results17 (by kernel_rfl) rfl (by kernel_rfl) (by kernel_rfl) fun hA => ?_
  have fin : ∀ (x : Bool) (B : Hp), Xt A.next A B → x = valX w → Ended A (.bool x) B (.bool (valX w)) A := fun x B hx h => Ended.back hA hx (congrArg _ h) (RB.bool _)
  have hx : ∀ r, Xt A.next A (A.push r) := fun r => (Xt.refl A).push r
  have hV : valX w = if w.kind = 1 then nmB w.text else if w.kind = 2 then nuB w.text else decide (w.kind = 3 ∧ (w.text = [123] ∨ w.text = [125] ∨ w.text = [59])) := rfl
  simp only [wX]
  simp only [↓R1, R2, R3, R4, TY, reduceIte, Nat.reduceEqDiff, Nat.reduceAdd, Nat.reduceMul, Nat.reduceLT, Nat.reduceLeDiff, reduceCtorEq, decide_true, decide_false, Int.reduceLE, Int.reduceLT, Int.reduceToNat, Int.reduceAdd, Int.reduceSub, Int.reduceMul, Int.reduceEq, FE, S_size]
  refine ⟨fun h1 => ?_, fun h1 => ⟨fun h2 => ?_, fun h2 => ⟨fun h3 => ?_, fun h3 => ?_⟩⟩⟩
  · refine call_of (isName_ok _) ?_
    simp only [↓R1, R2, R3, R4, TY, reduceIte, Nat.reduceEqDiff, Nat.reduceAdd, Nat.reduceMul, Nat.reduceLT, Nat.reduceLeDiff, reduceCtorEq, decide_true, decide_false, Int.reduceLE, Int.reduceLT, Int.reduceToNat, Int.reduceAdd, Int.reduceSub, Int.reduceMul, Int.reduceEq, FE]
    exact fin _ _ (hx _) (by rw [hV, if_pos h1])
  · refine call_of (isNumber_ok _ (by omega)) ?_
    simp only [↓R1, R2, R3, R4, TY, reduceIte, Nat.reduceEqDiff, Nat.reduceAdd, Nat.reduceMul, Nat.reduceLT, Nat.reduceLeDiff, reduceCtorEq, decide_true, decide_false, Int.reduceLE, Int.reduceLT, Int.reduceToNat, Int.reduceAdd, Int.reduceSub, Int.reduceMul, Int.reduceEq, FE]
    exact fin _ _ (hx _) (by rw [hV, if_neg h1, if_pos h2])
  · have hlen : ∀ n : Nat, ((n : Int) = 1) = (n = 1) := fun n => propext (by omega)
    simp only [hlen]
    refine ⟨fun h4 => ?_, fun h4 => ?_⟩
    · have h0 : (0 : Int) < ((w.text.length : Nat) : Int) := by omega
      obtain ⟨b, hb⟩ : ∃ b, w.text = [b] := by
        cases ht : w.text with
        | nil => rw [ht] at h4; simp at h4
        | cons b r =>
          rw [ht] at h4
          have : r = [] := List.length_eq_zero_iff.1 (by simpa using h4)
          exact ⟨b, by rw [this]⟩
      have hb0 : byteAt (S w.text) 0 = ((b.toNat : Nat) : Int) := by rw [hb]; rfl
      simp only [↓R1, R2, R3, R4, TY, reduceIte, Nat.reduceEqDiff, Nat.reduceAdd, Nat.reduceMul, Nat.reduceLT, Nat.reduceLeDiff, reduceCtorEq, decide_true, decide_false, Int.reduceLE, Int.reduceLT, Int.reduceToNat, Int.reduceAdd, Int.reduceSub, Int.reduceMul, Int.reduceEq, FE, S_size, h0, hb0]
      refine call_of (sign_ok _) ?_
      simp only [↓R1, R2, R3, R4, TY, reduceIte, Nat.reduceEqDiff, Nat.reduceAdd, Nat.reduceMul, Nat.reduceLT, Nat.reduceLeDiff, reduceCtorEq, decide_true, decide_false, Int.reduceLE, Int.reduceLT, Int.reduceToNat, Int.reduceAdd, Int.reduceSub, Int.reduceMul, Int.reduceEq, FE]
      refine fin _ _ (hx _) ?_
      rw [hV, if_neg h1, if_neg h2, hb]
      have e : ((w.kind = 3) ∧ ([b] = [123] ∨ [b] = [125] ∨ [b] = [59])) ↔ pSgn b = true := by
        rw [sgn_one]; simp [h3]
      rw [Bool.eq_iff_iff, decide_eq_true_iff, e]
    · refine fin _ _ (hx _) ?_
      rw [hV, if_neg h1, if_neg h2, decide_eq_false]
      rintro ⟨_, h | h | h⟩ <;> (rw [h] at h4; exact h4 rfl)
  · refine fin _ _ (hx _) ?_
    rw [hV, if_neg h1, if_neg h2, decide_eq_false (fun h => h3 h.1)]
end
end Go.Proofs.YtjgkodhadgfbmaaDoor.Ab
