/- Facts: clashes of two facts, in the program and in the reference. -/
import Derived.Test.YthchdnaabamplaaFb
namespace Go.Proofs.Ythchdnaabamplaa.Ab
open Go.RowKit
set_option linter.unusedVariables false
set_option linter.unusedSimpArgs false
set_option maxRecDepth 100000

/-- What two facts that hold at once must not share. -/
def shr (f g : Fa) : Prop :=
  (f.1 = 1 ∧ g.1 = 1 ∧ (f.2.1 = g.2.1 ∨ f.2.2 = g.2.2)) ∨ (f.1 = 2 ∧ g.1 = 2 ∧ (f.2.1 = g.2.1 ∨ f.2.2 = g.2.2)) ∨ (f.1 = 6 ∧ g.1 = 6 ∧ (f.2.1 = g.2.1 ∨ f.2.2 = g.2.2)) ∨
  (f.1 = 1 ∧ g.1 = 2 ∧ f.2.1 = g.2.2) ∨ (f.1 = 2 ∧ g.1 = 1 ∧ g.2.1 = f.2.2) ∨ (f.1 = 1 ∧ g.1 = 4 ∧ f.2.2 = g.2.1) ∨ (f.1 = 4 ∧ g.1 = 1 ∧ g.2.2 = f.2.1) ∨
  (f.1 = 2 ∧ g.1 = 3 ∧ f.2.1 = g.2.1) ∨ (f.1 = 3 ∧ g.1 = 2 ∧ g.2.1 = f.2.1)
instance (f g : Fa) : Decidable (shr f g) := by unfold shr; infer_instance
def fclash (f g : Fa) : Prop := fOk f ∧ fOk g ∧ f ≠ g ∧ shr f g
instance (f g : Fa) : Decidable (fclash f g) := by unfold fclash; infer_instance
theorem shr_comm {f g : Fa} : shr f g → shr g f := by
  rintro (⟨a, b, c⟩ | ⟨a, b, c⟩ | ⟨a, b, c⟩ | ⟨a, b, c⟩ | ⟨a, b, c⟩ | ⟨a, b, c⟩ | ⟨a, b, c⟩ | ⟨a, b, c⟩ | ⟨a, b, c⟩)
  · exact .inl ⟨b, a, c.imp Eq.symm Eq.symm⟩
  · exact .inr (.inl ⟨b, a, c.imp Eq.symm Eq.symm⟩)
  · exact .inr (.inr (.inl ⟨b, a, c.imp Eq.symm Eq.symm⟩))
  · exact .inr (.inr (.inr (.inr (.inl ⟨b, a, c⟩))))
  · exact .inr (.inr (.inr (.inl ⟨b, a, c⟩)))
  · exact .inr (.inr (.inr (.inr (.inr (.inr (.inl ⟨b, a, c⟩))))))
  · exact .inr (.inr (.inr (.inr (.inr (.inl ⟨b, a, c⟩)))))
  · exact .inr (.inr (.inr (.inr (.inr (.inr (.inr (.inr ⟨b, a, c⟩)))))))
  · exact .inr (.inr (.inr (.inr (.inr (.inr (.inr (.inl ⟨b, a, c⟩)))))))
/-- What a fact takes for itself. -/
def tk (f : Fa) : List (Int × Int) := if f.1 = 1 then [(1, f.2.1), (2, f.2.2)] else if f.1 = 2 then [(1, f.2.2), (3, f.2.1)] else if f.1 = 3 then [(3, f.2.1)] else if f.1 = 4 then [(2, f.2.1)] else if f.1 = 6 then [(4, f.2.1), (5, f.2.2)] else []
def pC (x : Int × Int) : List Value := [.int .i64 x.1, .int .i64 x.2]
def pV (x : Int × Int) : Value := .agg [Value.int .i64 x.1, .int .i64 x.2].toArray
theorem limB_one {k : Int} (h : k = 3 ∨ k = 4) : limB k = 1 := by rcases h with rfl | rfl <;> rfl
theorem tk_shr {f g : Fa} (hf : fOk f) (hg : fOk g) (hne : f ≠ g) : (∃ x ∈ tk f, x ∈ tk g) ↔ shr f g := by
  obtain ⟨k, a, b⟩ := f
  obtain ⟨k', a', b'⟩ := g
  obtain ⟨f1, f2, f3, f4⟩ := hf
  obtain ⟨g1, g2, g3, g4⟩ := hg
  simp only at *
  have hne' : ¬ (k = k' ∧ a = a' ∧ b = b') := fun h => hne (by simp [h])
  rcases kinds k with rfl | rfl | rfl | rfl | rfl | rfl | ⟨h1, h2, h3, h4, h5, h6⟩ <;> rcases kinds k' with rfl | rfl | rfl | rfl | rfl | rfl | ⟨q1, q2, q3, q4, q5, q6⟩ <;>
    simp_all [tk, shr, limA, limB] <;> omega

section
variable {G : Gl} {fl : Nat} {A : Hp}
set_option maxHeartbeats 4000000 in
theorem fclash_ok (f g : Fa) : Sound Try.prog G 7 [fV f, fV g] fl A (.bool (decide (fclash f g))) A := by
  refine Sound.of mixed Try.func7 Try.ntmps7 Try.results7 (by kernel_rfl) rfl (by kernel_rfl) (by kernel_rfl) fun hA => ?_
  have hv1 := fun fl A => fvalid_ok (G := G) (fl := fl) (A := A) f
  have hv2 := fun fl A => fvalid_ok (G := G) (fl := fl) (A := A) g
  have heq := eqD_fact f g
  have hgd := guard_fact
  have hf0 : fl ≤ A.next := hA.floor
  have hf1 : fl ≤ A.next + 1 := by omega
  simp only [fV] at *
  simp only [↓R1x, R2, R3, R4, TY, reduceIte, Nat.reduceEqDiff, Nat.reduceAdd, Nat.reduceMul, Nat.reduceLT, Nat.reduceLeDiff, reduceCtorEq, decide_true, decide_false, Int.reduceLE, Int.reduceLT, Int.reduceToNat, Int.reduceAdd, Int.reduceSub, Int.reduceMul, Int.reduceEq, FE, Nat.add_assoc, Bool.not_false, Bool.not_true, heq, hgd, hf0, hf1]
  simp only [k_then]
  simp only [↓R1x, R2, R3, R4, TY, reduceIte, Nat.reduceEqDiff, Nat.reduceAdd, Nat.reduceMul, Nat.reduceLT, Nat.reduceLeDiff, reduceCtorEq, decide_true, decide_false, Int.reduceLE, Int.reduceLT, Int.reduceToNat, Int.reduceAdd, Int.reduceSub, Int.reduceMul, Int.reduceEq, FE, Nat.add_assoc, Bool.not_false, Bool.not_true, heq, hgd, hf0, hf1]
  refine call_of (hv1 _ _) ?_
  simp only [↓R1x, R2, R3, R4, TY, reduceIte, Nat.reduceEqDiff, Nat.reduceAdd, Nat.reduceMul, Nat.reduceLT, Nat.reduceLeDiff, reduceCtorEq, decide_true, decide_false, Int.reduceLE, Int.reduceLT, Int.reduceToNat, Int.reduceAdd, Int.reduceSub, Int.reduceMul, Int.reduceEq, FE, Nat.add_assoc, Bool.not_false, Bool.not_true, heq, hgd, hf0, hf1]
  refine ⟨fun h1 => ?_, fun h1 => ?_⟩
  rotate_left
  · simp only [↓R1, R2, R3, R4, TY, reduceIte, Nat.reduceEqDiff, Nat.reduceAdd, Nat.reduceMul, Nat.reduceLT, Nat.reduceLeDiff, reduceCtorEq, decide_true, decide_false, Int.reduceLE, Int.reduceLT, Int.reduceToNat, Int.reduceAdd, Int.reduceSub, Int.reduceMul, Int.reduceEq, FE, Nat.add_assoc, Bool.not_false, Bool.not_true, heq, hgd, hf0, hf1]
    exact Ended.back hA (((Xt.refl A).push _).push _) (congrArg _ (dec_f fun h => h1 h.1)) (RB.bool _)
  refine call_of (hv2 _ _) ?_
  simp only [↓R1x, R2, R3, R4, TY, reduceIte, Nat.reduceEqDiff, Nat.reduceAdd, Nat.reduceMul, Nat.reduceLT, Nat.reduceLeDiff, reduceCtorEq, decide_true, decide_false, Int.reduceLE, Int.reduceLT, Int.reduceToNat, Int.reduceAdd, Int.reduceSub, Int.reduceMul, Int.reduceEq, FE, Nat.add_assoc, Bool.not_false, Bool.not_true, heq, hgd, hf0, hf1]
  refine ⟨fun h2 => ?_, fun h2 => ?_⟩
  rotate_left
  · simp only [↓R1, R2, R3, R4, TY, reduceIte, Nat.reduceEqDiff, Nat.reduceAdd, Nat.reduceMul, Nat.reduceLT, Nat.reduceLeDiff, reduceCtorEq, decide_true, decide_false, Int.reduceLE, Int.reduceLT, Int.reduceToNat, Int.reduceAdd, Int.reduceSub, Int.reduceMul, Int.reduceEq, FE, Nat.add_assoc, Bool.not_false, Bool.not_true, heq, hgd, hf0, hf1]
    exact Ended.back hA (((Xt.refl A).push _).push _) (congrArg _ (dec_f fun h => h2 h.2.1)) (RB.bool _)
  clear hv1 hv2
  simp only [k_then]
  simp only [↓R1x, R2, R3, R4, TY, reduceIte, Nat.reduceEqDiff, Nat.reduceAdd, Nat.reduceMul, Nat.reduceLT, Nat.reduceLeDiff, reduceCtorEq, decide_true, decide_false, Int.reduceLE, Int.reduceLT, Int.reduceToNat, Int.reduceAdd, Int.reduceSub, Int.reduceMul, Int.reduceEq, FE, Nat.add_assoc, Bool.not_false, Bool.not_true, heq, hgd, hf0, hf1]
  refine ⟨fun h3 => ?_, fun h3 => ?_⟩
  · simp only [↓R1, R2, R3, R4, TY, reduceIte, Nat.reduceEqDiff, Nat.reduceAdd, Nat.reduceMul, Nat.reduceLT, Nat.reduceLeDiff, reduceCtorEq, decide_true, decide_false, Int.reduceLE, Int.reduceLT, Int.reduceToNat, Int.reduceAdd, Int.reduceSub, Int.reduceMul, Int.reduceEq, FE, Nat.add_assoc, Bool.not_false, Bool.not_true, heq, hgd, hf0, hf1]
    exact Ended.back hA (((Xt.refl A).push _).push _) (congrArg _ (dec_f fun h => h.2.2.1 h3)) (RB.bool _)
  have hd : decide (fclash f g) = decide (shr f g) := decide_eq_decide.2 ⟨fun h => h.2.2.2, fun h => ⟨h1, h2, h3, h⟩⟩
  rw [hd]
  clear hd h3 heq
  obtain ⟨k, a, b⟩ := f
  obtain ⟨k', a', b'⟩ := g
  have kk : ∀ (k a b : Int), fOk (k, a, b) → k = 1 ∨ k = 2 ∨ k = 3 ∨ k = 4 ∨ k = 5 ∨ k = 6 := fun k a b h1 => by
    rcases kinds k with h | h | h | h | h | h | ⟨a1, a2, a3, a4, a5, a6⟩
    case inr.inr.inr.inr.inr.inr => have := h1.2.1; simp only [limA, a1, a2, a3, a4, a5, a6, if_false] at this; have := h1.1; simp only at this; omega
    all_goals omega
  have k1 := kk _ _ _ h1
  have k2 := kk _ _ _ h2
  clear kk h1 h2
  refine go_on (fun τ B => Xt A.next A B ∧ B.next = A.next + 2 ∧ τ 2 = some (.pointer (some ⟨A.next, 0, some 0⟩)) ∧ τ 3 = some (.pointer (some ⟨A.next + 1, 0, some 0⟩)) ∧
      B.blk A.next = some (.row [.int .i64 k, .int .i64 a, .int .i64 b] 0 3) ∧ B.blk (A.next + 1) = some (.row [.int .i64 k', .int .i64 a', .int .i64 b'] 0 3)) ⟨?_, ?_, ?_, ?_, ?_, ?_⟩ ?_
  · simp only [xt_push, xt_refl]
  · rfl
  · rfl
  · rfl
  · simp [Hp.push_blk]
  · simp [Hp.push_blk]
  rintro τ B ⟨hx, hn, t2, t3, c0, c1⟩
  have g0 : ∀ j, B.get G ⟨A.next, j, some 0⟩ = ([.int .i64 k, .int .i64 a, .int .i64 b] : List Value)[j]? := fun j => by simp only [Hp.get, c0, if_true]
  have g1 : ∀ j, B.get G ⟨A.next + 1, j, some 0⟩ = ([.int .i64 k', .int .i64 a', .int .i64 b'] : List Value)[j]? := fun j => by simp only [Hp.get, c1, if_true]
  simp only [↓R1x, R2, R3, R4, TY, reduceIte, Nat.reduceEqDiff, Nat.reduceAdd, Nat.reduceMul, Nat.reduceLT, Nat.reduceLeDiff, reduceCtorEq, decide_true, decide_false, Int.reduceLE, Int.reduceLT, Int.reduceToNat, Int.reduceAdd, Int.reduceSub, Int.reduceMul, Int.reduceEq, t2, t3, c0, c1, g0, g1, hn, FE, Nat.add_assoc, Bool.not_false, Bool.not_true, hgd, hf0, hf1]
  simp only [k_then]
  simp only [↓R1x, R2, R3, R4, TY, reduceIte, Nat.reduceEqDiff, Nat.reduceAdd, Nat.reduceMul, Nat.reduceLT, Nat.reduceLeDiff, reduceCtorEq, decide_true, decide_false, Int.reduceLE, Int.reduceLT, Int.reduceToNat, Int.reduceAdd, Int.reduceSub, Int.reduceMul, Int.reduceEq, t2, t3, c0, c1, g0, g1, hn, FE, Nat.add_assoc, Bool.not_false, Bool.not_true, hgd, hf0, hf1]
  refine merge (fun τ B => ∃ k1 a1 b1 k2 a2 b2, Xt A.next A B ∧ B.next = A.next + 2 ∧ τ 2 = some (.pointer (some ⟨A.next, 0, some 0⟩)) ∧ τ 3 = some (.pointer (some ⟨A.next + 1, 0, some 0⟩)) ∧
      B.blk A.next = some (.row [.int .i64 k1, .int .i64 a1, .int .i64 b1] 0 3) ∧ B.blk (A.next + 1) = some (.row [.int .i64 k2, .int .i64 a2, .int .i64 b2] 0 3) ∧ k1 ≤ k2 ∧
      (k1 = 1 ∨ k1 = 2 ∨ k1 = 3 ∨ k1 = 4 ∨ k1 = 5 ∨ k1 = 6) ∧ (shr (k1, a1, b1) (k2, a2, b2) ↔ shr (k, a, b) (k', a', b'))) (fun tail => ⟨fun h => tail _ _ ?_, fun h => tail _ _ ?_⟩) ?_
  · refine ⟨k', a', b', k, a, b, ?_, ?_, (by simp [upd_eq, t2]), (by simp [upd_eq, t3]), ?_, ?_, by omega, k2, ?_⟩
    · simp (maxDischargeDepth := 20) only [xt_push, xt_put, hx, Nat.le_refl, Nat.le_add_right]
    · simp [hn]
    · simp [Hp.put_blk]
    · simp [Hp.put_blk]
    · exact ⟨shr_comm, shr_comm⟩
  · exact ⟨k, a, b, k', a', b', hx, hn, (by simp [upd_eq, t2]), (by simp [upd_eq, t3]), c0, c1, by omega, k1, Iff.rfl⟩
  clear hx hn t2 t3 c0 c1 g0 g1 k1 k2
  rintro τ B ⟨p, u, v, q, x, y, hx, hn, t2, t3, c0, c1, hpq, kp, hsh⟩
  rw [show decide (shr (k, a, b) (k', a', b')) = decide (shr (p, u, v) (q, x, y)) from decide_eq_decide.2 hsh.symm]
  clear hsh
  have g0 : ∀ j, B.get G ⟨A.next, j, some 0⟩ = ([.int .i64 p, .int .i64 u, .int .i64 v] : List Value)[j]? := fun j => by simp only [Hp.get, c0, if_true]
  have g1 : ∀ j, B.get G ⟨A.next + 1, j, some 0⟩ = ([.int .i64 q, .int .i64 x, .int .i64 y] : List Value)[j]? := fun j => by simp only [Hp.get, c1, if_true]
  rcases kp with rfl | rfl | rfl | rfl | rfl | rfl
  all_goals
    simp only [↓R1, R2, R3, R4, TY, reduceIte, Nat.reduceEqDiff, Nat.reduceAdd, Nat.reduceMul, Nat.reduceLT, Nat.reduceLeDiff, reduceCtorEq, decide_true, decide_false, Int.reduceLE, Int.reduceLT, Int.reduceToNat, Int.reduceAdd, Int.reduceSub, Int.reduceMul, Int.reduceEq, t2, t3, c0, c1, g0, g1, hn, FE, Nat.add_assoc, Bool.not_false, Bool.not_true, hgd, hf0, hf1]
    repeat' (first | (refine And.intro ?_ ?_) | intro _)
    all_goals
      refine Ended.back hA hx (congrArg _ ?_) (RB.bool _)
      first
        | (refine dec_f ?_; simp only [shr, Int.reduceEq, false_and, and_false, or_false, false_or, true_and, and_true, not_false_eq_true] <;> omega)
        | (refine dec_t ?_; simp only [shr, Int.reduceEq, false_and, and_false, or_false, false_or, true_and, and_true, not_false_eq_true] <;> omega)
        | (refine dec_i ?_; simp only [shr, Int.reduceEq, false_and, and_false, or_false, false_or, true_and, and_true, not_false_eq_true] <;> omega)
end
end Go.Proofs.Ythchdnaabamplaa.Ab
