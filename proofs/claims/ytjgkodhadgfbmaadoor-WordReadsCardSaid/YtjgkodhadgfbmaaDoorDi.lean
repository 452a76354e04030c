/- Words: the reference's reading. -/
import Derived.Test.YtjgkodhadgfbmaaDoorDh
namespace Go.Proofs.YtjgkodhadgfbmaaDoor.Ab
open Go.RowKit
set_option linter.unusedVariables false
set_option linter.unusedSimpArgs false
set_option maxRecDepth 100000

def clsB (b : UInt8) : Nat := if 97 ≤ b.toNat ∧ b.toNat ≤ 122 then 110 else if 48 ≤ b.toNat ∧ b.toNat ≤ 57 then 100 else if b.toNat = 123 ∨ b.toNat = 125 ∨ b.toNat = 59 then 115 else
  if b.toNat = 32 ∨ b.toNat = 10 then 98 else if b.toNat = 35 then 99 else if b.toNat = 47 then 47 else 120
theorem cls_let {b : UInt8} : (clsB b = 110) = (pLet b = true) := by
  apply propext; unfold clsB pLet; rw [decide_eq_true_iff]; (repeat' split) <;> omega
theorem cls_dig {b : UInt8} : (clsB b = 100) = (pDig b = true) := by
  apply propext; unfold clsB pDig; rw [decide_eq_true_iff]; (repeat' split) <;> omega
theorem cls_sgn {b : UInt8} : (clsB b = 115) = (pSgn b = true) := by
  apply propext; unfold clsB pSgn; rw [decide_eq_true_iff]; (repeat' split) <;> omega
theorem cls_35 {b : UInt8} : (clsB b = 99) = (b = 35) := by
  apply propext; rw [← u35]; unfold clsB; (repeat' split) <;> omega
theorem cls_47 {b : UInt8} : (clsB b = 47) = (b = 47) := by
  apply propext
  rw [show b = 47 ↔ b.toNat = 47 from ⟨fun h => by rw [h]; rfl, fun h => UInt8.toNat_inj.1 (by simpa using h)⟩]
  unfold clsB; (repeat' split) <;> omega
theorem cls_120 {b : UInt8} : (clsB b = 120) = (kdB b = 0 ∧ pBlk b = false ∧ b ≠ 35 ∧ b ≠ 47) := by
  apply propext
  rw [show b ≠ 47 ↔ b.toNat ≠ 47 from ⟨fun h e => h (UInt8.toNat_inj.1 (by simpa using e)), fun h e => h (by rw [e]; rfl)⟩, show b ≠ 35 ↔ b.toNat ≠ 35 from ⟨fun h e => h (u35.1 e), fun h e => h (u35.2 e)⟩]
  unfold clsB kdB pLet pDig pSgn pBlk
  simp only [decide_eq_true_iff, decide_eq_false_iff_not]
  (repeat' split) <;> omega
section
variable {G : Gl} {fl : Nat} {A : Hp}
set_option maxHeartbeats 4000000 in
theorem class_ok (b : UInt8) : Sound Tryd.prog G 26 [.int .u8 ((b.toNat : Nat) : Int)] fl A (.int .u8 ((clsB b : Nat) : Int)) A := by
  refine Sound.of mixed Tryd.func26 Tryd.ntmps26 Tryd.results26 (by kernel_rfl) rfl (by kernel_rfl) (by kernel_rfl) fun hA => ?_
  have fin : ∀ x : Nat, x = clsB b → Ended A (.int .u8 ((x : Nat) : Int)) A (.int .u8 ((clsB b : Nat) : Int)) A := fun x h => Ended.back hA (Xt.refl A) (by rw [h]) (RB.int _ _)
  simp only [↓R1, R2, R3, R4, TY, reduceIte, Nat.reduceEqDiff, Nat.reduceAdd, Nat.reduceMul, Nat.reduceLT, Nat.reduceLeDiff, reduceCtorEq, decide_true, decide_false, Int.reduceLE, Int.reduceLT, Int.reduceToNat, Int.reduceAdd, Int.reduceSub, Int.reduceMul, Int.reduceEq, FE]
  repeat' with_reducible refine And.intro (fun _ => ?_) (fun _ => ?_)
  all_goals
    refine Ended.back hA (Xt.refl A) (congrArg (Value.int _) ?_) (RB.int _ _)
    unfold clsB
    (repeat' split) <;> omega
theorem wordValid_ok (w : Wd) (hl : w.text.length ≤ 1048576) : Sound Tryd.prog G 16 [.agg (wC w).toArray] fl A (.bool (valB w)) A := by
  refine Sound.of mixed Tryd.func16 Tryd.ntmps16 Tryd.results16 (by kernel_rfl) rfl (by kernel_rfl) (by kernel_rfl) fun hA => ?_
  have fin : ∀ (x : Bool) (B : Hp), Xt A.next A B → x = valB w → Ended A (.bool x) B (.bool (valB w)) A := fun x B hx h => Ended.back hA hx (congrArg _ h) (RB.bool _)
  have hx : ∀ r, Xt A.next A (A.push r) := fun r => (Xt.refl A).push r
  have hV : valB w = if w.kind = 1 then nmB w.text else if w.kind = 2 then nuB w.text else decide (w.kind = 3 ∧ (w.text = [123] ∨ w.text = [125] ∨ w.text = [59])) := rfl
  simp only [wC]
  have c1 : ∀ n : Nat, ((n : Int) = 1) = (n = 1) := fun n => propext (by omega)
  have c2 : ∀ n : Nat, ((n : Int) = 2) = (n = 2) := fun n => propext (by omega)
  have c3 : ∀ n : Nat, ((n : Int) = 3) = (n = 3) := fun n => propext (by omega)
  simp only [↓R1, R2, R3, R4, TY, reduceIte, Nat.reduceEqDiff, Nat.reduceAdd, Nat.reduceMul, Nat.reduceLT, Nat.reduceLeDiff, reduceCtorEq, decide_true, decide_false, Int.reduceLE, Int.reduceLT, Int.reduceToNat, Int.reduceAdd, Int.reduceSub, Int.reduceMul, Int.reduceEq, FE, c1, c2, c3]
  have e0 : ∀ x : List UInt8, (S w.text = S x) = (w.text = x) := fun x => S_inj
  refine ⟨fun h1 => ?_, fun h1 => ⟨fun h2 => ?_, fun h2 => ⟨fun h3 => ⟨fun h4 => ?_, fun h4 => ⟨fun h5 => ?_, fun h5 => ?_⟩⟩, fun h3 => ?_⟩⟩⟩
  · refine call_of (nameIs_ok _) ?_
    simp only [↓R1, R2, R3, R4, TY, reduceIte, Nat.reduceEqDiff, Nat.reduceAdd, Nat.reduceMul, Nat.reduceLT, Nat.reduceLeDiff, reduceCtorEq, decide_true, decide_false, Int.reduceLE, Int.reduceLT, Int.reduceToNat, Int.reduceAdd, Int.reduceSub, Int.reduceMul, Int.reduceEq, FE, c1, c2, c3]
    exact fin _ _ (hx _) (by rw [hV, if_pos h1])
  · refine call_of (numberIs_ok _ hl) ?_
    simp only [↓R1, R2, R3, R4, TY, reduceIte, Nat.reduceEqDiff, Nat.reduceAdd, Nat.reduceMul, Nat.reduceLT, Nat.reduceLeDiff, reduceCtorEq, decide_true, decide_false, Int.reduceLE, Int.reduceLT, Int.reduceToNat, Int.reduceAdd, Int.reduceSub, Int.reduceMul, Int.reduceEq, FE, c1, c2, c3]
    exact fin _ _ (hx _) (by rw [hV, if_neg h1, if_pos h2])
  · refine fin _ _ (hx _) ?_
    rw [hV, if_neg h1, if_neg h2, decide_eq_true ⟨h3, .inl ((e0 [123]).mp h4)⟩]
  · refine fin _ _ (hx _) ?_
    rw [hV, if_neg h1, if_neg h2, decide_eq_true ⟨h3, .inr (.inl ((e0 [125]).mp h5))⟩]
  · refine fin _ _ (hx _) ?_
    rw [hV, if_neg h1, if_neg h2, decide_eq_decide]
    have n1 : ¬ w.text = [123] := fun e => h4 ((e0 [123]).mpr e)
    have n2 : ¬ w.text = [125] := fun e => h5 ((e0 [125]).mpr e)
    have n3 := (e0 [59])
    constructor
    · intro h; exact ⟨h3, .inr (.inr (n3.mp h))⟩
    · rintro ⟨_, h | h | h⟩
      · exact absurd h n1
      · exact absurd h n2
      · exact n3.mpr h
  · refine fin _ _ (hx _) ?_
    rw [hV, if_neg h1, if_neg h2, decide_eq_false (fun h => h3 h.1)]
end
end Go.Proofs.YtjgkodhadgfbmaaDoor.Ab
