/- Numbers: what is written is read back, and texts are ordered as numbers are. -/
import Derived.Test.YtpaffoiiipgkeaaDoorNl
namespace Go.Proofs.YtpaffoiiipgkeaaDoor.Ab
open Go.RowKit
set_option linter.unusedVariables false
set_option linter.unusedSimpArgs false
set_option maxRecDepth 100000

theorem dv_go (l : List UInt8) : ∀ n, l.foldl (fun n b => n * 10 + (b.toNat - 48)) n = n * 10 ^ l.length + dv l := by
  induction l with
  | nil => intro n; simp [dv]
  | cons b l ih =>
    intro n
    have h1 := ih (n * 10 + (b.toNat - 48))
    have h2 := ih (0 * 10 + (b.toNat - 48))
    simp only [dv, List.foldl_cons, List.length_cons] at h1 h2 ⊢
    rw [h1, h2, Nat.pow_succ]
    simp only [Nat.zero_mul, Nat.zero_add, Nat.add_mul]
    rw [Nat.mul_assoc n, Nat.mul_comm 10]
    omega
theorem dv_cons (b : UInt8) (l : List UInt8) : dv (b :: l) = (b.toNat - 48) * 10 ^ l.length + dv l := by
  have := dv_go l (0 * 10 + (b.toNat - 48))
  simp only [dv, List.foldl_cons] at this ⊢
  rw [this]; simp
theorem dv_lt {l : List UInt8} (h : digits l) : dv l < 10 ^ l.length := by
  induction l with
  | nil => simp [dv]
  | cons b l ih =>
    have := ih fun x hx => h x (by simp [hx])
    have hb := h b (by simp)
    rw [dv_cons, List.length_cons, Nat.pow_succ]
    have h2 : (b.toNat - 48) * 10 ^ l.length + 10 ^ l.length ≤ 10 ^ l.length * 10 := by
      rw [Nat.mul_comm (10 ^ l.length) 10, ← Nat.succ_mul]
      exact Nat.mul_le_mul_right _ (by omega)
    omega
theorem compareBytes_dv : ∀ (a b : List UInt8), digits a → digits b → a.length = b.length → Go.Lib.compareBytes a b = cmpN (dv a) (dv b)
  | [], [], _, _, _ => by simp [Go.Lib.compareBytes, cmpN]
  | [], _ :: _, _, _, h => by simp at h
  | _ :: _, [], _, _, h => by simp at h
  | x :: a, y :: b, da, db, h => by
    have hl : a.length = b.length := by simpa using h
    have da' : digits a := fun z hz => da z (by simp [hz])
    have db' : digits b := fun z hz => db z (by simp [hz])
    have ih := compareBytes_dv a b da' db' hl
    have ha := dv_lt da'
    have hb := dv_lt db'
    have hx48 := da x (by simp)
    have hy48 := db y (by simp)
    rw [Go.Lib.compareBytes, dv_cons, dv_cons, hl, ih]
    rw [hl] at ha
    generalize (10 : Nat) ^ b.length = p at ha hb ⊢
    have mul : ∀ {u v : Nat}, u < v → u * p + p ≤ v * p := fun {u v} h => by
      rw [← Nat.succ_mul]; exact Nat.mul_le_mul_right _ h
    unfold cmpN
    rcases Nat.lt_trichotomy x.toNat y.toNat with h1 | h1 | h1
    · have := mul (show x.toNat - 48 < y.toNat - 48 by omega)
      have hx : x < y := h1
      rw [if_pos hx, if_pos (by omega)]
    · have hx : x = y := UInt8.toNat_inj.1 h1
      subst hx
      rw [if_neg (UInt8.lt_irrefl x), if_neg (UInt8.lt_irrefl x)]
      congr 1
      · exact propext ⟨fun h => by omega, fun h => by omega⟩
      · congr 1; exact propext ⟨fun h => by omega, fun h => by omega⟩
    · have := mul (show y.toNat - 48 < x.toNat - 48 by omega)
      have hy : y < x := h1
      have hx : ¬ x < y := fun h => by have h' : x.toNat < y.toNat := h; omega
      rw [if_neg hx, if_pos hy, if_neg (by omega), if_pos (by omega)]
theorem dec_digits (n : Nat) : digits (dec n) := by
  rw [dec]
  split
  · intro b hb; simp at hb; subst hb; decide
  · intro b hb; exact dl_digits n b (by simpa using hb)
theorem dv_dec (n : Nat) : dv (dec n) = n := by
  rw [dec]
  split
  · rename_i h; subst h; rfl
  · exact dv_dl n
theorem dl_len_mono : ∀ {m n : Nat}, m ≤ n → (dl m).length ≤ (dl n).length := by
  intro m
  induction m using Nat.strongRecOn with
  | _ m ih =>
    intro n h
    by_cases h0 : m = 0
    · rw [h0, dl_zero]; simp
    · rw [dl_pos h0, dl_pos (show n ≠ 0 by omega), List.length_cons, List.length_cons]
      have := ih (m / 10) (by omega) (n := n / 10) (by omega)
      omega
theorem dec_len {n : Nat} (h : n ≠ 0) : (dec n).length = (dl n).length := by rw [dec, if_neg h, List.length_reverse]
theorem dec_len_mono {m n : Nat} (h : m ≤ n) : (dec m).length ≤ (dec n).length := by
  have hpos : 0 < (dec n).length := List.length_pos_iff.2 (dec_ne n)
  by_cases h0 : m = 0
  · subst h0; rw [dec, if_pos rfl]; simp; omega
  · rw [dec_len h0, dec_len (show n ≠ 0 by omega)]; exact dl_len_mono h

section
variable {G : Gl} {fl : Nat} {A : Hp}

set_option maxHeartbeats 4000000 in
theorem natWritten_calls {l1 l2 : List UInt8} (k1 : l1.length ≤ 9223372036854775807) (k2 : l2.length ≤ 9223372036854775807) :
    ∀ (μ : Mu) (w : World) (args' : Array Value), HR G μ fl A w → fl ≤ A.next → VRa μ A [.string (S l1), .string (S l2)].toArray args' →
    Calls Tryd.prog 3 args' w fun e w' => ∃ u, e = .returned u ∧ ∃ ν, VR ν A (.bool true) u ∧ HR G ν fl A w' ∧ Trans fl μ A w ν A w' := by
  refine calls_of mixed Tryd.func3 Tryd.ntmps3 Tryd.results3 (by kernel_rfl) rfl (by kernel_rfl) (by simp) fun hA => ?_
  have fin : ∀ (b : Bool), b = true → Ended A (.bool b) A (.bool true) A := fun b hb => Ended.back hA (Xt.refl A) (congrArg _ hb) (RB.bool _)
  have hx := bare_len l1
  have hy := bare_len l2
  simp only [↓R1, R2, R3, R4, TY, reduceIte, Nat.reduceEqDiff, Nat.reduceAdd, Nat.reduceMul, Nat.reduceLT, Nat.reduceLeDiff, reduceCtorEq, decide_true, decide_false, Int.reduceLE, Int.reduceLT, Int.reduceToNat, Int.reduceAdd, Int.reduceSub, Int.reduceMul, Int.reduceEq]
  refine call_of natBegun_ok ?_
  simp only [↓R1, R2, R3, R4, TY, reduceIte, Nat.reduceEqDiff, Nat.reduceAdd, Nat.reduceMul, Nat.reduceLT, Nat.reduceLeDiff, reduceCtorEq, decide_true, decide_false, Int.reduceLE, Int.reduceLT, Int.reduceToNat, Int.reduceAdd, Int.reduceSub, Int.reduceMul, Int.reduceEq]
  refine call_of (bare_ok l1 k1) ?_
  simp only [↓R1, R2, R3, R4, TY, reduceIte, Nat.reduceEqDiff, Nat.reduceAdd, Nat.reduceMul, Nat.reduceLT, Nat.reduceLeDiff, reduceCtorEq, decide_true, decide_false, Int.reduceLE, Int.reduceLT, Int.reduceToNat, Int.reduceAdd, Int.reduceSub, Int.reduceMul, Int.reduceEq]
  refine call_of (bare_ok l2 k2) ?_
  simp only [↓R1, R2, R3, R4, TY, reduceIte, Nat.reduceEqDiff, Nat.reduceAdd, Nat.reduceMul, Nat.reduceLT, Nat.reduceLeDiff, reduceCtorEq, decide_true, decide_false, Int.reduceLE, Int.reduceLT, Int.reduceToNat, Int.reduceAdd, Int.reduceSub, Int.reduceMul, Int.reduceEq]
  generalize bare l1 = x at hx ⊢
  generalize bare l2 = y at hy ⊢
  refine call_of (textN (by omega)) ?_
  simp only [↓R1, R2, R3, R4, TY, reduceIte, Nat.reduceEqDiff, Nat.reduceAdd, Nat.reduceMul, Nat.reduceLT, Nat.reduceLeDiff, reduceCtorEq, decide_true, decide_false, Int.reduceLE, Int.reduceLT, Int.reduceToNat, Int.reduceAdd, Int.reduceSub, Int.reduceMul, Int.reduceEq]
  refine call_of (textN (by omega)) ?_
  simp only [↓R1, R2, R3, R4, TY, reduceIte, Nat.reduceEqDiff, Nat.reduceAdd, Nat.reduceMul, Nat.reduceLT, Nat.reduceLeDiff, reduceCtorEq, decide_true, decide_false, Int.reduceLE, Int.reduceLT, Int.reduceToNat, Int.reduceAdd, Int.reduceSub, Int.reduceMul, Int.reduceEq]
  have hlx : (dec x).length ≤ 180 := by
    by_cases h0 : x = 0
    · subst h0; decide
    · rw [dec_len h0]; exact nb_dec_len hx
  refine call_of (read_ok (dec x)) ?_
  rw [read_dec (by omega)]
  have hcat : (S [48]).size + (S (dec x)).size ≤ 9223372036854775807 := by simp only [S_size]; simp; omega
  have hcat2 : 1 + (dec x).length ≤ 9223372036854775807 := by omega
  simp only [↓R1, R2, R3, R4, TY, reduceIte, Nat.reduceEqDiff, Nat.reduceAdd, Nat.reduceMul, Nat.reduceLT, Nat.reduceLeDiff, reduceCtorEq, decide_true, decide_false, Int.reduceLE, Int.reduceLT, Int.reduceToNat, Int.reduceAdd, Int.reduceSub, Int.reduceMul, Int.reduceEq, S_append, S_size, List.length_cons, List.length_nil, hcat2, List.cons_append, List.nil_append]
  refine call_of (read_ok (48 :: dec x)) ?_
  rw [read_zero (dec_ne x) (by omega)]
  have hcmp : cmpN x y > 0 ∨ (dec x).length ≤ (dec y).length := by
    rcases Nat.lt_or_ge y x with h | h
    · left; unfold cmpN; rw [if_neg (by omega), if_pos h]; decide
    · right; exact dec_len_mono h
  have hn0 : ((dec x).length = (dec y).length) → Go.Lib.compareBytes (dec x) (dec y) = cmpN x y := fun h => by
    rw [compareBytes_dv _ _ (dec_digits x) (dec_digits y) h, dv_dec, dv_dec]
  have hcast : (((dec x).length : Int) = ((dec y).length : Int)) = ((dec x).length = (dec y).length) := propext Int.ofNat_inj
  simp only [↓R1, R2, R3, R4, TY, reduceIte, Nat.reduceEqDiff, Nat.reduceAdd, Nat.reduceMul, Nat.reduceLT, Nat.reduceLeDiff, reduceCtorEq, decide_true, decide_false, Int.reduceLE, Int.reduceLT, Int.reduceToNat, Int.reduceAdd, Int.reduceSub, Int.reduceMul, Int.reduceEq, append_eq, List.cons_append, List.nil_append, S_nb, S_size, hcast]
  refine ⟨fun h1 => ⟨fun h2 => ?_, fun _ => fin _ rfl⟩, fun h1 => ?_⟩
  · refine call_of (compare_ok _ _) ?_
    simp only [↓R1, R2, R3, R4, TY, reduceIte, Nat.reduceEqDiff, Nat.reduceAdd, Nat.reduceMul, Nat.reduceLT, Nat.reduceLeDiff, reduceCtorEq, decide_true, decide_false, Int.reduceLE, Int.reduceLT, Int.reduceToNat, Int.reduceAdd, Int.reduceSub, Int.reduceMul, Int.reduceEq, S_nb]
    refine call_of (cmpN_ok _ _) ?_
    rw [hn0 h2]
    simp only [↓R1, R2, R3, R4, TY, reduceIte, Nat.reduceEqDiff, Nat.reduceAdd, Nat.reduceMul, Nat.reduceLT, Nat.reduceLeDiff, reduceCtorEq, decide_true, decide_false, Int.reduceLE, Int.reduceLT, Int.reduceToNat, Int.reduceAdd, Int.reduceSub, Int.reduceMul, Int.reduceEq, S_nb]
    exact fin _ (by simp)
  · refine call_of (cmpN_ok _ _) ?_
    have hp : cmpN x y > 0 := by rcases hcmp with h | h; exact h; omega
    have hp2 : (0 < cmpN x y) = True := eq_true hp
    have hne : ((dec x).length = (dec y).length) = False := eq_false (by omega)
    simp only [↓R1, R2, R3, R4, TY, reduceIte, Nat.reduceEqDiff, Nat.reduceAdd, Nat.reduceMul, Nat.reduceLT, Nat.reduceLeDiff, reduceCtorEq, decide_true, decide_false, Int.reduceLE, Int.reduceLT, Int.reduceToNat, Int.reduceAdd, Int.reduceSub, Int.reduceMul, Int.reduceEq, S_nb, S_size, hp2, hcast, hne]
    exact fin _ (by simp)
end
end Go.Proofs.YtpaffoiiipgkeaaDoor.Ab
