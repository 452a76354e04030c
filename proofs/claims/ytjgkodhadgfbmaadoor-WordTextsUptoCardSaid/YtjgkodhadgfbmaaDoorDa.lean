/- Words: classes of bytes, names, digits, runs. -/
import Derived.Test.YtjgkodhadgfbmaaDoorNb
import Derived.Test.YtjgkodhadgfbmaaDoorLa
namespace Go.Proofs.YtjgkodhadgfbmaaDoor.Ab
open Go.RowKit
set_option linter.unusedVariables false
set_option linter.unusedSimpArgs false
set_option maxRecDepth 100000

def pLet (b : UInt8) : Bool := decide (97 ≤ b.toNat ∧ b.toNat ≤ 122)
def pDig (b : UInt8) : Bool := decide (48 ≤ b.toNat ∧ b.toNat ≤ 57)
def pBlk (b : UInt8) : Bool := decide (b.toNat = 32 ∨ b.toNat = 10)
def pSgn (b : UInt8) : Bool := decide (b.toNat = 123 ∨ b.toNat = 125 ∨ b.toNat = 59)
def uB (b : UInt8) : Value := .int .u8 ((b.toNat : Nat) : Int)

section
variable {G : Gl} {fl : Nat} {A : Hp}
theorem letter_ok (b : UInt8) : Sound Tryd.prog G 18 [.int .u8 ((b.toNat : Nat) : Int)] fl A (.bool (pLet b)) A := by
  refine Sound.of mixed Tryd.func18 Tryd.ntmps18 Tryd.results18 (by kernel_rfl) rfl (by kernel_rfl) (by kernel_rfl) fun hA => ?_
  have fin : ∀ x : Bool, x = pLet b → Ended A (.bool x) A (.bool (pLet b)) A := fun x h => Ended.back hA (Xt.refl A) (congrArg _ h) (RB.bool _)
  simp only [↓R1, R2, R3, R4, TY, reduceIte, Nat.reduceEqDiff, Nat.reduceAdd, Nat.reduceMul, Nat.reduceLT, Nat.reduceLeDiff, reduceCtorEq, decide_true, decide_false, Int.reduceLE, Int.reduceLT, Int.reduceToNat, Int.reduceAdd, Int.reduceSub, Int.reduceMul, Int.reduceEq, FE]
  refine ⟨fun h => fin _ ?_, fun h => fin _ ?_⟩
  · unfold pLet; rw [decide_eq_decide]; omega
  · unfold pLet; rw [eq_comm, decide_eq_false_iff_not]; omega
theorem digit_ok (b : UInt8) : Sound Tryd.prog G 38 [.int .u8 ((b.toNat : Nat) : Int)] fl A (.bool (pDig b)) A := by
  refine Sound.of mixed Tryd.func38 Tryd.ntmps38 Tryd.results38 (by kernel_rfl) rfl (by kernel_rfl) (by kernel_rfl) fun hA => ?_
  have fin : ∀ x : Bool, x = pDig b → Ended A (.bool x) A (.bool (pDig b)) A := fun x h => Ended.back hA (Xt.refl A) (congrArg _ h) (RB.bool _)
  simp only [↓R1, R2, R3, R4, TY, reduceIte, Nat.reduceEqDiff, Nat.reduceAdd, Nat.reduceMul, Nat.reduceLT, Nat.reduceLeDiff, reduceCtorEq, decide_true, decide_false, Int.reduceLE, Int.reduceLT, Int.reduceToNat, Int.reduceAdd, Int.reduceSub, Int.reduceMul, Int.reduceEq, FE]
  refine ⟨fun h => fin _ ?_, fun h => fin _ ?_⟩
  · unfold pDig; rw [decide_eq_decide]; omega
  · unfold pDig; rw [eq_comm, decide_eq_false_iff_not]; omega
theorem blank_ok (b : UInt8) : Sound Tryd.prog G 43 [.int .u8 ((b.toNat : Nat) : Int)] fl A (.bool (pBlk b)) A := by
  refine Sound.of mixed Tryd.func43 Tryd.ntmps43 Tryd.results43 (by kernel_rfl) rfl (by kernel_rfl) (by kernel_rfl) fun hA => ?_
  have fin : ∀ x : Bool, x = pBlk b → Ended A (.bool x) A (.bool (pBlk b)) A := fun x h => Ended.back hA (Xt.refl A) (congrArg _ h) (RB.bool _)
  simp only [↓R1, R2, R3, R4, TY, reduceIte, Nat.reduceEqDiff, Nat.reduceAdd, Nat.reduceMul, Nat.reduceLT, Nat.reduceLeDiff, reduceCtorEq, decide_true, decide_false, Int.reduceLE, Int.reduceLT, Int.reduceToNat, Int.reduceAdd, Int.reduceSub, Int.reduceMul, Int.reduceEq, FE]
  refine ⟨fun h => fin _ ?_, fun h => fin _ ?_⟩
  · unfold pBlk; rw [eq_comm, decide_eq_true_iff]; omega
  · unfold pBlk; rw [decide_eq_decide]; omega
theorem sign_ok (b : UInt8) : Sound Tryd.prog G 29 [.int .u8 ((b.toNat : Nat) : Int)] fl A (.bool (pSgn b)) A := by
  refine Sound.of mixed Tryd.func29 Tryd.ntmps29 Tryd.results29 (by kernel_rfl) rfl (by kernel_rfl) (by kernel_rfl) fun hA => ?_
  have fin : ∀ x : Bool, x = pSgn b → Ended A (.bool x) A (.bool (pSgn b)) A := fun x h => Ended.back hA (Xt.refl A) (congrArg _ h) (RB.bool _)
  simp only [↓R1, R2, R3, R4, TY, reduceIte, Nat.reduceEqDiff, Nat.reduceAdd, Nat.reduceMul, Nat.reduceLT, Nat.reduceLeDiff, reduceCtorEq, decide_true, decide_false, Int.reduceLE, Int.reduceLT, Int.reduceToNat, Int.reduceAdd, Int.reduceSub, Int.reduceMul, Int.reduceEq, FE]
  refine ⟨fun h => fin _ ?_, fun h => ⟨fun h2 => fin _ ?_, fun h2 => fin _ ?_⟩⟩
  · unfold pSgn; rw [eq_comm, decide_eq_true_iff]; omega
  · unfold pSgn; rw [eq_comm, decide_eq_true_iff]; omega
  · unfold pSgn; rw [decide_eq_decide]; omega
/-- A name. -/
def nmB (l : List UInt8) : Bool := decide (l ≠ [] ∧ l.length ≤ 12) && l.all pLet
/-- One to nine digits. -/
def dgB (l : List UInt8) : Bool := decide (l ≠ [] ∧ l.length ≤ 9) && l.all pDig
theorem isName_ok (l : List UInt8) : Sound Tryd.prog G 7 [.string (S l)] fl A (.bool (nmB l)) A := by
  refine Sound.of mixed Tryd.func7 Tryd.ntmps7 Tryd.results7 (by kernel_rfl) rfl (by kernel_rfl) (by kernel_rfl) fun hA => ?_
  have fin : ∀ x : Bool, x = nmB l → Ended A (.bool x) A (.bool (nmB l)) A := fun x h => Ended.back hA (Xt.refl A) (congrArg _ h) (RB.bool _)
  simp only [↓R1, R2, R3, R4, TY, reduceIte, Nat.reduceEqDiff, Nat.reduceAdd, Nat.reduceMul, Nat.reduceLT, Nat.reduceLeDiff, reduceCtorEq, decide_true, decide_false, Int.reduceLE, Int.reduceLT, Int.reduceToNat, Int.reduceAdd, Int.reduceSub, Int.reduceMul, Int.reduceEq, FE, S_size]
  refine ⟨fun h => fin _ ?_, fun h => ⟨fun h2 => fin _ ?_, fun h2 => ?_⟩⟩
  · have : l = [] := List.length_eq_zero_iff.1 (by omega)
    simp [nmB, this]
  · simp only [nmB]
    rw [decide_eq_false (fun h => by omega), Bool.false_and]
  have hd : decide (l ≠ [] ∧ l.length ≤ 12) = true := decide_eq_true ⟨fun e => h (by rw [e]; rfl), by omega⟩
  have hB : nmB l = l.all pLet := by rw [nmB, hd, Bool.true_and]
  refine range_of 14 l.length (fun j τ B => B = A ∧ τ 0 = some (.string (S l)) ∧ τ 13 = some (.int .i64 l.length) ∧ τ 14 = some (.int .i64 (j : Nat)) ∧ (l.take j).all pLet = true) ?_ ?_
  · exact ⟨rfl, rfl, rfl, rfl, rfl⟩
  rintro j τ B hj ⟨rfl, q0, q13, q14, hall⟩
  simp only [↓R1, R2, R3, R4, TY, reduceIte, Nat.reduceEqDiff, Nat.reduceAdd, Nat.reduceMul, Nat.reduceLT, Nat.reduceLeDiff, reduceCtorEq, decide_true, decide_false, Int.reduceLE, Int.reduceLT, Int.reduceToNat, Int.reduceAdd, Int.reduceSub, Int.reduceMul, Int.reduceEq, FE, S_size, q0, q13, q14]
  refine ⟨fun hlt => ?_, fun hlt => ?_⟩
  rotate_left
  · refine fin _ ?_
    rw [hB, eq_comm]
    rwa [List.take_of_length_le (by omega)] at hall
  have hb : byteAt (S l) (j : Int) = ((l[j].toNat : Nat) : Int) := S_at hlt
  have hj63 : j < 9223372036854775807 := by omega
  have key : (l.take (j + 1)).all pLet = pLet l[j] := by rw [List.take_succ_eq_append_getElem hlt, List.all_append, hall]; simp
  cases hc : pLet l[j]
  · simp only [↓R1, R2, R3, R4, TY, reduceIte, Nat.reduceEqDiff, Nat.reduceAdd, Nat.reduceMul, Nat.reduceLT, Nat.reduceLeDiff, reduceCtorEq, decide_true, decide_false, Int.reduceLE, Int.reduceLT, Int.reduceToNat, Int.reduceAdd, Int.reduceSub, Int.reduceMul, Int.reduceEq, FE, S_size, q0, q13, q14, hlt, hb, hj63, hc]
    refine call_of (letter_ok _) ?_
    simp only [↓R1, R2, R3, R4, TY, reduceIte, Nat.reduceEqDiff, Nat.reduceAdd, Nat.reduceMul, Nat.reduceLT, Nat.reduceLeDiff, reduceCtorEq, decide_true, decide_false, Int.reduceLE, Int.reduceLT, Int.reduceToNat, Int.reduceAdd, Int.reduceSub, Int.reduceMul, Int.reduceEq, FE, S_size, q0, q13, q14, hlt, hb, hj63, hc]
    refine fin _ ?_
    rw [hB, eq_comm, List.all_eq_false]
    exact ⟨l[j], List.getElem_mem hlt, by simp [hc]⟩
  · simp only [↓R1, R2, R3, R4, TY, reduceIte, Nat.reduceEqDiff, Nat.reduceAdd, Nat.reduceMul, Nat.reduceLT, Nat.reduceLeDiff, reduceCtorEq, decide_true, decide_false, Int.reduceLE, Int.reduceLT, Int.reduceToNat, Int.reduceAdd, Int.reduceSub, Int.reduceMul, Int.reduceEq, FE, S_size, q0, q13, q14, hlt, hb, hj63, hc]
    refine call_of (letter_ok _) ?_
    simp only [↓R1, R2, R3, R4, TY, reduceIte, Nat.reduceEqDiff, Nat.reduceAdd, Nat.reduceMul, Nat.reduceLT, Nat.reduceLeDiff, reduceCtorEq, decide_true, decide_false, Int.reduceLE, Int.reduceLT, Int.reduceToNat, Int.reduceAdd, Int.reduceSub, Int.reduceMul, Int.reduceEq, FE, S_size, q0, q13, q14, hlt, hb, hj63, hc]
    exact range_on q14 hlt rfl ⟨rfl, q0, q13, rfl, by rw [key]; exact hc⟩
theorem digits_ok (l : List UInt8) : Sound Tryd.prog G 21 [.string (S l)] fl A (.bool (dgB l)) A := by
  refine Sound.of mixed Tryd.func21 Tryd.ntmps21 Tryd.results21 (by kernel_rfl) rfl (by kernel_rfl) (by kernel_rfl) fun hA => ?_
  have fin : ∀ x : Bool, x = dgB l → Ended A (.bool x) A (.bool (dgB l)) A := fun x h => Ended.back hA (Xt.refl A) (congrArg _ h) (RB.bool _)
  simp only [↓R1, R2, R3, R4, TY, reduceIte, Nat.reduceEqDiff, Nat.reduceAdd, Nat.reduceMul, Nat.reduceLT, Nat.reduceLeDiff, reduceCtorEq, decide_true, decide_false, Int.reduceLE, Int.reduceLT, Int.reduceToNat, Int.reduceAdd, Int.reduceSub, Int.reduceMul, Int.reduceEq, FE, S_size]
  refine ⟨fun h => fin _ ?_, fun h => ⟨fun h2 => fin _ ?_, fun h2 => ?_⟩⟩
  · have : l = [] := List.length_eq_zero_iff.1 (by omega)
    simp [dgB, this]
  · simp only [dgB]
    rw [decide_eq_false (fun h => by omega), Bool.false_and]
  have hd : decide (l ≠ [] ∧ l.length ≤ 9) = true := decide_eq_true ⟨fun e => h (by rw [e]; rfl), by omega⟩
  have hB : dgB l = l.all pDig := by rw [dgB, hd, Bool.true_and]
  refine range_of 14 l.length (fun j τ B => B = A ∧ τ 0 = some (.string (S l)) ∧ τ 13 = some (.int .i64 l.length) ∧ τ 14 = some (.int .i64 (j : Nat)) ∧ (l.take j).all pDig = true) ?_ ?_
  · exact ⟨rfl, rfl, rfl, rfl, rfl⟩
  rintro j τ B hj ⟨rfl, q0, q13, q14, hall⟩
  simp only [↓R1, R2, R3, R4, TY, reduceIte, Nat.reduceEqDiff, Nat.reduceAdd, Nat.reduceMul, Nat.reduceLT, Nat.reduceLeDiff, reduceCtorEq, decide_true, decide_false, Int.reduceLE, Int.reduceLT, Int.reduceToNat, Int.reduceAdd, Int.reduceSub, Int.reduceMul, Int.reduceEq, FE, S_size, q0, q13, q14]
  refine ⟨fun hlt => ?_, fun hlt => ?_⟩
  rotate_left
  · refine fin _ ?_
    rw [hB, eq_comm]
    rwa [List.take_of_length_le (by omega)] at hall
  have hb : byteAt (S l) (j : Int) = ((l[j].toNat : Nat) : Int) := S_at hlt
  have hj63 : j < 9223372036854775807 := by omega
  have key : (l.take (j + 1)).all pDig = pDig l[j] := by rw [List.take_succ_eq_append_getElem hlt, List.all_append, hall]; simp
  cases hc : pDig l[j]
  · simp only [↓R1, R2, R3, R4, TY, reduceIte, Nat.reduceEqDiff, Nat.reduceAdd, Nat.reduceMul, Nat.reduceLT, Nat.reduceLeDiff, reduceCtorEq, decide_true, decide_false, Int.reduceLE, Int.reduceLT, Int.reduceToNat, Int.reduceAdd, Int.reduceSub, Int.reduceMul, Int.reduceEq, FE, S_size, q0, q13, q14, hlt, hb, hj63, hc]
    refine call_of (digit_ok _) ?_
    simp only [↓R1, R2, R3, R4, TY, reduceIte, Nat.reduceEqDiff, Nat.reduceAdd, Nat.reduceMul, Nat.reduceLT, Nat.reduceLeDiff, reduceCtorEq, decide_true, decide_false, Int.reduceLE, Int.reduceLT, Int.reduceToNat, Int.reduceAdd, Int.reduceSub, Int.reduceMul, Int.reduceEq, FE, S_size, q0, q13, q14, hlt, hb, hj63, hc]
    refine fin _ ?_
    rw [hB, eq_comm, List.all_eq_false]
    exact ⟨l[j], List.getElem_mem hlt, by simp [hc]⟩
  · simp only [↓R1, R2, R3, R4, TY, reduceIte, Nat.reduceEqDiff, Nat.reduceAdd, Nat.reduceMul, Nat.reduceLT, Nat.reduceLeDiff, reduceCtorEq, decide_true, decide_false, Int.reduceLE, Int.reduceLT, Int.reduceToNat, Int.reduceAdd, Int.reduceSub, Int.reduceMul, Int.reduceEq, FE, S_size, q0, q13, q14, hlt, hb, hj63, hc]
    refine call_of (digit_ok _) ?_
    simp only [↓R1, R2, R3, R4, TY, reduceIte, Nat.reduceEqDiff, Nat.reduceAdd, Nat.reduceMul, Nat.reduceLT, Nat.reduceLeDiff, reduceCtorEq, decide_true, decide_false, Int.reduceLE, Int.reduceLT, Int.reduceToNat, Int.reduceAdd, Int.reduceSub, Int.reduceMul, Int.reduceEq, FE, S_size, q0, q13, q14, hlt, hb, hj63, hc]
    exact range_on q14 hlt rfl ⟨rfl, q0, q13, rfl, by rw [key]; exact hc⟩

/-- How many bytes of a class a list begins with. -/
def runL (p : UInt8 → Bool) (l : List UInt8) : Nat := (l.takeWhile p).length
theorem runL_le (p : UInt8 → Bool) (l : List UInt8) : runL p l ≤ l.length := by
  unfold runL
  induction l with
  | nil => simp
  | cons b l ih => rw [List.takeWhile_cons]; split <;> simp; omega
theorem runL_drop {p : UInt8 → Bool} {l : List UInt8} {k : Nat} (h : k < l.length) : runL p (l.drop k) = if p l[k] then runL p (l.drop (k + 1)) + 1 else 0 := by
  rw [List.drop_eq_getElem_cons h, runL, List.takeWhile_cons]
  split
  · simp [runL]
  · rfl
theorem run_ok {g : FuncId} {p : UInt8 → Bool} (hp : ∀ (b : UInt8) (fl : Nat) (A : Hp), Sound Tryd.prog G g [.int .u8 ((b.toNat : Nat) : Int)] fl A (.bool (p b)) A) {l : List UInt8} (hl : l.length < 9223372036854775807) {k : Nat} (hk : k ≤ l.length) :
    Sound Tryd.prog G 44 [.string (S l), .int .i64 (k : Nat), .func (.func g) #[] #[]] fl A (.int .i64 ((k + runL p (l.drop k) : Nat) : Int)) A := by
  refine Sound.of mixed Tryd.func44 Tryd.ntmps44 Tryd.results44 (by kernel_rfl) rfl (by kernel_rfl) (by kernel_rfl) fun hA => ?_
  simp only [↓R1, R2, R3, R4, TY, reduceIte, Nat.reduceEqDiff, Nat.reduceAdd, Nat.reduceMul, Nat.reduceLT, Nat.reduceLeDiff, reduceCtorEq, decide_true, decide_false, Int.reduceLE, Int.reduceLT, Int.reduceToNat, Int.reduceAdd, Int.reduceSub, Int.reduceMul, Int.reduceEq, FE, S_size]
  refine loop_of (fun τ B => B = A ∧ ∃ j : Nat, j ≤ l.length ∧ j + runL p (l.drop j) = k + runL p (l.drop k) ∧ τ 0 = some (.string (S l)) ∧ τ 1 = some (.int .i64 (j : Nat)) ∧ τ 2 = some (.func (.func g) #[] #[]))
    (fun τ A => match τ 1 with | some (.int _ x) => l.length - x.toNat | _ => 0) ⟨rfl, k, hk, rfl, rfl, rfl, rfl⟩ ?_
  rintro τ B ⟨rfl, j, hj, hr, q0, q1, q2⟩
  simp only [↓R1, R2, R3, R4, TY, reduceIte, Nat.reduceEqDiff, Nat.reduceAdd, Nat.reduceMul, Nat.reduceLT, Nat.reduceLeDiff, reduceCtorEq, decide_true, decide_false, Int.reduceLE, Int.reduceLT, Int.reduceToNat, Int.reduceAdd, Int.reduceSub, Int.reduceMul, Int.reduceEq, FE, S_size, q0, q1, q2]
  refine ⟨fun hlt => ?_, fun hlt => ?_⟩
  rotate_left
  · refine Ended.back hA (Xt.refl _) ?_ (RB.int _ _)
    have : j = l.length := by omega
    subst this
    rw [List.drop_length] at hr
    rw [← hr]; rfl
  have hlt' : j < l.length := by omega
  have hb : byteAt (S l) (j : Int) = ((l[j].toNat : Nat) : Int) := S_at hlt'
  have hj63 : j < 9223372036854775807 := by omega
  have hd := runL_drop (p := p) hlt'
  cases hc : p l[j]
  · simp only [↓R1, R2, R3, R4, TY, reduceIte, Nat.reduceEqDiff, Nat.reduceAdd, Nat.reduceMul, Nat.reduceLT, Nat.reduceLeDiff, reduceCtorEq, decide_true, decide_false, Int.reduceLE, Int.reduceLT, Int.reduceToNat, Int.reduceAdd, Int.reduceSub, Int.reduceMul, Int.reduceEq, FE, S_size, q0, q1, q2, hlt, hlt', hb, hj63, hc]
    refine call_of (hp _ _ _) ?_
    simp only [↓R1, R2, R3, R4, TY, reduceIte, Nat.reduceEqDiff, Nat.reduceAdd, Nat.reduceMul, Nat.reduceLT, Nat.reduceLeDiff, reduceCtorEq, decide_true, decide_false, Int.reduceLE, Int.reduceLT, Int.reduceToNat, Int.reduceAdd, Int.reduceSub, Int.reduceMul, Int.reduceEq, FE, S_size, q0, q1, q2, hlt, hlt', hb, hj63, hc]
    refine Ended.back hA (Xt.refl _) ?_ (RB.int _ _)
    rw [← hr, hd, if_neg (by simp [hc])]; rfl
  · simp only [↓R1, R2, R3, R4, TY, reduceIte, Nat.reduceEqDiff, Nat.reduceAdd, Nat.reduceMul, Nat.reduceLT, Nat.reduceLeDiff, reduceCtorEq, decide_true, decide_false, Int.reduceLE, Int.reduceLT, Int.reduceToNat, Int.reduceAdd, Int.reduceSub, Int.reduceMul, Int.reduceEq, FE, S_size, q0, q1, q2, hlt, hlt', hb, hj63, hc]
    refine call_of (hp _ _ _) ?_
    simp only [↓R1, R2, R3, R4, TY, reduceIte, Nat.reduceEqDiff, Nat.reduceAdd, Nat.reduceMul, Nat.reduceLT, Nat.reduceLeDiff, reduceCtorEq, decide_true, decide_false, Int.reduceLE, Int.reduceLT, Int.reduceToNat, Int.reduceAdd, Int.reduceSub, Int.reduceMul, Int.reduceEq, FE, S_size, q0, q1, q2, hlt, hlt', hb, hj63, hc]
    refine loop_on ⟨rfl, j + 1, hlt', ?_, q0, rfl, q2⟩ ?_
    · rw [← hr, hd, if_pos hc]; omega
    · simp only [q1]
      show l.length - (((j + 1 : Nat) : Int)).toNat < l.length - ((j : Nat) : Int).toNat
      omega
end
end Go.Proofs.YtjgkodhadgfbmaaDoor.Ab
