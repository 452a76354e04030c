/- Words: names and numbers, lines. -/
import Derived.Test.YtjgkodhadgfbmaaDoorDb
namespace Go.Proofs.YtjgkodhadgfbmaaDoor.Ab
open Go.RowKit
set_option linter.unusedVariables false
set_option linter.unusedSimpArgs false
set_option maxRecDepth 100000

def lets : List UInt8 := [97, 98, 99, 100, 101, 102, 103, 104, 105, 106, 107, 108, 109, 110, 111, 112, 113, 114, 115, 116, 117, 118, 119, 120, 121, 122]
def digs : List UInt8 := [48, 49, 50, 51, 52, 53, 54, 55, 56, 57]
theorem u8_ofNat (b : UInt8) : UInt8.ofNat b.toNat = b := by simp
theorem lets_has (b : UInt8) : lets.contains b = pLet b := by
  have h : ∀ n, n < 256 → lets.contains (UInt8.ofNat n) = pLet (UInt8.ofNat n) := by decide +kernel
  have := h b.toNat b.toNat_lt
  rwa [u8_ofNat] at this
theorem digs_has (b : UInt8) : digs.contains b = pDig b := by
  have h : ∀ n, n < 256 → digs.contains (UInt8.ofNat n) = pDig (UInt8.ofNat n) := by decide +kernel
  have := h b.toNat b.toNat_lt
  rwa [u8_ofNat] at this
theorem lets_fun : lets.contains = pLet := funext lets_has
theorem digs_fun : digs.contains = pDig := funext digs_has

/-- What stands before a byte. -/
def pre (c : UInt8) (l : List UInt8) : List UInt8 := l.takeWhile (· != c)
theorem pre_le (c : UInt8) (l : List UInt8) : (pre c l).length ≤ l.length := (List.takeWhile_sublist _).length_le
theorem pre_take (c : UInt8) (l : List UInt8) : l.take (pre c l).length = pre c l := by
  induction l with
  | nil => rfl
  | cons b l ih =>
    unfold pre at *
    rw [List.takeWhile_cons]
    split
    · simp [ih]
    · rfl
theorem indexB (c : UInt8) (l : List UInt8) : Lib.indexByte l c = if c ∈ l then ((pre c l).length : Int) else -1 := by
  induction l with
  | nil => rfl
  | cons b l ih =>
    rw [Lib.indexByte]
    by_cases hb : b = c
    · subst hb; simp [pre]
    · have hb' : ¬ c = b := fun h => hb h.symm
      have h1 : (b == c) = false := by simpa using hb
      have h2 : pre c (b :: l) = b :: pre c l := by unfold pre; rw [List.takeWhile_cons, if_pos (by simpa using hb)]
      rw [h1, h2, ih]
      by_cases hc : c ∈ l
      · rw [if_pos hc, if_pos (List.mem_cons_of_mem _ hc)]
        have : ((((pre c l).length : Int)) == -1) = false := by
          rw [beq_eq_false_iff_ne]; omega
        rw [this]; simp
      · have hn : ¬ c ∈ b :: l := by simp [hb', hc]
        rw [if_neg hc, if_neg hn]; rfl
theorem pre_lt {c : UInt8} {l : List UInt8} (h : c ∈ l) : (pre c l).length < l.length := by
  induction l with
  | nil => cases h
  | cons b l ih =>
    unfold pre at *
    rw [List.takeWhile_cons]
    split
    · rename_i hb
      rcases List.mem_cons.1 h with rfl | h
      · simp at hb
      · simp; exact ih h
    · simp

section
variable {G : Gl} {fl : Nat} {A : Hp}
theorem nameIs_ok (l : List UInt8) : Sound Tryd.prog G 8 [.string (S l)] fl A (.bool (nmB l)) A := by
  refine Sound.of mixed Tryd.func8 Tryd.ntmps8 Tryd.results8 (by kernel_rfl) rfl (by kernel_rfl) (by kernel_rfl) fun hA => ?_
  have fin : ∀ (x : Bool) (B : Hp), Xt A.next A B → x = nmB l → Ended A (.bool x) B (.bool (nmB l)) A := fun x B hx h => Ended.back hA hx (congrArg _ h) (RB.bool _)
  simp only [↓R1, R2, R3, R4, TY, reduceIte, Nat.reduceEqDiff, Nat.reduceAdd, Nat.reduceMul, Nat.reduceLT, Nat.reduceLeDiff, reduceCtorEq, decide_true, decide_false, Int.reduceLE, Int.reduceLT, Int.reduceToNat, Int.reduceAdd, Int.reduceSub, Int.reduceMul, Int.reduceEq, FE, S_size]
  by_cases hn : l = []
  · subst hn
    refine ⟨fun _ => fin _ _ (Xt.refl _) (by simp [nmB]), fun h => absurd rfl h⟩
  refine ⟨fun h => absurd ((S_inj (b := [])) ▸ h) hn, fun _ => ⟨fun h => ?_, fun h => fin _ _ (Xt.refl _) ?_⟩⟩
  · have tr := fun fl => trimSet_ok (G := G) (fl := fl) (A := A) (cs := lets) (by decide) (by decide) (by decide) l (by omega)
    refine call_of (tr _) ?_
    simp only [↓R1, R2, R3, R4, TY, reduceIte, Nat.reduceEqDiff, Nat.reduceAdd, Nat.reduceMul, Nat.reduceLT, Nat.reduceLeDiff, reduceCtorEq, decide_true, decide_false, Int.reduceLE, Int.reduceLT, Int.reduceToNat, Int.reduceAdd, Int.reduceSub, Int.reduceMul, Int.reduceEq, FE, S_size]
    refine fin _ _ (Xt.refl _) ?_
    have hd : decide (l ≠ [] ∧ l.length ≤ 12) = true := decide_eq_true ⟨hn, by omega⟩
    rw [nmB, hd, Bool.true_and, lets_fun]
    have e : (S (List.dropWhile pLet (rtr pLet l)) = S []) = (l.all pLet = true) := by rw [S_inj]; exact propext trim_nil
    rw [show ({ data := #[] } : ByteArray) = S [] from rfl]
    simp only [e, Bool.decide_eq_true]
  · rw [nmB, decide_eq_false (fun h' => h (by omega)), Bool.false_and]
theorem index1_ok (l : List UInt8) (c : UInt8) : Sound Tryd.prog G 52 [.string (S l), .string (S [c])] fl A (.int .i64 (if c ∈ l then ((pre c l).length : Int) else -1)) A := by
  refine Sound.of_plain (fun u hu => ?_) (fun μ A => .int _ _) fun w => ?_
  · simp only [List.mem_cons, List.not_mem_nil, or_false] at hu
    rcases hu with rfl | rfl
    · exact fun μ A u' h => str_same h
    · exact fun μ A u' h => str_same h
  · have := Tryd.stringslite_Index_one (S l) c w
    refine .inl ⟨⟨_, Tryd.func52, by kernel_rfl, by kernel_rfl⟩, this.mono fun e w' h => ⟨_, h.1, by rw [indexB], ?_⟩⟩
    rw [h.2]; exact Below.refl _ _
theorem sindex1_ok (l : List UInt8) (c : UInt8) : Sound Tryd.prog G 42 [.string (S l), .string (S [c])] fl A (.int .i64 (if c ∈ l then ((pre c l).length : Int) else -1)) A := by
  refine Sound.of_plain (fun u hu => ?_) (fun μ A => .int _ _) fun w => ?_
  · simp only [List.mem_cons, List.not_mem_nil, or_false] at hu
    rcases hu with rfl | rfl
    · exact fun μ A u' h => str_same h
    · exact fun μ A u' h => str_same h
  · have := Tryd.strings_Index_one (S l) c w
    refine .inl ⟨⟨_, Tryd.func42, by kernel_rfl, by kernel_rfl⟩, this.mono fun e w' h => ⟨_, h.1, by rw [indexB], ?_⟩⟩
    rw [h.2]; exact Below.refl _ _
theorem contains1_ok (l : List UInt8) (c : UInt8) : Sound Tryd.prog G 27 [.string (S l), .string (S [c])] fl A (.bool (decide (c ∈ l))) A := by
  refine Sound.of_plain (fun u hu => ?_) (fun μ A => .bool _) fun w => ?_
  · simp only [List.mem_cons, List.not_mem_nil, or_false] at hu
    rcases hu with rfl | rfl
    · exact fun μ A u' h => str_same h
    · exact fun μ A u' h => str_same h
  · have := Tryd.strings_Contains_one (S l) c w
    refine .inl ⟨⟨_, Tryd.func27, by kernel_rfl, by kernel_rfl⟩, this.mono fun e w' h => ⟨_, h.1, ?_, ?_⟩⟩
    · rw [indexB]
      refine congrArg _ ?_
      rw [decide_eq_decide]
      show 0 ≤ (if c ∈ l then ((pre c l).length : Int) else -1) ↔ _
      split
      · rename_i h; simp [h]
      · rename_i h; simp [h]
    rw [h.2]; exact Below.refl _ _
theorem count1_ok (l : List UInt8) (c : UInt8) : Sound Tryd.prog G 23 [.string (S l), .string (S [c])] fl A (.int .i64 ((l.count c : Nat) : Int)) A := by
  refine Sound.of_plain (fun u hu => ?_) (fun μ A => .int _ _) fun w => ?_
  · simp only [List.mem_cons, List.not_mem_nil, or_false] at hu
    rcases hu with rfl | rfl
    · exact fun μ A u' h => str_same h
    · exact fun μ A u' h => str_same h
  · have := Tryd.strings_Count_one (S l) c w
    refine .inl ⟨⟨_, Tryd.func23, by kernel_rfl, by kernel_rfl⟩, this.mono fun e w' h => ⟨_, h.1, rfl, ?_⟩⟩
    rw [h.2]; exact Below.refl _ _
/-- What stands behind the first such byte. -/
def post (c : UInt8) (l : List UInt8) : List UInt8 := l.drop ((pre c l).length + 1)
theorem lcut_ok (l : List UInt8) (c : UInt8) (hl : l.length < 9223372036854775807) : Sound Tryd.prog G 37 [.string (S l), .string (S [c])] fl A
    (.tuple (if c ∈ l then [Value.string (S (pre c l)), .string (S (post c l)), .bool true] else [Value.string (S l), .string (S []), .bool false]).toArray) A := by
  refine Sound.of mixed Tryd.func37 Tryd.ntmps37 Tryd.results37 (by kernel_rfl) rfl (by kernel_rfl) (by kernel_rfl) fun hA => ?_
  by_cases hc : c ∈ l
  · have hi := index1_ok (G := G) (fl := fl) (A := A) l c
    rw [if_pos hc] at hi
    rw [if_pos hc]
    have hlt := pre_lt hc
    have w1 : IntKind.i64.wrap (((pre c l).length : Int) + 1) = (((pre c l).length + 1 : Nat) : Int) := by rw [wrapI (by omega)]; omega
    have h0 : (0 : Int) ≤ ((pre c l).length : Int) := by omega
    have h1 : (pre c l).length ≤ l.length := by omega
    have h2 : (pre c l).length + 1 ≤ l.length := by omega
    have h3 : l.take (pre c l).length = pre c l := pre_take c l
    have h4 : ((l.drop ((pre c l).length + 1)).take (l.length - ((pre c l).length + 1))) = post c l := by rw [post, List.take_of_length_le (by simp)]
    have h5 : (S [c]).size = 1 := rfl
    simp only [↓R1, R2, R3, R4, TY, reduceIte, Nat.reduceEqDiff, Nat.reduceAdd, Nat.reduceMul, Nat.reduceLT, Nat.reduceLeDiff, reduceCtorEq, decide_true, decide_false, Int.reduceLE, Int.reduceLT, Int.reduceToNat, Int.reduceAdd, Int.reduceSub, Int.reduceMul, Int.reduceEq, FE, S_size, h0, h1, h2, w1, h5, S_extract, h3, h4, List.drop_zero, Nat.sub_zero]
    refine call_of (hi) ?_
    simp only [↓R1, R2, R3, R4, TY, reduceIte, Nat.reduceEqDiff, Nat.reduceAdd, Nat.reduceMul, Nat.reduceLT, Nat.reduceLeDiff, reduceCtorEq, decide_true, decide_false, Int.reduceLE, Int.reduceLT, Int.reduceToNat, Int.reduceAdd, Int.reduceSub, Int.reduceMul, Int.reduceEq, FE, S_size, h0, h1, h2, w1, h5, S_extract, h3, h4, List.drop_zero, Nat.sub_zero]
    exact Ended.back hA (Xt.refl _) rfl (RB.tuple (by simp [RB.string, RB.bool]))
  · have hi := index1_ok (G := G) (fl := fl) (A := A) l c
    rw [if_neg hc] at hi
    rw [if_neg hc]
    simp only [↓R1, R2, R3, R4, TY, reduceIte, Nat.reduceEqDiff, Nat.reduceAdd, Nat.reduceMul, Nat.reduceLT, Nat.reduceLeDiff, reduceCtorEq, decide_true, decide_false, Int.reduceLE, Int.reduceLT, Int.reduceToNat, Int.reduceAdd, Int.reduceSub, Int.reduceMul, Int.reduceEq, FE, S_size]
    refine call_of (hi) ?_
    simp only [↓R1, R2, R3, R4, TY, reduceIte, Nat.reduceEqDiff, Nat.reduceAdd, Nat.reduceMul, Nat.reduceLT, Nat.reduceLeDiff, reduceCtorEq, decide_true, decide_false, Int.reduceLE, Int.reduceLT, Int.reduceToNat, Int.reduceAdd, Int.reduceSub, Int.reduceMul, Int.reduceEq, FE, S_size]
    exact Ended.back hA (Xt.refl _) rfl (RB.tuple (by simp [RB.string, RB.bool]))
theorem cut_ok (l : List UInt8) (c : UInt8) (hl : l.length < 9223372036854775807) : Sound Tryd.prog G 20 [.string (S l), .string (S [c])] fl A
    (.tuple (if c ∈ l then [Value.string (S (pre c l)), .string (S (post c l)), .bool true] else [Value.string (S l), .string (S []), .bool false]).toArray) A := by
  refine Sound.of mixed Tryd.func20 Tryd.ntmps20 Tryd.results20 (by kernel_rfl) rfl (by kernel_rfl) (by kernel_rfl) fun hA => ?_
  have hc0 := lcut_ok (G := G) (fl := fl) (A := A) l c hl
  by_cases hc : c ∈ l
  · rw [if_pos hc] at hc0 ⊢
    simp only [↓R1, R2, R3, R4, TY, reduceIte, Nat.reduceEqDiff, Nat.reduceAdd, Nat.reduceMul, Nat.reduceLT, Nat.reduceLeDiff, reduceCtorEq, decide_true, decide_false, Int.reduceLE, Int.reduceLT, Int.reduceToNat, Int.reduceAdd, Int.reduceSub, Int.reduceMul, Int.reduceEq, FE, S_size]
    refine call_of (hc0) ?_
    simp only [↓R1, R2, R3, R4, TY, reduceIte, Nat.reduceEqDiff, Nat.reduceAdd, Nat.reduceMul, Nat.reduceLT, Nat.reduceLeDiff, reduceCtorEq, decide_true, decide_false, Int.reduceLE, Int.reduceLT, Int.reduceToNat, Int.reduceAdd, Int.reduceSub, Int.reduceMul, Int.reduceEq, FE, S_size]
    exact Ended.back hA (Xt.refl _) rfl (RB.tuple (by simp [RB.string, RB.bool]))
  · rw [if_neg hc] at hc0 ⊢
    simp only [↓R1, R2, R3, R4, TY, reduceIte, Nat.reduceEqDiff, Nat.reduceAdd, Nat.reduceMul, Nat.reduceLT, Nat.reduceLeDiff, reduceCtorEq, decide_true, decide_false, Int.reduceLE, Int.reduceLT, Int.reduceToNat, Int.reduceAdd, Int.reduceSub, Int.reduceMul, Int.reduceEq, FE, S_size]
    refine call_of (hc0) ?_
    simp only [↓R1, R2, R3, R4, TY, reduceIte, Nat.reduceEqDiff, Nat.reduceAdd, Nat.reduceMul, Nat.reduceLT, Nat.reduceLeDiff, reduceCtorEq, decide_true, decide_false, Int.reduceLE, Int.reduceLT, Int.reduceToNat, Int.reduceAdd, Int.reduceSub, Int.reduceMul, Int.reduceEq, FE, S_size]
    exact Ended.back hA (Xt.refl _) rfl (RB.tuple (by simp [RB.string, RB.bool]))
/-- A number: digits, or two of them with a stroke between. -/
def nuB (l : List UInt8) : Bool := if 47 ∈ l then dgB (pre 47 l) && dgB (post 47 l) else dgB l
theorem isNumber_ok (l : List UInt8) (hl : l.length < 9223372036854775807) : Sound Tryd.prog G 9 [.string (S l)] fl A (.bool (nuB l)) A := by
  refine Sound.of mixed Tryd.func9 Tryd.ntmps9 Tryd.results9 (by kernel_rfl) rfl (by kernel_rfl) (by kernel_rfl) fun hA => ?_
  have fin : ∀ x : Bool, x = nuB l → Ended A (.bool x) A (.bool (nuB l)) A := fun x h => Ended.back hA (Xt.refl A) (congrArg _ h) (RB.bool _)
  have hc0 := cut_ok (G := G) (fl := fl) (A := A) l 47 hl
  by_cases hc : 47 ∈ l
  · rw [if_pos hc] at hc0
    cases h1 : dgB (pre 47 l)
    · simp only [↓R1, R2, R3, R4, TY, reduceIte, Nat.reduceEqDiff, Nat.reduceAdd, Nat.reduceMul, Nat.reduceLT, Nat.reduceLeDiff, reduceCtorEq, decide_true, decide_false, Int.reduceLE, Int.reduceLT, Int.reduceToNat, Int.reduceAdd, Int.reduceSub, Int.reduceMul, Int.reduceEq, FE, S_size, h1]
      refine call_of (hc0) ?_
      simp only [↓R1, R2, R3, R4, TY, reduceIte, Nat.reduceEqDiff, Nat.reduceAdd, Nat.reduceMul, Nat.reduceLT, Nat.reduceLeDiff, reduceCtorEq, decide_true, decide_false, Int.reduceLE, Int.reduceLT, Int.reduceToNat, Int.reduceAdd, Int.reduceSub, Int.reduceMul, Int.reduceEq, FE, S_size, h1]
      refine call_of (digits_ok _) ?_
      simp only [↓R1, R2, R3, R4, TY, reduceIte, Nat.reduceEqDiff, Nat.reduceAdd, Nat.reduceMul, Nat.reduceLT, Nat.reduceLeDiff, reduceCtorEq, decide_true, decide_false, Int.reduceLE, Int.reduceLT, Int.reduceToNat, Int.reduceAdd, Int.reduceSub, Int.reduceMul, Int.reduceEq, FE, S_size, h1]
      exact fin _ (by rw [nuB, if_pos hc, h1]; rfl)
    · simp only [↓R1, R2, R3, R4, TY, reduceIte, Nat.reduceEqDiff, Nat.reduceAdd, Nat.reduceMul, Nat.reduceLT, Nat.reduceLeDiff, reduceCtorEq, decide_true, decide_false, Int.reduceLE, Int.reduceLT, Int.reduceToNat, Int.reduceAdd, Int.reduceSub, Int.reduceMul, Int.reduceEq, FE, S_size, h1]
      refine call_of (hc0) ?_
      simp only [↓R1, R2, R3, R4, TY, reduceIte, Nat.reduceEqDiff, Nat.reduceAdd, Nat.reduceMul, Nat.reduceLT, Nat.reduceLeDiff, reduceCtorEq, decide_true, decide_false, Int.reduceLE, Int.reduceLT, Int.reduceToNat, Int.reduceAdd, Int.reduceSub, Int.reduceMul, Int.reduceEq, FE, S_size, h1]
      refine call_of (digits_ok _) ?_
      simp only [↓R1, R2, R3, R4, TY, reduceIte, Nat.reduceEqDiff, Nat.reduceAdd, Nat.reduceMul, Nat.reduceLT, Nat.reduceLeDiff, reduceCtorEq, decide_true, decide_false, Int.reduceLE, Int.reduceLT, Int.reduceToNat, Int.reduceAdd, Int.reduceSub, Int.reduceMul, Int.reduceEq, FE, S_size, h1]
      refine call_of (digits_ok _) ?_
      simp only [↓R1, R2, R3, R4, TY, reduceIte, Nat.reduceEqDiff, Nat.reduceAdd, Nat.reduceMul, Nat.reduceLT, Nat.reduceLeDiff, reduceCtorEq, decide_true, decide_false, Int.reduceLE, Int.reduceLT, Int.reduceToNat, Int.reduceAdd, Int.reduceSub, Int.reduceMul, Int.reduceEq, FE, S_size, h1]
      exact fin _ (by rw [nuB, if_pos hc, h1]; rfl)
  · rw [if_neg hc] at hc0
    cases h1 : dgB l
    · simp only [↓R1, R2, R3, R4, TY, reduceIte, Nat.reduceEqDiff, Nat.reduceAdd, Nat.reduceMul, Nat.reduceLT, Nat.reduceLeDiff, reduceCtorEq, decide_true, decide_false, Int.reduceLE, Int.reduceLT, Int.reduceToNat, Int.reduceAdd, Int.reduceSub, Int.reduceMul, Int.reduceEq, FE, S_size, h1]
      refine call_of (hc0) ?_
      simp only [↓R1, R2, R3, R4, TY, reduceIte, Nat.reduceEqDiff, Nat.reduceAdd, Nat.reduceMul, Nat.reduceLT, Nat.reduceLeDiff, reduceCtorEq, decide_true, decide_false, Int.reduceLE, Int.reduceLT, Int.reduceToNat, Int.reduceAdd, Int.reduceSub, Int.reduceMul, Int.reduceEq, FE, S_size, h1]
      refine call_of (digits_ok _) ?_
      simp only [↓R1, R2, R3, R4, TY, reduceIte, Nat.reduceEqDiff, Nat.reduceAdd, Nat.reduceMul, Nat.reduceLT, Nat.reduceLeDiff, reduceCtorEq, decide_true, decide_false, Int.reduceLE, Int.reduceLT, Int.reduceToNat, Int.reduceAdd, Int.reduceSub, Int.reduceMul, Int.reduceEq, FE, S_size, h1]
      exact fin _ (by rw [nuB, if_neg hc, h1])
    · simp only [↓R1, R2, R3, R4, TY, reduceIte, Nat.reduceEqDiff, Nat.reduceAdd, Nat.reduceMul, Nat.reduceLT, Nat.reduceLeDiff, reduceCtorEq, decide_true, decide_false, Int.reduceLE, Int.reduceLT, Int.reduceToNat, Int.reduceAdd, Int.reduceSub, Int.reduceMul, Int.reduceEq, FE, S_size, h1]
      refine call_of (hc0) ?_
      simp only [↓R1, R2, R3, R4, TY, reduceIte, Nat.reduceEqDiff, Nat.reduceAdd, Nat.reduceMul, Nat.reduceLT, Nat.reduceLeDiff, reduceCtorEq, decide_true, decide_false, Int.reduceLE, Int.reduceLT, Int.reduceToNat, Int.reduceAdd, Int.reduceSub, Int.reduceMul, Int.reduceEq, FE, S_size, h1]
      refine call_of (digits_ok _) ?_
      simp only [↓R1, R2, R3, R4, TY, reduceIte, Nat.reduceEqDiff, Nat.reduceAdd, Nat.reduceMul, Nat.reduceLT, Nat.reduceLeDiff, reduceCtorEq, decide_true, decide_false, Int.reduceLE, Int.reduceLT, Int.reduceToNat, Int.reduceAdd, Int.reduceSub, Int.reduceMul, Int.reduceEq, FE, S_size, h1]
      exact fin _ (by rw [nuB, if_neg hc, h1])
/-- The line of a byte. -/
def atN (l : List UInt8) (at_ : Int) : Nat := min at_.toNat l.length
theorem line_ok (l : List UInt8) (at_ : Int) (hl : l.length < 9223372036854775807) : Sound Tryd.prog G 11 [.string (S l), .int .i64 at_] fl A (.int .i64 (1 + (((l.take (atN l at_)).count 10 : Nat) : Int))) A := by
  refine Sound.of mixed Tryd.func11 Tryd.ntmps11 Tryd.results11 (by kernel_rfl) rfl (by kernel_rfl) (by kernel_rfl) fun hA => ?_
  have hat : (if (l.length : Int) < (if 0 > at_ then 0 else at_) then (l.length : Int) else if 0 > at_ then 0 else at_) = ((atN l at_ : Nat) : Int) := by
    unfold atN
    split <;> split at * <;> omega
  have h0 : (0 : Int) ≤ ((atN l at_ : Nat) : Int) := by omega
  have h1 : atN l at_ ≤ l.length := by unfold atN; omega
  simp only [↓R1, R2, R3, R4, TY, reduceIte, Nat.reduceEqDiff, Nat.reduceAdd, Nat.reduceMul, Nat.reduceLT, Nat.reduceLeDiff, reduceCtorEq, decide_true, decide_false, Int.reduceLE, Int.reduceLT, Int.reduceToNat, Int.reduceAdd, Int.reduceSub, Int.reduceMul, Int.reduceEq, FE, S_size, hat, h0, h1, S_extract, List.drop_zero, Nat.sub_zero]
  refine call_of (count1_ok _ _) ?_
  have hc : (l.take (atN l at_)).count 10 ≤ l.length := Nat.le_trans List.count_le_length (by simp; omega)
  have w1 : IntKind.i64.wrap (1 + (((l.take (atN l at_)).count 10 : Nat) : Int)) = 1 + (((l.take (atN l at_)).count 10 : Nat) : Int) := wrapI (by omega)
  simp only [↓R1, R2, R3, R4, TY, reduceIte, Nat.reduceEqDiff, Nat.reduceAdd, Nat.reduceMul, Nat.reduceLT, Nat.reduceLeDiff, reduceCtorEq, decide_true, decide_false, Int.reduceLE, Int.reduceLT, Int.reduceToNat, Int.reduceAdd, Int.reduceSub, Int.reduceMul, Int.reduceEq, FE, S_size, w1]
  exact Ended.back hA (Xt.refl _) rfl (RB.int _ _)
end
end Go.Proofs.YtjgkodhadgfbmaaDoor.Ab
