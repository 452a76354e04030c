/- Strings cut at a byte. -/
import Derived.Test.YtpaffoiiipgkeaaDoorRi
import Derived.Test.YtpaffoiiipgkeaaDoorNm
namespace Go.Proofs.YtpaffoiiipgkeaaDoor.Ab
open Go.RowKit
set_option linter.unusedVariables false
set_option linter.unusedSimpArgs false
set_option maxRecDepth 100000

theorem indexByte_none {l : List UInt8} {c : UInt8} (h : c ∉ l) : Go.Lib.indexByte l c = -1 := by
  induction l with
  | nil => rfl
  | cons b l ih =>
    have hb : (b == c) = false := by simp; intro e; apply h; simp [e]
    have := ih fun h' => h (by simp [h'])
    rw [Go.Lib.indexByte, hb, this]; rfl
theorem indexByte_some {a b : List UInt8} {c : UInt8} (h : c ∉ a) : Go.Lib.indexByte (a ++ c :: b) c = a.length := by
  induction a with
  | nil => simp [Go.Lib.indexByte]
  | cons x a ih =>
    have hb : (x == c) = false := by simp; intro e; apply h; simp [e]
    have := ih fun h' => h (by simp [h'])
    rw [List.cons_append, Go.Lib.indexByte, hb, this]
    have hne : ((a.length : Int) == -1) = false := by simp
    simp [hne]
theorem toUInt8_toNat (c : UInt8) : ((c.toNat : Nat) : Int).toNat.toUInt8 = c := by simp

section
variable {G : Gl} {fl : Nat} {A : Hp}

theorem indexByteString_ok (l : List UInt8) (c : UInt8) : Sound Tryd.prog G 114 [.string (S l), .int .u8 (c.toNat : Nat)] fl A (.int .i64 (Go.Lib.indexByte l c)) A := by
  refine Sound.of_scalar (fun u hu => ?_) rfl fun w => ?_
  · simp only [List.mem_cons, List.not_mem_nil, or_false] at hu
    rcases hu with rfl | rfl
    · exact ⟨rfl, fun μ A u' h => by cases h; rfl⟩
    · exact ⟨rfl, fun μ A u' h => by cases h; rfl⟩
  · refine .inr ⟨.int .i64 (Go.Lib.indexByte l c), w, ?_, rfl, Below.refl _ _⟩
    rw [run_callFunc_extern (fn := Tryd.f114) (e := Extern.BytealgIndexByte.indexByte) (by kernel_rfl) (by kernel_rfl) (by kernel_rfl) (by kernel_rfl) (by kernel_rfl)]
    have := Go.Lib.run_indexByteString (P := Tryd.prog) (S l) (c.toNat : Nat) w
    rw [toUInt8_toNat] at this
    rw [show [Value.string (S l), Value.int .u8 (c.toNat : Nat)].toArray = #[.string (S l), .int .u8 (c.toNat : Nat)] from rfl, this]
    rfl
theorem indexByte_ok (l : List UInt8) (c : UInt8) : Sound Tryd.prog G 108 [.string (S l), .int .u8 (c.toNat : Nat)] fl A (.int .i64 (Go.Lib.indexByte l c)) A := by
  refine Sound.of mixed Tryd.func108 Tryd.ntmps108 Tryd.results108 (by kernel_rfl) rfl (by kernel_rfl) (by simp) fun hA => ?_
  simp only [↓R1, R2, R3, R4, TY, reduceIte, Nat.reduceEqDiff, Nat.reduceAdd, Nat.reduceMul, Nat.reduceLT, Nat.reduceLeDiff, reduceCtorEq, decide_true, decide_false, Int.reduceLE, Int.reduceLT, Int.reduceToNat, Int.reduceAdd, Int.reduceSub, Int.reduceMul, Int.reduceEq]
  refine call_of (indexByteString_ok l c) ?_
  simp only [↓R1, R2, R3, R4, TY, reduceIte, Nat.reduceEqDiff, Nat.reduceAdd, Nat.reduceMul, Nat.reduceLT, Nat.reduceLeDiff, reduceCtorEq, decide_true, decide_false, Int.reduceLE, Int.reduceLT, Int.reduceToNat, Int.reduceAdd, Int.reduceSub, Int.reduceMul, Int.reduceEq]
  exact Ended.back hA (Xt.refl _) rfl (RB.int _ _)
theorem index_ok (l : List UInt8) (c : UInt8) : Sound Tryd.prog G 103 [.string (S l), .string (S [c])] fl A (.int .i64 (Go.Lib.indexByte l c)) A := by
  refine Sound.of mixed Tryd.func103 Tryd.ntmps103 Tryd.results103 (by kernel_rfl) rfl (by kernel_rfl) (by simp) fun hA => ?_
  have h0 : byteAt (S [c]) 0 = ((c.toNat : Nat) : Int) := rfl
  have h3 : (S [c]).size = 1 := rfl
  have h4 : ((1 : Nat) : Int) = 1 := rfl
  have h5 : (0 : Int) < 1 := by decide
  have h6 : ((1 : Int) = 0) = False := eq_false (by decide)
  simp only [↓R1, R2, R3, R4, TY, reduceIte, Nat.reduceEqDiff, Nat.reduceAdd, Nat.reduceMul, Nat.reduceLT, Nat.reduceLeDiff, reduceCtorEq, decide_true, decide_false, Int.reduceLE, Int.reduceLT, Int.reduceToNat, Int.reduceAdd, Int.reduceSub, Int.reduceMul, Int.reduceEq, S_inj, h0, h3, h4, h5, h6]
  refine ⟨fun h => ?_, fun h => ?_⟩
  · subst h
    exact Ended.back hA (Xt.refl _) (by simp [Go.Lib.indexByte]) (RB.int _ _)
  · refine call_of (indexByte_ok l c) ?_
    simp only [↓R1, R2, R3, R4, TY, reduceIte, Nat.reduceEqDiff, Nat.reduceAdd, Nat.reduceMul, Nat.reduceLT, Nat.reduceLeDiff, reduceCtorEq, decide_true, decide_false, Int.reduceLE, Int.reduceLT, Int.reduceToNat, Int.reduceAdd, Int.reduceSub, Int.reduceMul, Int.reduceEq]
    exact Ended.back hA (Xt.refl _) rfl (RB.int _ _)

theorem liteCut_some {a b : List UInt8} {c : UInt8} (h : c ∉ a) (hl : a.length + b.length ≤ 100000) : Sound Tryd.prog G 89 [.string (S (a ++ c :: b)), .string (S [c])] fl A (.tuple [Value.string (S a), .string (S b), .bool true].toArray) A := by
  refine Sound.of mixed Tryd.func89 Tryd.ntmps89 Tryd.results89 (by kernel_rfl) rfl (by kernel_rfl) (by simp) fun hA => ?_
  have h3 : (S [c]).size = 1 := rfl
  simp only [↓R1, R2, R3, R4, TY, reduceIte, Nat.reduceEqDiff, Nat.reduceAdd, Nat.reduceMul, Nat.reduceLT, Nat.reduceLeDiff, reduceCtorEq, decide_true, decide_false, Int.reduceLE, Int.reduceLT, Int.reduceToNat, Int.reduceAdd, Int.reduceSub, Int.reduceMul, Int.reduceEq]
  refine call_of (index_ok _ c) ?_
  rw [indexByte_some h]
  have w1 : IntKind.i64.wrap ((a.length : Int) + ((1 : Nat) : Int)) = ((a.length + 1 : Nat) : Int) := by rw [wrapI (by omega)]; omega
  have s1 : a.length ≤ (a ++ c :: b).length := by simp
  have s2 : a.length + 1 ≤ (a ++ c :: b).length := by simp
  have s1' : a.length ≤ a.length + (b.length + 1) := by omega
  have s2' : a.length + 1 ≤ a.length + (b.length + 1) := by omega
  have e1 : List.take a.length (List.drop 0 (a ++ c :: b)) = a := by simp
  have e2 : List.take (a.length + (b.length + 1) - (a.length + 1)) (List.drop (a.length + 1) (a ++ c :: b)) = b := by
    rw [show a ++ c :: b = (a ++ [c]) ++ b by simp, List.drop_append_of_le_length (by simp), List.drop_eq_nil_of_le (by simp), List.nil_append, List.take_of_length_le (by omega)]
  have c0 : ((0 : Int) ≤ ((a.length + 1 : Nat) : Int)) = True := eq_true (by omega)
  simp only [↓R1, R2, R3, R4, TY, reduceIte, Nat.reduceEqDiff, Nat.reduceAdd, Nat.reduceMul, Nat.reduceLT, Nat.reduceLeDiff, reduceCtorEq, decide_true, decide_false, Int.reduceLE, Int.reduceLT, Int.reduceToNat, Int.reduceAdd, Int.reduceSub, Int.reduceMul, Int.reduceEq, h3, w1, S_size, s1, s2, s1', s2', S_extract, List.length_append, List.length_cons, c0]
  rw [e1, e2]
  exact Ended.back hA (Xt.refl _) rfl (RB.tuple fun w hw => by
    simp only [List.mem_cons, List.not_mem_nil, or_false] at hw
    rcases hw with rfl | rfl | rfl
    · exact RB.string _
    · exact RB.string _
    · exact RB.bool _)

theorem liteCut_none {l : List UInt8} {c : UInt8} (h : c ∉ l) : Sound Tryd.prog G 89 [.string (S l), .string (S [c])] fl A (.tuple [Value.string (S l), .string (S []), .bool false].toArray) A := by
  refine Sound.of mixed Tryd.func89 Tryd.ntmps89 Tryd.results89 (by kernel_rfl) rfl (by kernel_rfl) (by simp) fun hA => ?_
  simp only [↓R1, R2, R3, R4, TY, reduceIte, Nat.reduceEqDiff, Nat.reduceAdd, Nat.reduceMul, Nat.reduceLT, Nat.reduceLeDiff, reduceCtorEq, decide_true, decide_false, Int.reduceLE, Int.reduceLT, Int.reduceToNat, Int.reduceAdd, Int.reduceSub, Int.reduceMul, Int.reduceEq]
  refine call_of (index_ok _ c) ?_
  rw [indexByte_none h]
  have c0 : ((0 : Int) ≤ -1) = False := eq_false (by decide)
  simp only [↓R1, R2, R3, R4, TY, reduceIte, Nat.reduceEqDiff, Nat.reduceAdd, Nat.reduceMul, Nat.reduceLT, Nat.reduceLeDiff, reduceCtorEq, decide_true, decide_false, Int.reduceLE, Int.reduceLT, Int.reduceToNat, Int.reduceAdd, Int.reduceSub, Int.reduceMul, Int.reduceEq, c0]
  exact Ended.back hA (Xt.refl _) rfl (RB.tuple fun w hw => by
    simp only [List.mem_cons, List.not_mem_nil, or_false] at hw
    rcases hw with rfl | rfl | rfl
    · exact RB.string _
    · exact RB.string _
    · exact RB.bool _)
theorem cut_some {a b : List UInt8} {c : UInt8} (h : c ∉ a) (hl : a.length + b.length ≤ 100000) : Sound Tryd.prog G 65 [.string (S (a ++ c :: b)), .string (S [c])] fl A (.tuple [Value.string (S a), .string (S b), .bool true].toArray) A := by
  refine Sound.of mixed Tryd.func65 Tryd.ntmps65 Tryd.results65 (by kernel_rfl) rfl (by kernel_rfl) (by simp) fun hA => ?_
  simp only [↓R1, R2, R3, R4, TY, reduceIte, Nat.reduceEqDiff, Nat.reduceAdd, Nat.reduceMul, Nat.reduceLT, Nat.reduceLeDiff, reduceCtorEq, decide_true, decide_false, Int.reduceLE, Int.reduceLT, Int.reduceToNat, Int.reduceAdd, Int.reduceSub, Int.reduceMul, Int.reduceEq]
  refine call_of (liteCut_some h hl) ?_
  simp only [↓R1, R2, R3, R4, TY, reduceIte, Nat.reduceEqDiff, Nat.reduceAdd, Nat.reduceMul, Nat.reduceLT, Nat.reduceLeDiff, reduceCtorEq, decide_true, decide_false, Int.reduceLE, Int.reduceLT, Int.reduceToNat, Int.reduceAdd, Int.reduceSub, Int.reduceMul, Int.reduceEq]
  exact Ended.back hA (Xt.refl _) rfl (RB.tuple fun w hw => by
    simp only [List.mem_cons, List.not_mem_nil, or_false] at hw
    rcases hw with rfl | rfl | rfl
    · exact RB.string _
    · exact RB.string _
    · exact RB.bool _)
theorem cut_none {l : List UInt8} {c : UInt8} (h : c ∉ l) : Sound Tryd.prog G 65 [.string (S l), .string (S [c])] fl A (.tuple [Value.string (S l), .string (S []), .bool false].toArray) A := by
  refine Sound.of mixed Tryd.func65 Tryd.ntmps65 Tryd.results65 (by kernel_rfl) rfl (by kernel_rfl) (by simp) fun hA => ?_
  simp only [↓R1, R2, R3, R4, TY, reduceIte, Nat.reduceEqDiff, Nat.reduceAdd, Nat.reduceMul, Nat.reduceLT, Nat.reduceLeDiff, reduceCtorEq, decide_true, decide_false, Int.reduceLE, Int.reduceLT, Int.reduceToNat, Int.reduceAdd, Int.reduceSub, Int.reduceMul, Int.reduceEq]
  refine call_of (liteCut_none h) ?_
  simp only [↓R1, R2, R3, R4, TY, reduceIte, Nat.reduceEqDiff, Nat.reduceAdd, Nat.reduceMul, Nat.reduceLT, Nat.reduceLeDiff, reduceCtorEq, decide_true, decide_false, Int.reduceLE, Int.reduceLT, Int.reduceToNat, Int.reduceAdd, Int.reduceSub, Int.reduceMul, Int.reduceEq]
  exact Ended.back hA (Xt.refl _) rfl (RB.tuple fun w hw => by
    simp only [List.mem_cons, List.not_mem_nil, or_false] at hw
    rcases hw with rfl | rfl | rfl
    · exact RB.string _
    · exact RB.string _
    · exact RB.bool _)

theorem hasPrefix_ok (l : List UInt8) (c : UInt8) (hl : l.length ≤ 100000) : Sound Tryd.prog G 100 [.string (S l), .string (S [c])] fl A (.bool (decide (l.head? = some c))) A := by
  refine Sound.of mixed Tryd.func100 Tryd.ntmps100 Tryd.results100 (by kernel_rfl) rfl (by kernel_rfl) (by simp) fun hA => ?_
  have h3 : (S [c]).size = 1 := rfl
  have h4 : ((1 : Nat) : Int) = 1 := rfl
  cases l with
  | nil =>
    have c0 : ((1 : Int) ≤ 0) = False := eq_false (by decide)
    have c1 : (1 ≤ 0) = False := eq_false (by decide)
    have c2 : (((1 : Nat) : Int) ≤ ((0 : Nat) : Int)) = False := eq_false (by decide)
    simp only [↓R1, R2, R3, R4, TY, reduceIte, Nat.reduceEqDiff, Nat.reduceAdd, Nat.reduceMul, Nat.reduceLT, Nat.reduceLeDiff, reduceCtorEq, decide_true, decide_false, Int.reduceLE, Int.reduceLT, Int.reduceToNat, Int.reduceAdd, Int.reduceSub, Int.reduceMul, Int.reduceEq, h3, S_size, List.length_nil, c0, c1, c2]
    exact Ended.back hA (Xt.refl _) (by simp) (RB.bool _)
  | cons b k =>
    have c2 : (1 ≤ k.length + 1) = True := eq_true (by omega)
    have e1 : List.take 1 (b :: k) = [b] := rfl
    simp only [↓R1, R2, R3, R4, TY, reduceIte, Nat.reduceEqDiff, Nat.reduceAdd, Nat.reduceMul, Nat.reduceLT, Nat.reduceLeDiff, reduceCtorEq, decide_true, decide_false, Int.reduceLE, Int.reduceLT, Int.reduceToNat, Int.reduceAdd, Int.reduceSub, Int.reduceMul, Int.reduceEq, h3, S_size, List.length_cons, c2, S_extract, List.drop_zero, e1, S_inj]
    exact Ended.back hA (Xt.refl _) (by simp) (RB.bool _)

theorem liteCutPrefix_some {l : List UInt8} {c : UInt8} (hl : l.length ≤ 90000) : Sound Tryd.prog G 88 [.string (S (c :: l)), .string (S [c])] fl A (.tuple [Value.string (S l), .bool true].toArray) A := by
  refine Sound.of mixed Tryd.func88 Tryd.ntmps88 Tryd.results88 (by kernel_rfl) rfl (by kernel_rfl) (by simp) fun hA => ?_
  have h3 : (S [c]).size = 1 := rfl
  simp only [↓R1, R2, R3, R4, TY, reduceIte, Nat.reduceEqDiff, Nat.reduceAdd, Nat.reduceMul, Nat.reduceLT, Nat.reduceLeDiff, reduceCtorEq, decide_true, decide_false, Int.reduceLE, Int.reduceLT, Int.reduceToNat, Int.reduceAdd, Int.reduceSub, Int.reduceMul, Int.reduceEq]
  refine call_of (hasPrefix_ok _ c (by simp; omega)) ?_
  rw [show decide ((c :: l).head? = some c) = true by simp]
  have c2 : (1 ≤ l.length + 1) = True := eq_true (by omega)
  have e1 : List.take (l.length + 1 - 1) (List.drop 1 (c :: l)) = l := by simp
  simp only [↓R1, R2, R3, R4, TY, reduceIte, Nat.reduceEqDiff, Nat.reduceAdd, Nat.reduceMul, Nat.reduceLT, Nat.reduceLeDiff, reduceCtorEq, decide_true, decide_false, Int.reduceLE, Int.reduceLT, Int.reduceToNat, Int.reduceAdd, Int.reduceSub, Int.reduceMul, Int.reduceEq, h3, S_size, List.length_cons, c2, S_extract]
  rw [e1]
  exact Ended.back hA (Xt.refl _) rfl (RB.tuple fun w hw => by
    simp only [List.mem_cons, List.not_mem_nil, or_false] at hw
    rcases hw with rfl | rfl
    · exact RB.string _
    · exact RB.bool _)
theorem liteCutPrefix_none {l : List UInt8} {c : UInt8} (hl : l.length ≤ 90000) (h : l.head? ≠ some c) : Sound Tryd.prog G 88 [.string (S l), .string (S [c])] fl A (.tuple [Value.string (S l), .bool false].toArray) A := by
  refine Sound.of mixed Tryd.func88 Tryd.ntmps88 Tryd.results88 (by kernel_rfl) rfl (by kernel_rfl) (by simp) fun hA => ?_
  simp only [↓R1, R2, R3, R4, TY, reduceIte, Nat.reduceEqDiff, Nat.reduceAdd, Nat.reduceMul, Nat.reduceLT, Nat.reduceLeDiff, reduceCtorEq, decide_true, decide_false, Int.reduceLE, Int.reduceLT, Int.reduceToNat, Int.reduceAdd, Int.reduceSub, Int.reduceMul, Int.reduceEq]
  refine call_of (hasPrefix_ok _ c (by omega)) ?_
  rw [decide_eq_false h]
  simp only [↓R1, R2, R3, R4, TY, reduceIte, Nat.reduceEqDiff, Nat.reduceAdd, Nat.reduceMul, Nat.reduceLT, Nat.reduceLeDiff, reduceCtorEq, decide_true, decide_false, Int.reduceLE, Int.reduceLT, Int.reduceToNat, Int.reduceAdd, Int.reduceSub, Int.reduceMul, Int.reduceEq]
  exact Ended.back hA (Xt.refl _) rfl (RB.tuple fun w hw => by
    simp only [List.mem_cons, List.not_mem_nil, or_false] at hw
    rcases hw with rfl | rfl
    · exact RB.string _
    · exact RB.bool _)
theorem cutPrefix_some {l : List UInt8} {c : UInt8} (hl : l.length ≤ 90000) : Sound Tryd.prog G 64 [.string (S (c :: l)), .string (S [c])] fl A (.tuple [Value.string (S l), .bool true].toArray) A := by
  refine Sound.of mixed Tryd.func64 Tryd.ntmps64 Tryd.results64 (by kernel_rfl) rfl (by kernel_rfl) (by simp) fun hA => ?_
  simp only [↓R1, R2, R3, R4, TY, reduceIte, Nat.reduceEqDiff, Nat.reduceAdd, Nat.reduceMul, Nat.reduceLT, Nat.reduceLeDiff, reduceCtorEq, decide_true, decide_false, Int.reduceLE, Int.reduceLT, Int.reduceToNat, Int.reduceAdd, Int.reduceSub, Int.reduceMul, Int.reduceEq]
  refine call_of (liteCutPrefix_some hl) ?_
  simp only [↓R1, R2, R3, R4, TY, reduceIte, Nat.reduceEqDiff, Nat.reduceAdd, Nat.reduceMul, Nat.reduceLT, Nat.reduceLeDiff, reduceCtorEq, decide_true, decide_false, Int.reduceLE, Int.reduceLT, Int.reduceToNat, Int.reduceAdd, Int.reduceSub, Int.reduceMul, Int.reduceEq]
  exact Ended.back hA (Xt.refl _) rfl (RB.tuple fun w hw => by
    simp only [List.mem_cons, List.not_mem_nil, or_false] at hw
    rcases hw with rfl | rfl
    · exact RB.string _
    · exact RB.bool _)
theorem cutPrefix_none {l : List UInt8} {c : UInt8} (hl : l.length ≤ 90000) (h : l.head? ≠ some c) : Sound Tryd.prog G 64 [.string (S l), .string (S [c])] fl A (.tuple [Value.string (S l), .bool false].toArray) A := by
  refine Sound.of mixed Tryd.func64 Tryd.ntmps64 Tryd.results64 (by kernel_rfl) rfl (by kernel_rfl) (by simp) fun hA => ?_
  simp only [↓R1, R2, R3, R4, TY, reduceIte, Nat.reduceEqDiff, Nat.reduceAdd, Nat.reduceMul, Nat.reduceLT, Nat.reduceLeDiff, reduceCtorEq, decide_true, decide_false, Int.reduceLE, Int.reduceLT, Int.reduceToNat, Int.reduceAdd, Int.reduceSub, Int.reduceMul, Int.reduceEq]
  refine call_of (liteCutPrefix_none hl h) ?_
  simp only [↓R1, R2, R3, R4, TY, reduceIte, Nat.reduceEqDiff, Nat.reduceAdd, Nat.reduceMul, Nat.reduceLT, Nat.reduceLeDiff, reduceCtorEq, decide_true, decide_false, Int.reduceLE, Int.reduceLT, Int.reduceToNat, Int.reduceAdd, Int.reduceSub, Int.reduceMul, Int.reduceEq]
  exact Ended.back hA (Xt.refl _) rfl (RB.tuple fun w hw => by
    simp only [List.mem_cons, List.not_mem_nil, or_false] at hw
    rcases hw with rfl | rfl
    · exact RB.string _
    · exact RB.bool _)
end
end Go.Proofs.YtpaffoiiipgkeaaDoor.Ab
