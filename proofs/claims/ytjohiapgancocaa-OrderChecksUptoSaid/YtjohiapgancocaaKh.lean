/- Orders: slices.Index, Contains, IndexFunc, ContainsFunc of numbers; the closure of Pick. -/
import Derived.Test.YtjohiapgancocaaKg
namespace Go.Proofs.Ytjohiapgancocaa.Ab
open Go.RowKit
set_option linter.unusedVariables false
set_option linter.unusedSimpArgs false
set_option maxRecDepth 100000

/-- Where the first element is that a test takes, or -1. -/
def ixP {α : Type} (p : α → Bool) (l : List α) : Int := match l.findIdx? p with | some i => ((i : Nat) : Int) | none => -1
theorem ixP_found {α : Type} {p : α → Bool} {l : List α} {j : Nat} (hj : j < l.length) (h : p l[j] = true) (hn : ∀ x ∈ l.take j, p x = false) : ixP p l = j := by
  have : l.findIdx? p = some j := List.findIdx?_eq_some_iff_getElem.2 ⟨hj, h, fun i hi => by simpa using hn _ (List.mem_take_iff_getElem.2 ⟨i, by omega, rfl⟩)⟩
  simp [ixP, this]
theorem ixP_none {α : Type} {p : α → Bool} {l : List α} (hn : ∀ x ∈ l, p x = false) : ixP p l = -1 := by
  have : l.findIdx? p = none := List.findIdx?_eq_none_iff.2 hn
  simp [ixP, this]
theorem ixP_ge {α : Type} {p : α → Bool} {l : List α} : 0 ≤ ixP p l ↔ ∃ x ∈ l, p x = true := by
  unfold ixP
  cases h : l.findIdx? p with
  | none =>
    have := List.findIdx?_eq_none_iff.1 h
    simp only [show ¬ ((0 : Int) ≤ -1) by omega, false_iff]
    rintro ⟨x, hx, hp⟩
    rw [this x hx] at hp; cases hp
  | some i =>
    obtain ⟨h1, h2, -⟩ := List.findIdx?_eq_some_iff_getElem.1 h
    exact ⟨fun _ => ⟨_, List.getElem_mem h1, h2⟩, fun _ => by simp⟩

section
variable {G : Gl} {fl : Nat} {A : Hp}
theorem iindex_ok {v : Value} {l : List Int} (hs : Sl A 1 v (l.map iC)) (hl : l.length ≤ 9223372036854775807) (x : Int) : Sound Try.prog G 56 [v, .int .i64 x] fl A (.int .i64 (ixOf l x)) A := by
  refine Sound.of mixed Try.func56 Try.ntmps56 Try.results56 (by kernel_rfl) rfl (by kernel_rfl) (by kernel_rfl) fun hA => ?_
  obtain ⟨o, c, rfl⟩ := hs.len
  rw [List.length_map] at hs ⊢
  simp only [↓R1, R2, R3, R4, TY, reduceIte, Nat.reduceEqDiff, Nat.reduceAdd, Nat.reduceMul, Nat.reduceLT, Nat.reduceLeDiff, reduceCtorEq, decide_true, decide_false, Int.reduceLE, Int.reduceLT, Int.reduceToNat, Int.reduceAdd, Int.reduceSub, Int.reduceMul, Int.reduceEq, FE]
  refine range_of 8 l.length (fun j τ B => B = A ∧ τ 0 = some (.slice o l.length c) ∧ τ 1 = some (.int .i64 x) ∧ τ 7 = some (.int .i64 l.length) ∧ τ 8 = some (.int .i64 j) ∧ x ∉ l.take j) ?_ ?_
  · exact ⟨rfl, rfl, rfl, rfl, rfl, by simp⟩
  rintro j τ B hj ⟨rfl, q0, q1, q7, q8, hno⟩
  simp only [↓R1, R2, R3, R4, TY, reduceIte, Nat.reduceEqDiff, Nat.reduceAdd, Nat.reduceMul, Nat.reduceLT, Nat.reduceLeDiff, reduceCtorEq, decide_true, decide_false, Int.reduceLE, Int.reduceLT, Int.reduceToNat, Int.reduceAdd, Int.reduceSub, Int.reduceMul, Int.reduceEq, FE, q0, q1, q7, q8]
  refine ⟨fun hlt => ?_, fun hlt => ?_⟩
  rotate_left
  · exact Ended.back hA (Xt.refl _) (congrArg _ (ixOf_none (by rwa [List.take_of_length_le (by omega)] at hno)).symm) (RB.int _ _)
  obtain ⟨a, rfl, -⟩ := hs.at (G := G) (i := j) (by simpa using hlt)
  have hab := hs.lt hA
  have u0 := int_get (G := G) hs hlt
  have hj63 : j < 9223372036854775807 := by omega
  simp only [↓R1, R2, R3, R4, TY, reduceIte, Nat.reduceEqDiff, Nat.reduceAdd, Nat.reduceMul, Nat.reduceLT, Nat.reduceLeDiff, reduceCtorEq, decide_true, decide_false, Int.reduceLE, Int.reduceLT, Int.reduceToNat, Int.reduceAdd, Int.reduceSub, Int.reduceMul, Int.reduceEq, FE, q0, q1, q7, q8, hlt, hab, hj63, u0, Nat.mul_one]
  refine ⟨fun hc => ?_, fun hc => ?_⟩
  · exact Ended.back hA (Xt.refl _) (congrArg _ (ixOf_found hlt hc.symm hno).symm) (RB.int _ _)
  · refine range_on q8 hlt rfl ⟨rfl, q0, q1, q7, rfl, ?_⟩
    rw [List.take_succ_eq_append_getElem hlt, List.mem_append]
    simp only [List.mem_singleton, not_or]
    exact ⟨hno, hc⟩
theorem icontains_ok {v : Value} {l : List Int} (hs : Sl A 1 v (l.map iC)) (hl : l.length ≤ 9223372036854775807) (x : Int) : Sound Try.prog G 49 [v, .int .i64 x] fl A (.bool (decide (x ∈ l))) A := by
  refine Sound.of mixed Try.func49 Try.ntmps49 Try.results49 (by kernel_rfl) rfl (by kernel_rfl) (by kernel_rfl) fun hA => ?_
  have ci := fun fl => iindex_ok (G := G) (fl := fl) hs hl x
  simp only [↓R1, R2, R3, R4, TY, reduceIte, Nat.reduceEqDiff, Nat.reduceAdd, Nat.reduceMul, Nat.reduceLT, Nat.reduceLeDiff, reduceCtorEq, decide_true, decide_false, Int.reduceLE, Int.reduceLT, Int.reduceToNat, Int.reduceAdd, Int.reduceSub, Int.reduceMul, Int.reduceEq, FE]
  refine call_of (ci _) ?_
  simp only [↓R1, R2, R3, R4, TY, reduceIte, Nat.reduceEqDiff, Nat.reduceAdd, Nat.reduceMul, Nat.reduceLT, Nat.reduceLeDiff, reduceCtorEq, decide_true, decide_false, Int.reduceLE, Int.reduceLT, Int.reduceToNat, Int.reduceAdd, Int.reduceSub, Int.reduceMul, Int.reduceEq, FE]
  exact Ended.back hA (Xt.refl A) (congrArg _ (dec_i ixOf_ge)) (RB.bool _)

set_option maxHeartbeats 4000000 in
theorem iindexFunc_ok {v w : Value} {f : FuncId} {l : List Int} {p : Int → Bool} (hs : Sl A 1 v (l.map iC)) (hl : l.length ≤ 9223372036854775807)
    (hp : ∀ (x : Int) (fl : Nat), Sound Try.prog G f [.int .i64 x, w] fl A (.bool (p x)) A) :
    Sound Try.prog G 57 [v, .func (.func f) #[] #[w]] fl A (.int .i64 (ixP p l)) A := by
  refine Sound.of mixed Try.func57 Try.ntmps57 Try.results57 (by kernel_rfl) rfl (by kernel_rfl) (by kernel_rfl) fun hA => ?_
  obtain ⟨o, c, rfl⟩ := hs.len
  rw [List.length_map] at hs ⊢
  simp only [↓R1, R2, R3, R4, TY, reduceIte, Nat.reduceEqDiff, Nat.reduceAdd, Nat.reduceMul, Nat.reduceLT, Nat.reduceLeDiff, reduceCtorEq, decide_true, decide_false, Int.reduceLE, Int.reduceLT, Int.reduceToNat, Int.reduceAdd, Int.reduceSub, Int.reduceMul, Int.reduceEq, FE]
  refine range_of 8 l.length (fun j τ B => B = A ∧ τ 0 = some (.slice o l.length c) ∧ τ 1 = some (.func (.func f) #[] #[w]) ∧ τ 7 = some (.int .i64 l.length) ∧ τ 8 = some (.int .i64 j) ∧ ∀ x ∈ l.take j, p x = false) ?_ ?_
  · exact ⟨rfl, rfl, rfl, rfl, rfl, by simp⟩
  rintro j τ B hj ⟨rfl, q0, q1, q7, q8, hno⟩
  simp only [↓R1, R2, R3, R4, TY, reduceIte, Nat.reduceEqDiff, Nat.reduceAdd, Nat.reduceMul, Nat.reduceLT, Nat.reduceLeDiff, reduceCtorEq, decide_true, decide_false, Int.reduceLE, Int.reduceLT, Int.reduceToNat, Int.reduceAdd, Int.reduceSub, Int.reduceMul, Int.reduceEq, FE, q0, q1, q7, q8]
  refine ⟨fun hlt => ?_, fun hlt => ?_⟩
  rotate_left
  · exact Ended.back hA (Xt.refl _) (congrArg _ (ixP_none (by rwa [List.take_of_length_le (by omega)] at hno)).symm) (RB.int _ _)
  obtain ⟨a, rfl, -⟩ := hs.at (G := G) (i := j) (by simpa using hlt)
  have hab := hs.lt hA
  have u0 := int_get (G := G) hs hlt
  have hj63 : j < 9223372036854775807 := by omega
  simp only [↓R1, R2, R3, R4, TY, reduceIte, Nat.reduceEqDiff, Nat.reduceAdd, Nat.reduceMul, Nat.reduceLT, Nat.reduceLeDiff, reduceCtorEq, decide_true, decide_false, Int.reduceLE, Int.reduceLT, Int.reduceToNat, Int.reduceAdd, Int.reduceSub, Int.reduceMul, Int.reduceEq, FE, q0, q1, q7, q8, hlt, hab, hj63, u0, Nat.mul_one]
  refine call_of (hp l[j] _) ?_
  simp only [↓R1, R2, R3, R4, TY, reduceIte, Nat.reduceEqDiff, Nat.reduceAdd, Nat.reduceMul, Nat.reduceLT, Nat.reduceLeDiff, reduceCtorEq, decide_true, decide_false, Int.reduceLE, Int.reduceLT, Int.reduceToNat, Int.reduceAdd, Int.reduceSub, Int.reduceMul, Int.reduceEq, FE, q0, q1, q7, q8, hlt, hab, hj63, u0, Nat.mul_one]
  simp only [brI_any]
  refine ⟨fun hc => ?_, fun hc => ?_⟩
  · simp only [↓R1, R2, R3, R4, TY, reduceIte, Nat.reduceEqDiff, Nat.reduceAdd, Nat.reduceMul, Nat.reduceLT, Nat.reduceLeDiff, reduceCtorEq, decide_true, decide_false, Int.reduceLE, Int.reduceLT, Int.reduceToNat, Int.reduceAdd, Int.reduceSub, Int.reduceMul, Int.reduceEq, FE, q0, q1, q7, q8]
    exact Ended.back hA (Xt.refl _) (congrArg _ (ixP_found hlt hc hno).symm) (RB.int _ _)
  · simp only [↓R1, R2, R3, R4, TY, reduceIte, Nat.reduceEqDiff, Nat.reduceAdd, Nat.reduceMul, Nat.reduceLT, Nat.reduceLeDiff, reduceCtorEq, decide_true, decide_false, Int.reduceLE, Int.reduceLT, Int.reduceToNat, Int.reduceAdd, Int.reduceSub, Int.reduceMul, Int.reduceEq, FE, q0, q1, q7, q8, hj63]
    refine range_on q8 hlt rfl ⟨rfl, q0, q1, q7, rfl, fun x hx => ?_⟩
    rw [List.take_succ_eq_append_getElem hlt, List.mem_append] at hx
    rcases hx with hx | hx
    · exact hno x hx
    · rw [List.mem_singleton] at hx; subst hx; exact hc
theorem icontainsFunc_ok {v w : Value} {f : FuncId} {l : List Int} {p : Int → Bool} (hs : Sl A 1 v (l.map iC)) (hl : l.length ≤ 9223372036854775807)
    (hp : ∀ (x : Int) (fl : Nat), Sound Try.prog G f [.int .i64 x, w] fl A (.bool (p x)) A) :
    Sound Try.prog G 50 [v, .func (.func f) #[] #[w]] fl A (.bool (decide (∃ x ∈ l, p x = true))) A := by
  refine Sound.of mixed Try.func50 Try.ntmps50 Try.results50 (by kernel_rfl) rfl (by kernel_rfl) (by kernel_rfl) fun hA => ?_
  have ci := fun fl => iindexFunc_ok (G := G) (fl := fl) hs hl hp
  simp only [↓R1, R2, R3, R4, TY, reduceIte, Nat.reduceEqDiff, Nat.reduceAdd, Nat.reduceMul, Nat.reduceLT, Nat.reduceLeDiff, reduceCtorEq, decide_true, decide_false, Int.reduceLE, Int.reduceLT, Int.reduceToNat, Int.reduceAdd, Int.reduceSub, Int.reduceMul, Int.reduceEq, FE]
  refine call_of (ci _) ?_
  simp only [↓R1, R2, R3, R4, TY, reduceIte, Nat.reduceEqDiff, Nat.reduceAdd, Nat.reduceMul, Nat.reduceLT, Nat.reduceLeDiff, reduceCtorEq, decide_true, decide_false, Int.reduceLE, Int.reduceLT, Int.reduceToNat, Int.reduceAdd, Int.reduceSub, Int.reduceMul, Int.reduceEq, FE]
  exact Ended.back hA (Xt.refl A) (congrArg _ (dec_i ixP_ge)) (RB.bool _)
theorem pick1_ok {u : Value} {b : List Int} {id : Nat} {x : Int} (hr : A.blk id = some (.row [u] 0 1)) (hid : id < A.next) (hb : Sl A 1 u (b.map iC)) (lb : b.length < 9223372036854775807) :
    Sound Try.prog G 51 [.int .i64 x, .pointer (some ⟨id, 0, some 0⟩)] fl A (.bool (!decide (x ∈ b))) A := by
  refine Sound.of mixed Try.func51 Try.ntmps51 Try.results51 (by kernel_rfl) rfl (by kernel_rfl) (by kernel_rfl) fun hA => ?_
  have ci := fun fl => icontains_ok (G := G) (fl := fl) hb (Nat.le_of_lt lb) x
  have g0 : ∀ j, A.get G ⟨id, j, some 0⟩ = ([u] : List Value)[j]? := fun j => by simp only [Hp.get, hr, if_true]
  simp only [↓R1, R2, R3, R4, TY, reduceIte, Nat.reduceEqDiff, Nat.reduceAdd, Nat.reduceMul, Nat.reduceLT, Nat.reduceLeDiff, reduceCtorEq, decide_true, decide_false, Int.reduceLE, Int.reduceLT, Int.reduceToNat, Int.reduceAdd, Int.reduceSub, Int.reduceMul, Int.reduceEq, FE, g0, hid]
  refine call_of (ci _) ?_
  simp only [↓R1, R2, R3, R4, TY, reduceIte, Nat.reduceEqDiff, Nat.reduceAdd, Nat.reduceMul, Nat.reduceLT, Nat.reduceLeDiff, reduceCtorEq, decide_true, decide_false, Int.reduceLE, Int.reduceLT, Int.reduceToNat, Int.reduceAdd, Int.reduceSub, Int.reduceMul, Int.reduceEq, FE, g0, hid]
  exact Ended.back hA (Xt.refl A) rfl (RB.bool _)
end
end Go.Proofs.Ytjohiapgancocaa.Ab
