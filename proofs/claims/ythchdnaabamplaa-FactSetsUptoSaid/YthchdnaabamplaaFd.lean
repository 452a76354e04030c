/- Facts: looking for elements; what facts take; clashes in the reference. -/
import Derived.Test.YthchdnaabamplaaFc
namespace Go.Proofs.Ythchdnaabamplaa.Ab
open Go.RowKit
set_option linter.unusedVariables false
set_option linter.unusedSimpArgs false
set_option maxRecDepth 100000

section
variable {G : Gl} {fl : Nat} {A : Hp}
theorem eqD_pair (x y : Int × Int) : eqD Try.prog 20 39 (pV x) (pV y) = some (decide (x = y)) := by
  obtain ⟨a, b⟩ := x
  obtain ⟨c, d⟩ := y
  simp [eqD, pV, Try.underlying39, Try.underlying3, eqEs, partV, ty3, List.range, List.range.loop]
  rfl
theorem guard_pair : Try.prog.eqGuardType Try.prog.depth 39 = false := by kernel_rfl
theorem pr_get {B : Hp} {a : Addr} {n c : Nat} {l : List (Int × Int)} (h : Sl B 2 (.slice (some a) n c) (l.map pC)) {i : Nat} (hi : i < l.length) :
    B.get G (aadd a (i * 2)) = some (.int .i64 l[i].1) ∧ B.get G (aadd a (i * 2 + 1)) = some (.int .i64 l[i].2) := by
  obtain ⟨a', h1, h2⟩ := h.at (G := G) (i := i) (by simpa using hi)
  cases h1
  simp only [List.getElem_map] at h2
  exact ⟨h2 0 _ rfl, h2 1 _ rfl⟩
set_option maxHeartbeats 2000000 in
theorem pr_index {v : Value} {l : List (Int × Int)} (hs : Sl A 2 v (l.map pC)) (hl : l.length < 9223372036854775807) (x : Int × Int) : Sound Try.prog G 34 [v, pV x] fl A (.int .i64 (ixOf l x)) A := by
  refine Sound.of mixed Try.func34 Try.ntmps34 Try.results34 (by kernel_rfl) rfl (by kernel_rfl) (by kernel_rfl) fun hA => ?_
  obtain ⟨o, c, rfl⟩ := hs.len
  rw [List.length_map] at hs ⊢
  have hgd := guard_pair
  simp only [pV]
  simp only [↓R1, R2, R3, R4, TY, reduceIte, Nat.reduceEqDiff, Nat.reduceAdd, Nat.reduceMul, Nat.reduceLT, Nat.reduceLeDiff, reduceCtorEq, decide_true, decide_false, Int.reduceLE, Int.reduceLT, Int.reduceToNat, Int.reduceAdd, Int.reduceSub, Int.reduceMul, Int.reduceEq, FE]
  refine range_of 8 l.length (fun j τ B => Xt A.next A B ∧ A.next < B.next ∧ B.blk A.next = some (.row [Value.int .i64 x.1, Value.int .i64 x.2] 0 1) ∧ τ 0 = some (.slice o l.length c) ∧ τ 3 = some (.pointer (some ⟨A.next, 0, some 0⟩)) ∧ τ 7 = some (.int .i64 l.length) ∧ τ 8 = some (.int .i64 j) ∧ x ∉ l.take j) ?_ ?_
  · exact ⟨(Xt.refl A).push _, by simp, by simp [Hp.push_blk], rfl, rfl, rfl, rfl, by simp⟩
  rintro j τ B hj ⟨hx, hn, hb, q0, q3, q7, q8, hno⟩
  have g0 : ∀ j, B.get G ⟨A.next, j, some 0⟩ = ([Value.int .i64 x.1, Value.int .i64 x.2] : List Value)[j]? := fun j => by simp only [Hp.get, hb, if_true]
  simp only [↓R1, R2, R3, R4, TY, reduceIte, Nat.reduceEqDiff, Nat.reduceAdd, Nat.reduceMul, Nat.reduceLT, Nat.reduceLeDiff, reduceCtorEq, decide_true, decide_false, Int.reduceLE, Int.reduceLT, Int.reduceToNat, Int.reduceAdd, Int.reduceSub, Int.reduceMul, Int.reduceEq, FE, q0, q3, q7, q8, g0, hn]
  refine ⟨fun hlt => ?_, fun hlt => ?_⟩
  rotate_left
  · refine Ended.back hA hx (congrArg _ (ixOf_none (by rwa [List.take_of_length_le (by omega)] at hno)).symm) (RB.int _ _)
  obtain ⟨a, rfl, -⟩ := hs.at (G := G) (i := j) (by simpa using hlt)
  have hsB := hs.xt hA hx
  have hab : a.block < B.next := Nat.lt_of_lt_of_le (hs.lt hA) hx.next
  obtain ⟨u0, u1⟩ := pr_get (G := G) hsB hlt
  have hj63 : j < 9223372036854775807 := by omega
  have heq := eqD_pair x l[j]
  simp only [pV] at heq
  simp only [↓R1, R2, R3, R4, TY, reduceIte, Nat.reduceEqDiff, Nat.reduceAdd, Nat.reduceMul, Nat.reduceLT, Nat.reduceLeDiff, reduceCtorEq, decide_true, decide_false, Int.reduceLE, Int.reduceLT, Int.reduceToNat, Int.reduceAdd, Int.reduceSub, Int.reduceMul, Int.reduceEq, FE, q0, q3, q7, q8, g0, hn, hlt, hab, hj63, u0, u1, hgd, heq]
  refine ⟨fun hc => ?_, fun hc => ?_⟩
  · refine Ended.back hA hx (congrArg _ (ixOf_found hlt hc.symm hno).symm) (RB.int _ _)
  · refine range_on q8 hlt rfl ⟨hx, hn, hb, q0, q3, q7, rfl, ?_⟩
    rw [List.take_succ_eq_append_getElem hlt, List.mem_append]
    simp only [List.mem_singleton, not_or]
    exact ⟨hno, hc⟩
theorem pr_contains {v : Value} {l : List (Int × Int)} (hs : Sl A 2 v (l.map pC)) (hl : l.length < 9223372036854775807) (x : Int × Int) : Sound Try.prog G 26 [v, pV x] fl A (.bool (decide (x ∈ l))) A := by
  refine Sound.of mixed Try.func26 Try.ntmps26 Try.results26 (by kernel_rfl) rfl (by kernel_rfl) (by kernel_rfl) fun hA => ?_
  have hx := (Xt.refl A).push (.row [Value.int .i64 x.1, Value.int .i64 x.2] 0 1)
  have ci := fun fl => pr_index (G := G) (fl := fl) (A := A.push (.row [Value.int .i64 x.1, Value.int .i64 x.2] 0 1)) (hs.xt hA hx) hl x
  simp only [pV] at ci ⊢
  simp only [↓R1, R2, R3, R4, TY, reduceIte, Nat.reduceEqDiff, Nat.reduceAdd, Nat.reduceMul, Nat.reduceLT, Nat.reduceLeDiff, reduceCtorEq, decide_true, decide_false, Int.reduceLE, Int.reduceLT, Int.reduceToNat, Int.reduceAdd, Int.reduceSub, Int.reduceMul, Int.reduceEq, FE]
  refine call_of (ci _) ?_
  simp only [↓R1, R2, R3, R4, TY, reduceIte, Nat.reduceEqDiff, Nat.reduceAdd, Nat.reduceMul, Nat.reduceLT, Nat.reduceLeDiff, reduceCtorEq, decide_true, decide_false, Int.reduceLE, Int.reduceLT, Int.reduceToNat, Int.reduceAdd, Int.reduceSub, Int.reduceMul, Int.reduceEq, FE]
  refine Ended.back hA hx (congrArg _ (dec_i ixOf_ge)) (RB.bool _)
end
end Go.Proofs.Ythchdnaabamplaa.Ab
