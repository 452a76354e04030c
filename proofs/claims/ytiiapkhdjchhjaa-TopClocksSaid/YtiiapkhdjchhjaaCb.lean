/- Clocks: messages, the net's parts. -/
import Derived.Test.YtiiapkhdjchhjaaCa
namespace Go.Proofs.Ytiiapkhdjchhjaa.Ab
open Go.RowKit
set_option linter.unusedVariables false
set_option linter.unusedSimpArgs false
set_option maxRecDepth 100000

/-- A beat: who, when, what its clock shows. -/
structure Mg where
  (i t c : Int)
def mC (m : Mg) : List Value := [.int .i64 3, .int .i64 m.i, .int .i64 4, .int .i64 m.t, .int .u32 m.c, .slice none 0 0]
def sC (m : Mg) : List Value := .int .i64 (m.t + 1) :: mC m
/-- Beats that are good. -/
structure Mg.ok (m : Mg) : Prop where
  i0 : 0 ≤ m.i
  i1 : m.i < 4
  t0 : 0 ≤ m.t
  t1 : m.t < 60
section
variable {G : Gl} {fl : Nat} {A : Hp}
theorem cloneC_ok : Sound Try.prog G 19 [.slice none 0 0] fl A (.slice none 0 0) A := by
  refine Sound.of mixed Try.func19 Try.ntmps19 Try.results19 (by kernel_rfl) rfl (by kernel_rfl) (by kernel_rfl) fun hA => ?_
  simp only [↓R1, R2, R3, R4, TY, reduceIte, Nat.reduceEqDiff, Nat.reduceAdd, Nat.reduceMul, Nat.reduceLT, Nat.reduceLeDiff, reduceCtorEq, decide_true, decide_false, Int.reduceLE, Int.reduceLT, Int.reduceToNat, Int.reduceAdd, Int.reduceSub, Int.reduceMul, Int.reduceEq, FE, Option.isNone_none]
  exact Ended.back hA (Xt.refl _) rfl (RB.sl0 _ _)
theorem cloneF_ok : Sound Try.prog G 11 [.slice none 0 0] fl A (.slice none 0 0) A := by
  refine Sound.of mixed Try.func11 Try.ntmps11 Try.results11 (by kernel_rfl) rfl (by kernel_rfl) (by kernel_rfl) fun hA => ?_
  simp only [↓R1, R2, R3, R4, TY, reduceIte, Nat.reduceEqDiff, Nat.reduceAdd, Nat.reduceMul, Nat.reduceLT, Nat.reduceLeDiff, reduceCtorEq, decide_true, decide_false, Int.reduceLE, Int.reduceLT, Int.reduceToNat, Int.reduceAdd, Int.reduceSub, Int.reduceMul, Int.reduceEq, FE, Option.isNone_none]
  exact Ended.back hA (Xt.refl _) rfl (RB.sl0 _ _)
theorem gcheck_ok : Sound Try.prog G 18 [.slice none 0 0] fl A (.int .i64 0) A := by
  refine Sound.of mixed Try.func18 Try.ntmps18 Try.results18 (by kernel_rfl) rfl (by kernel_rfl) (by kernel_rfl) fun hA => ?_
  simp only [↓R1, R2, R3, R4, TY, reduceIte, Nat.reduceEqDiff, Nat.reduceAdd, Nat.reduceMul, Nat.reduceLT, Nat.reduceLeDiff, reduceCtorEq, decide_true, decide_false, Int.reduceLE, Int.reduceLT, Int.reduceToNat, Int.reduceAdd, Int.reduceSub, Int.reduceMul, Int.reduceEq, FE]
  refine unroll_of [()] ?_
  simp only [↓R1, R2, R3, R4, TY, reduceIte, Nat.reduceEqDiff, Nat.reduceAdd, Nat.reduceMul, Nat.reduceLT, Nat.reduceLeDiff, reduceCtorEq, decide_true, decide_false, Int.reduceLE, Int.reduceLT, Int.reduceToNat, Int.reduceAdd, Int.reduceSub, Int.reduceMul, Int.reduceEq, FE]
  exact Ended.back hA (Xt.refl _) rfl (RB.int _ _)
theorem mcheck_ok {m : Mg} (hm : m.ok) : Sound Try.prog G 15 [.agg (mC m).toArray] fl A (.int .i64 0) A := by
  refine Sound.of mixed Try.func15 Try.ntmps15 Try.results15 (by kernel_rfl) rfl (by kernel_rfl) (by kernel_rfl) fun hA => ?_
  obtain ⟨h1, h2, h3, h4⟩ := hm
  obtain ⟨i, t, c⟩ := m
  simp only at h1 h2 h3 h4
  have cg := fun fl A => gcheck_ok (G := G) (fl := fl) (A := A)
  have e1 : decide (i < 0) = false := decide_eq_false (by omega)
  have e2 : decide (4 < i) = false := decide_eq_false (by omega)
  have e3 : decide (i = 4) = false := decide_eq_false (by omega)
  have e4 : decide (t < 0) = false := decide_eq_false (by omega)
  have e5 : decide (2147483647 < t) = false := decide_eq_false (by omega)
  simp only [mC]
  have mn : (if 4 < i then (4 : Int) else i) = i := if_neg (by omega)
  have mx : (if 4 > i then (4 : Int) else i) = 4 := if_pos (by omega)
  have n1 : (i < 0) = False := eq_false (by omega)
  have n3 : (i = 4) = False := eq_false (by omega)
  have n4 : (t < 0) = False := eq_false (by omega)
  have n5 : (2147483647 < t) = False := eq_false (by omega)
  simp only [↓R1, R2, R3, R4, TY, reduceIte, Nat.reduceEqDiff, Nat.reduceAdd, Nat.reduceMul, Nat.reduceLT, Nat.reduceLeDiff, reduceCtorEq, decide_true, decide_false, Int.reduceLE, Int.reduceLT, Int.reduceToNat, Int.reduceAdd, Int.reduceSub, Int.reduceMul, Int.reduceEq, FE, mn, mx, n1, n3, n4, n5]
  refine call_of (cg _ _) ?_
  simp only [↓R1, R2, R3, R4, TY, reduceIte, Nat.reduceEqDiff, Nat.reduceAdd, Nat.reduceMul, Nat.reduceLT, Nat.reduceLeDiff, reduceCtorEq, decide_true, decide_false, Int.reduceLE, Int.reduceLT, Int.reduceToNat, Int.reduceAdd, Int.reduceSub, Int.reduceMul, Int.reduceEq, FE]
  exact Ended.back hA ((Xt.refl _).push _) rfl (RB.int _ _)
theorem mcopy_ok {m : Mg} : Sound Try.prog G 16 [.agg (mC m).toArray] fl A (.agg (mC m).toArray) A := by
  refine Sound.of mixed Try.func16 Try.ntmps16 Try.results16 (by kernel_rfl) rfl (by kernel_rfl) (by kernel_rfl) fun hA => ?_
  have cg := fun fl A => cloneC_ok (G := G) (fl := fl) (A := A)
  simp only [mC]
  have hfl := hA.floor
  simp only [↓R1, R2, R3, R4, TY, reduceIte, Nat.reduceEqDiff, Nat.reduceAdd, Nat.reduceMul, Nat.reduceLT, Nat.reduceLeDiff, reduceCtorEq, decide_true, decide_false, Int.reduceLE, Int.reduceLT, Int.reduceToNat, Int.reduceAdd, Int.reduceSub, Int.reduceMul, Int.reduceEq, FE, hfl]
  refine call_of (cg _ _) ?_
  simp only [↓R1, R2, R3, R4, TY, reduceIte, Nat.reduceEqDiff, Nat.reduceAdd, Nat.reduceMul, Nat.reduceLT, Nat.reduceLeDiff, reduceCtorEq, decide_true, decide_false, Int.reduceLE, Int.reduceLT, Int.reduceToNat, Int.reduceAdd, Int.reduceSub, Int.reduceMul, Int.reduceEq, FE, hfl]
  refine Ended.back hA ?_ rfl (RB.agg fun w hw => ?_)
  · simp (maxDischargeDepth := 20) only [xt_push, xt_put, xt_refl, Nat.le_refl, Hp.push_next, Nat.le_add_right]
  · simp only [mC, List.mem_cons, List.not_mem_nil, or_false] at hw
    rcases hw with rfl | rfl | rfl | rfl | rfl | rfl
    all_goals first | exact RB.int _ _ | exact RB.sl0 _ _
theorem insert_ok {s f : Value} {n : Nat} (hn : n ≤ 1) : Sound Try.prog G 20 [s, .int .i64 0, .int .i64 n, f] fl A (.tuple #[]) A := by
  refine Sound.of mixed Try.func20 Try.ntmps20 Try.results20 (by kernel_rfl) rfl (by kernel_rfl) (by kernel_rfl) fun hA => ?_
  have e : ((1 : Int) < (n : Int)) = False := eq_false (by omega)
  have w : IntKind.i64.wrap 1 = 1 := rfl
  simp only [↓R1, R2, R3, R4, TY, reduceIte, Nat.reduceEqDiff, Nat.reduceAdd, Nat.reduceMul, Nat.reduceLT, Nat.reduceLeDiff, reduceCtorEq, decide_true, decide_false, Int.reduceLE, Int.reduceLT, Int.reduceToNat, Int.reduceAdd, Int.reduceSub, Int.reduceMul, Int.reduceEq, FE, w]
  refine unroll_of [()] ?_
  simp only [↓R1, R2, R3, R4, TY, reduceIte, Nat.reduceEqDiff, Nat.reduceAdd, Nat.reduceMul, Nat.reduceLT, Nat.reduceLeDiff, reduceCtorEq, decide_true, decide_false, Int.reduceLE, Int.reduceLT, Int.reduceToNat, Int.reduceAdd, Int.reduceSub, Int.reduceMul, Int.reduceEq, FE, w, e]
  exact Ended.back hA (Xt.refl _) rfl (RB.tuple fun w hw => by simp at hw)
theorem stable_ok {s f : Value} {n : Nat} (hn : n ≤ 1) : Sound Try.prog G 17 [s, .int .i64 n, f] fl A (.tuple #[]) A := by
  refine Sound.of mixed Try.func17 Try.ntmps17 Try.results17 (by kernel_rfl) rfl (by kernel_rfl) (by kernel_rfl) fun hA => ?_
  have e : ((20 : Int) ≤ (n : Int)) = False := eq_false (by omega)
  have e2 : ((20 : Int) < (n : Int)) = False := eq_false (by omega)
  have ci := fun fl => insert_ok (G := G) (fl := fl) (A := A) (s := s) (f := f) hn
  simp only [↓R1, R2, R3, R4, TY, reduceIte, Nat.reduceEqDiff, Nat.reduceAdd, Nat.reduceMul, Nat.reduceLT, Nat.reduceLeDiff, reduceCtorEq, decide_true, decide_false, Int.reduceLE, Int.reduceLT, Int.reduceToNat, Int.reduceAdd, Int.reduceSub, Int.reduceMul, Int.reduceEq, FE]
  refine unroll_of [()] ?_
  simp only [↓R1, R2, R3, R4, TY, reduceIte, Nat.reduceEqDiff, Nat.reduceAdd, Nat.reduceMul, Nat.reduceLT, Nat.reduceLeDiff, reduceCtorEq, decide_true, decide_false, Int.reduceLE, Int.reduceLT, Int.reduceToNat, Int.reduceAdd, Int.reduceSub, Int.reduceMul, Int.reduceEq, FE, e]
  refine call_of (ci _) ?_
  simp only [↓R1, R2, R3, R4, TY, reduceIte, Nat.reduceEqDiff, Nat.reduceAdd, Nat.reduceMul, Nat.reduceLT, Nat.reduceLeDiff, reduceCtorEq, decide_true, decide_false, Int.reduceLE, Int.reduceLT, Int.reduceToNat, Int.reduceAdd, Int.reduceSub, Int.reduceMul, Int.reduceEq, FE]
  refine unroll_of [()] ?_
  simp only [↓R1, R2, R3, R4, TY, reduceIte, Nat.reduceEqDiff, Nat.reduceAdd, Nat.reduceMul, Nat.reduceLT, Nat.reduceLeDiff, reduceCtorEq, decide_true, decide_false, Int.reduceLE, Int.reduceLT, Int.reduceToNat, Int.reduceAdd, Int.reduceSub, Int.reduceMul, Int.reduceEq, FE, e2]
  exact Ended.back hA (Xt.refl _) rfl (RB.tuple fun w hw => by simp at hw)
theorem sortStable_ok {o : Option Addr} {c : Nat} {f : Value} {n : Nat} (hn : n ≤ 1) : Sound Try.prog G 12 [.slice o n c, f] fl A (.tuple #[]) A := by
  refine Sound.of mixed Try.func12 Try.ntmps12 Try.results12 (by kernel_rfl) rfl (by kernel_rfl) (by kernel_rfl) fun hA => ?_
  have ci := fun fl => stable_ok (G := G) (fl := fl) (A := A) (s := .slice o n c) (f := f) hn
  simp only [↓R1, R2, R3, R4, TY, reduceIte, Nat.reduceEqDiff, Nat.reduceAdd, Nat.reduceMul, Nat.reduceLT, Nat.reduceLeDiff, reduceCtorEq, decide_true, decide_false, Int.reduceLE, Int.reduceLT, Int.reduceToNat, Int.reduceAdd, Int.reduceSub, Int.reduceMul, Int.reduceEq, FE]
  refine call_of (ci _) ?_
  simp only [↓R1, R2, R3, R4, TY, reduceIte, Nat.reduceEqDiff, Nat.reduceAdd, Nat.reduceMul, Nat.reduceLT, Nat.reduceLeDiff, reduceCtorEq, decide_true, decide_false, Int.reduceLE, Int.reduceLT, Int.reduceToNat, Int.reduceAdd, Int.reduceSub, Int.reduceMul, Int.reduceEq, FE]
  exact Ended.back hA (Xt.refl _) rfl (RB.tuple fun w hw => by simp at hw)
theorem new_ok : Sound Try.prog G 6 [.slice none 0 0] fl A (.pointer (some ⟨A.next, 0, some 0⟩)) (A.push (.row [.slice none 0 0, .int .i64 0, .slice none 0 0] 0 3)) := by
  refine Sound.ofS mixed Try.func6 Try.ntmps6 Try.results6 (by kernel_rfl) rfl (by kernel_rfl) (by kernel_rfl) fun hA => ?_
  have cg := fun fl A => cloneF_ok (G := G) (fl := fl) (A := A)
  simp only [↓R1, R2, R3, R4, TY, reduceIte, Nat.reduceEqDiff, Nat.reduceAdd, Nat.reduceMul, Nat.reduceLT, Nat.reduceLeDiff, reduceCtorEq, decide_true, decide_false, Int.reduceLE, Int.reduceLT, Int.reduceToNat, Int.reduceAdd, Int.reduceSub, Int.reduceMul, Int.reduceEq, FE]
  refine call_of (cg _ _) ?_
  simp only [↓R1, R2, R3, R4, TY, reduceIte, Nat.reduceEqDiff, Nat.reduceAdd, Nat.reduceMul, Nat.reduceLT, Nat.reduceLeDiff, reduceCtorEq, decide_true, decide_false, Int.reduceLE, Int.reduceLT, Int.reduceToNat, Int.reduceAdd, Int.reduceSub, Int.reduceMul, Int.reduceEq, FE]
  exact ⟨rfl, rfl⟩
end
end Go.Proofs.Ytiiapkhdjchhjaa.Ab
