/- Facts: what they are, and the functions that look at one or two of them. -/
import Derived.Test.YthchdnaabamplaaLa
namespace Go.Proofs.Ythchdnaabamplaa.Ab
open Go.RowKit
set_option linter.unusedVariables false
set_option linter.unusedSimpArgs false
set_option maxRecDepth 100000

/-- A fact: kind, a, b. -/
abbrev Fa := Int × Int × Int
def fC (f : Fa) : List Value := [.int .i64 f.1, .int .i64 f.2.1, .int .i64 f.2.2]
def fV (f : Fa) : Value := .agg [Value.int .i64 f.1, .int .i64 f.2.1, .int .i64 f.2.2].toArray
def limA (k : Int) : Int := if k = 1 then 6 else if k = 2 then 4 else if k = 3 then 4 else if k = 4 then 8 else if k = 5 then 6 else if k = 6 then 4 else 0
def limB (k : Int) : Int := if k = 1 then 8 else if k = 2 then 6 else if k = 3 then 1 else if k = 4 then 1 else if k = 5 then 1 else if k = 6 then 14 else 0
def fOk (f : Fa) : Prop := 0 ≤ f.2.1 ∧ f.2.1 < limA f.1 ∧ 0 ≤ f.2.2 ∧ f.2.2 < limB f.1
instance (f : Fa) : Decidable (fOk f) := by unfold fOk; infer_instance
theorem kinds (k : Int) : k = 1 ∨ k = 2 ∨ k = 3 ∨ k = 4 ∨ k = 5 ∨ k = 6 ∨ (k ≠ 1 ∧ k ≠ 2 ∧ k ≠ 3 ∧ k ≠ 4 ∧ k ≠ 5 ∧ k ≠ 6) := by omega
theorem fC_len (f : Fa) : (fC f).length = 3 := rfl
theorem fc_one (l : List Fa) : ∀ c ∈ l.map fC, ∀ u ∈ c, u.oneCell' = true := by
  intro c hc u hu
  obtain ⟨x, _, rfl⟩ := List.mem_map.1 hc
  simp only [fC, List.mem_cons, List.not_mem_nil, or_false] at hu
  rcases hu with rfl | rfl | rfl <;> rfl
theorem fc_rb {n : Nat} (l : List Fa) : ∀ c ∈ l.map fC, ∀ u ∈ c, RB n u := by
  intro c hc u hu
  obtain ⟨x, _, rfl⟩ := List.mem_map.1 hc
  simp only [fC, List.mem_cons, List.not_mem_nil, or_false] at hu
  rcases hu with rfl | rfl | rfl <;> exact RB.int _ _
theorem fV_rb {n : Nat} (f : Fa) : RB n (fV f) := RB.agg fun v hv => by
  simp only [fV, List.mem_cons, List.not_mem_nil, or_false] at hv
  rcases hv with rfl | rfl | rfl <;> exact RB.int _ _

section
variable {G : Gl} {fl : Nat} {A : Hp}

theorem fa_get {B : Hp} {a : Addr} {n c : Nat} {l : List Fa} (h : Sl B 3 (.slice (some a) n c) (l.map fC)) {i : Nat} (hi : i < l.length) :
    B.get G (aadd a (i * 3)) = some (.int .i64 l[i].1) ∧ B.get G (aadd a (i * 3 + 1)) = some (.int .i64 l[i].2.1) ∧ B.get G (aadd a (i * 3 + 2)) = some (.int .i64 l[i].2.2) := by
  obtain ⟨a', h1, h2⟩ := h.at (G := G) (i := i) (by simpa using hi)
  cases h1
  simp only [List.getElem_map] at h2
  exact ⟨h2 0 _ rfl, h2 1 _ rfl, h2 2 _ rfl⟩

theorem eqD_fact (f g : Fa) : eqD Try.prog 20 23 (fV f) (fV g) = some (decide (f = g)) := by
  obtain ⟨a, b, c⟩ := f
  obtain ⟨a', b', c'⟩ := g
  have hst : Try.prog.stoodInHeld 23 = false := by kernel_rfl
  simp [eqD, fV, Try.underlying23, Try.underlying3, eqFs, partV, ty3, hst]
  rfl
theorem guard_fact : Try.prog.eqGuardType Try.prog.depth 23 = false := by kernel_rfl

set_option maxHeartbeats 1000000 in
theorem fvalid_ok (f : Fa) : Sound Try.prog G 13 [fV f] fl A (.bool (decide (fOk f))) A := by
  refine Sound.of mixed Try.func13 Try.ntmps13 Try.results13 (by kernel_rfl) rfl (by kernel_rfl) (by kernel_rfl) fun hA => ?_
  obtain ⟨k, a, b⟩ := f
  simp only [fV]
  rcases kinds k with rfl | rfl | rfl | rfl | rfl | rfl | ⟨h1, h2, h3, h4, h5, h6⟩
  case inr.inr.inr.inr.inr.inr =>
    have e1 := eq_false h1; have e2 := eq_false h2; have e3 := eq_false h3; have e4 := eq_false h4; have e5 := eq_false h5; have e6 := eq_false h6
    simp only [↓R1, R2, R3, R4, TY, reduceIte, Nat.reduceEqDiff, Nat.reduceAdd, Nat.reduceMul, Nat.reduceLT, Nat.reduceLeDiff, reduceCtorEq, decide_true, decide_false, Int.reduceLE, Int.reduceLT, Int.reduceToNat, Int.reduceAdd, Int.reduceSub, Int.reduceMul, Int.reduceEq, e1, e2, e3, e4, e5, e6]
    repeat' (first | (refine And.intro ?_ ?_) | intro _)
    all_goals
      refine Ended.back hA ((Xt.refl A).push _) (congrArg _ ?_) (RB.bool _)
      first
        | (refine dec_f ?_; simp only [fOk, limA, e1, e2, e3, e4, e5, e6, if_false]; omega)
        | (refine dec_i ?_; simp only [fOk, limA, limB, e1, e2, e3, e4, e5, e6, if_false]; omega)
  all_goals
    simp only [↓R1, R2, R3, R4, TY, reduceIte, Nat.reduceEqDiff, Nat.reduceAdd, Nat.reduceMul, Nat.reduceLT, Nat.reduceLeDiff, reduceCtorEq, decide_true, decide_false, Int.reduceLE, Int.reduceLT, Int.reduceToNat, Int.reduceAdd, Int.reduceSub, Int.reduceMul, Int.reduceEq]
    repeat' (first | (refine And.intro ?_ ?_) | intro _)
    all_goals
      refine Ended.back hA ((Xt.refl A).push _) (congrArg _ ?_) (RB.bool _)
      first
        | (refine dec_f ?_; simp only [fOk, limA, limB, reduceIte, Int.reduceEq]; omega)
        | (refine dec_i ?_; simp only [fOk, limA, limB, reduceIte, Int.reduceEq]; omega)

/-- Which fact comes first. -/
def flt (f g : Fa) : Prop := f.1 < g.1 ∨ f.1 = g.1 ∧ (f.2.1 < g.2.1 ∨ f.2.1 = g.2.1 ∧ f.2.2 < g.2.2)
instance (f g : Fa) : Decidable (flt f g) := by unfold flt; infer_instance
set_option maxHeartbeats 1000000 in
theorem factLess_ok (f g : Fa) : Sound Try.prog G 11 [fV f, fV g] fl A (.bool (decide (flt f g))) A := by
  refine Sound.of mixed Try.func11 Try.ntmps11 Try.results11 (by kernel_rfl) rfl (by kernel_rfl) (by kernel_rfl) fun hA => ?_
  obtain ⟨k, a, b⟩ := f
  obtain ⟨k', a', b'⟩ := g
  simp only [fV]
  simp only [↓R1, R2, R3, R4, TY, reduceIte, Nat.reduceEqDiff, Nat.reduceAdd, Nat.reduceMul, Nat.reduceLT, Nat.reduceLeDiff, reduceCtorEq, decide_true, decide_false, Int.reduceLE, Int.reduceLT, Int.reduceToNat, Int.reduceAdd, Int.reduceSub, Int.reduceMul, Int.reduceEq, FE]
  repeat' (first | (refine And.intro ?_ ?_) | intro _)
  all_goals
    refine Ended.back hA (((Xt.refl A).push _).push _) (congrArg _ ?_) (RB.bool _)
    first
      | (refine dec_f ?_; simp only [flt]; omega)
      | (refine dec_i ?_; simp only [flt]; omega)
end
end Go.Proofs.Ythchdnaabamplaa.Ab
