/- Tools: Busy, and the library's functions for slices of uses. -/
import Derived.Test.YtjohiapgancocaaTlD
import Derived.Test.YtjohiapgancocaaAb21
namespace Go.Proofs.Ytjohiapgancocaa.Ab
open Go.RowKit
set_option linter.unusedVariables false
set_option linter.unusedSimpArgs false
set_option maxRecDepth 100000

theorem us_one (l : List Us) : ∀ c ∈ l.map Us.cells, ∀ u ∈ c, u.oneCell' = true := by
  intro c hc u hu
  obtain ⟨x, _, rfl⟩ := List.mem_map.1 hc
  simp only [Us.cells, List.mem_cons, List.not_mem_nil, or_false] at hu
  rcases hu with rfl | rfl | rfl <;> rfl
theorem us_rb {n : Nat} (l : List Us) : ∀ c ∈ l.map Us.cells, ∀ u ∈ c, RB n u := by
  intro c hc u hu
  obtain ⟨x, _, rfl⟩ := List.mem_map.1 hc
  simp only [Us.cells, List.mem_cons, List.not_mem_nil, or_false] at hu
  rcases hu with rfl | rfl | rfl <;> exact RB.int _ _

section
variable {G : Gl} {fl : Nat} {A : Hp}

theorem zl_zero (z : List Value) : zl z 0 = [] := rfl

theorem clone_ok {v : Value} {l : List Us} (hl : l.length ≤ 1000000000) (hs : Sl A 3 v (l.map Us.cells)) : Sound Try.prog G 17 [v] fl A (outV A v (l.map Us.cells)) (outH A 3 v (l.map Us.cells)) := by
  refine Sound.of mixed Try.func17 Try.ntmps17 Try.results17 (by kernel_rfl) rfl (by kernel_rfl) (by kernel_rfl) fun hA => ?_
  obtain ⟨o, c, rfl⟩ := hs.len
  cases o with
  | none =>
    simp only [↓R1, R2, R3, R4, TY, reduceIte, Nat.reduceEqDiff, Nat.reduceAdd, Nat.reduceMul, Nat.reduceLT, Nat.reduceLeDiff, reduceCtorEq, decide_true, decide_false, Option.isNone_none, Option.isNone_some]
    exact Ended.back hA (Xt.refl A) rfl (RB.sl0 _ _)
  | some a =>
    simp only [↓R1, R2, R3, R4, TY, reduceIte, Nat.reduceEqDiff, Nat.reduceAdd, Nat.reduceMul, Nat.reduceLT, Nat.reduceLeDiff, reduceCtorEq, decide_true, decide_false, Option.isNone_none, Option.isNone_some, zl_zero]
    have hp := Xt.push (Xt.refl A) (.row [] 0 3)
    refine apn_of (lo := A.next) (sz := 3) ty22 rfl ty29 ty22 rfl rfl (by omega) rfl (css := []) ⟨by simp, by simp, .inr ⟨A.next, 0, 0, 0, rfl, Nat.le_refl _, Nat.le_refl _, by simp, by simp [Hp.push_blk], rfl⟩⟩ hA.floor (by simp) (hs.xt hA hp) (us_one l) (by simp; omega) (by simp; omega) ?_
    intro v' A' hv' hx hn hf hsome hid'
    obtain ⟨a', n', c', rfl⟩ := hsome (.inl (by simp))
    simp only [↓R1, R2, R3, R4, TY, reduceIte, Nat.reduceEqDiff, Nat.reduceAdd, Nat.reduceMul, Nat.reduceLT, Nat.reduceLeDiff, reduceCtorEq, decide_true, decide_false]
    exact Ended.acc hA ⟨fun id hid => (hx.blk id hid).trans (hp.blk id hid), hx.next⟩ hv' (us_rb l)

theorem eqD_use (u v : Us) : eqD Try.prog 20 29 u.val v.val = some (decide (u = v)) := by
  obtain ⟨a, b, c⟩ := u
  obtain ⟨a', b', c'⟩ := v
  have hst : Try.prog.stoodInHeld 29 = false := by kernel_rfl
  simp [eqD, Us.val, Try.underlying29, Try.underlying3, eqFs, partV, ty3, hst]
  rfl

theorem equal_ok {v1 v2 : Value} {l1 l2 : List Us} (hl : l1.length < 9223372036854775807) (h1 : Sl A 3 v1 (l1.map Us.cells)) (h2 : Sl A 3 v2 (l2.map Us.cells)) : Sound Try.prog G 19 [v1, v2] fl A (.bool (decide (l1 = l2))) A := by
  refine Sound.of mixed Try.func19 Try.ntmps19 Try.results19 (by kernel_rfl) rfl (by kernel_rfl) (by kernel_rfl) fun hA => ?_
  obtain ⟨o1, c1, rfl⟩ := h1.len
  obtain ⟨o2, c2, rfl⟩ := h2.len
  rw [List.length_map] at h1 h2 ⊢
  rw [List.length_map]
  simp only [↓R1, R2, R3, R4, TY, reduceIte, Nat.reduceEqDiff, Nat.reduceAdd, Nat.reduceMul, Nat.reduceLT, Nat.reduceLeDiff, reduceCtorEq, decide_true, decide_false]
  have hcast : ((l1.length : Int) = (l2.length : Int)) = (l1.length = l2.length) := propext Int.ofNat_inj
  simp only [hcast]
  refine ⟨fun he => ?_, fun he => ?_⟩
  rotate_left
  · exact Ended.back hA (Xt.refl A) (congrArg _ (dec_f fun h => he (by rw [h]))) (RB.bool _)
  refine range_of 13 l1.length (fun j τ B => B = A ∧ τ 0 = some (.slice o1 l1.length c1) ∧ τ 1 = some (.slice o2 l2.length c2) ∧ τ 12 = some (.int .i64 l1.length) ∧ τ 13 = some (.int .i64 j) ∧ l1.take j = l2.take j) ?_ ?_
  · exact ⟨rfl, rfl, rfl, rfl, rfl, rfl⟩
  rintro j τ B hj ⟨rfl, q0, q1, q12, q13, hpre⟩
  simp only [↓R1, R2, R3, R4, TY, reduceIte, Nat.reduceEqDiff, Nat.reduceAdd, Nat.reduceMul, Nat.reduceLT, Nat.reduceLeDiff, reduceCtorEq, decide_true, decide_false, q0, q1, q12, q13]
  refine ⟨fun hlt => ?_, fun hlt => ?_⟩
  rotate_left
  · refine Ended.back hA (Xt.refl _) (congrArg _ (dec_t ?_)) (RB.bool _)
    rwa [List.take_of_length_le (by omega), List.take_of_length_le (by omega)] at hpre
  have hlt2 : j < l2.length := by omega
  obtain ⟨a1, rfl, -⟩ := h1.at (G := G) (i := j) (by simpa using hlt)
  obtain ⟨a2, rfl, -⟩ := h2.at (G := G) (i := j) (by simpa using hlt2)
  obtain ⟨g0, g1, g2⟩ := us_get (G := G) h1 hlt
  obtain ⟨k0, k1, k2⟩ := us_get (G := G) h2 hlt2
  have hj63 : j < 9223372036854775807 := by omega
  have hgt : Try.prog.eqGuardType Try.prog.depth 29 = false := by kernel_rfl
  have heq := eqD_use l1[j] l2[j]
  simp only [Us.val] at heq
  simp only [↓R1, R2, R3, R4, TY, reduceIte, Nat.reduceEqDiff, Nat.reduceAdd, Nat.reduceMul, Nat.reduceLT, Nat.reduceLeDiff, reduceCtorEq, decide_true, decide_false, q0, q1, q12, q13, hlt, hlt2, g0, g1, g2, k0, k1, k2, hgt, heq, hj63]
  refine ⟨fun hc => ?_, fun hc => ?_⟩
  · refine range_on q13 hlt rfl ⟨rfl, q0, q1, q12, rfl, ?_⟩
    rw [List.take_succ_eq_append_getElem hlt, List.take_succ_eq_append_getElem hlt2, hpre, hc]
  · refine Ended.back hA (Xt.refl _) (congrArg _ (dec_f fun h => hc ?_)) (RB.bool _)
    subst h; rfl

/-- The ticks of a use within bounds. -/
def busyOf (tool from_ to : Int) (u : Us) : Int := if u.tool = tool then max (min (u.from_ + u.long) (max to 0) - max u.from_ from_) 0 else 0
def busyR (l : List Us) (tool from_ to : Int) : Int × Int := if chk l ≠ 0 then (0, chk l) else ((l.map (busyOf tool from_ to)).sum, 0)
theorem if_min {x y : Int} : (if y < x then y else x) = min x y := by split <;> omega
theorem if_max {x y : Int} : (if y > x then y else x) = max x y := by split <;> omega

theorem busy_ok {v : Value} {l : List Us} {tool from_ to : Int} (hf : I64 from_) (ht : I64 to) (hs : Sl A 3 v (l.map Us.cells)) :
    Sound Try.prog G 18 [v, .int .i64 tool, .int .i64 from_, .int .i64 to] fl A (.tuple [Value.int .i64 (busyR l tool from_ to).1, .int .i64 (busyR l tool from_ to).2].toArray) A := by
  refine Sound.of mixed Try.func18 Try.ntmps18 Try.results18 (by kernel_rfl) rfl (by kernel_rfl) (by kernel_rfl) fun hA => ?_
  have hres : ∀ (x y : Int) (B : Hp), Xt A.next A B → busyR l tool from_ to = (x, y) → Ended A (.tuple [Value.int .i64 x, .int .i64 y].toArray) B (.tuple [Value.int .i64 (busyR l tool from_ to).1, .int .i64 (busyR l tool from_ to).2].toArray) A := by
    intro x y B hx he
    rw [he]
    exact Ended.back hA hx rfl (RB.tuple (by simp [RB.int]))
  simp only [↓R1, R2, R3, R4, TY, reduceIte, Nat.reduceEqDiff, Nat.reduceAdd, Nat.reduceMul, Nat.reduceLT, Nat.reduceLeDiff, reduceCtorEq, decide_true, decide_false]
  refine call_of (check_ok hs) ?_
  simp only [↓R1, R2, R3, R4, TY, reduceIte, Nat.reduceEqDiff, Nat.reduceAdd, Nat.reduceMul, Nat.reduceLT, Nat.reduceLeDiff, reduceCtorEq, decide_true, decide_false]
  refine ⟨fun he => ?_, fun he => ?_⟩
  rotate_left
  · exact hres _ _ _ (Xt.refl A) (by rw [busyR, if_pos he])
  obtain ⟨hl60, hval⟩ := chk_valid he
  obtain ⟨o, c, rfl⟩ := hs.len
  rw [List.length_map] at hs ⊢
  simp only [↓R1, R2, R3, R4, TY, reduceIte, Nat.reduceEqDiff, Nat.reduceAdd, Nat.reduceMul, Nat.reduceLT, Nat.reduceLeDiff, reduceCtorEq, decide_true, decide_false]
  refine range_of 21 l.length (fun j τ B => Xt A.next A B ∧ τ 1 = some (.int .i64 tool) ∧ τ 2 = some (.int .i64 from_) ∧ τ 3 = some (.int .i64 to) ∧ τ 11 = some (.int .i64 ((l.take j).map (busyOf tool from_ to)).sum) ∧ τ 19 = some (.slice o l.length c) ∧
    τ 20 = some (.int .i64 l.length) ∧ τ 21 = some (.int .i64 j) ∧ 0 ≤ ((l.take j).map (busyOf tool from_ to)).sum ∧ ((l.take j).map (busyOf tool from_ to)).sum ≤ 2000 * j) ?_ ?_
  · exact ⟨Xt.refl A, rfl, rfl, rfl, rfl, rfl, rfl, rfl, by simp, by simp⟩
  rintro j τ B hj ⟨hx, q1, q2, q3, q11, q19, q20, q21, hs0, hs1⟩
  simp only [↓R1, R2, R3, R4, TY, reduceIte, Nat.reduceEqDiff, Nat.reduceAdd, Nat.reduceMul, Nat.reduceLT, Nat.reduceLeDiff, reduceCtorEq, decide_true, decide_false, q1, q2, q3, q11, q19, q20, q21]
  refine ⟨fun hlt => ?_, fun hlt => ?_⟩
  rotate_left
  · refine hres _ _ _ hx ?_
    rw [busyR, if_neg (by simpa using he), List.take_of_length_le (by omega)]
  obtain ⟨a, rfl, -⟩ := hs.at (G := G) (i := j) (by simpa using hlt)
  have hsB := hs.xt hA hx
  have hab : a.block < B.next := Nat.lt_of_lt_of_le (hs.lt hA) hx.next
  have hfl : fl ≤ B.next := Nat.le_trans hA.floor hx.next
  obtain ⟨g0, g1, g2⟩ := us_get (G := G) hsB hlt
  have hj63 : j < 9223372036854775807 := by omega
  obtain ⟨v1, v2, v3, v4, v5, v6⟩ := hval l[j] (List.getElem_mem _)
  obtain ⟨f1, f2⟩ := hf
  obtain ⟨t1, t2⟩ := ht
  have w1 : IntKind.i64.wrap (l[j].from_ + l[j].long) = l[j].from_ + l[j].long := wrapI (by omega)
  have w2 : IntKind.i64.wrap (min (l[j].from_ + l[j].long) (max to 0) - max l[j].from_ from_) = min (l[j].from_ + l[j].long) (max to 0) - max l[j].from_ from_ := wrapI (by omega)
  have w3 : IntKind.i64.wrap (((l.take j).map (busyOf tool from_ to)).sum + max (min (l[j].from_ + l[j].long) (max to 0) - max l[j].from_ from_) 0) = ((l.take j).map (busyOf tool from_ to)).sum + max (min (l[j].from_ + l[j].long) (max to 0) - max l[j].from_ from_) 0 := wrapI (by omega)
  have hstep : ((l.take (j + 1)).map (busyOf tool from_ to)).sum = ((l.take j).map (busyOf tool from_ to)).sum + busyOf tool from_ to l[j] := by
    rw [List.take_succ_eq_append_getElem hlt, List.map_append, List.sum_append]; simp
  simp only [↓R1, R2, R3, R4, TY, reduceIte, Nat.reduceEqDiff, Nat.reduceAdd, Nat.reduceMul, Nat.reduceLT, Nat.reduceLeDiff, reduceCtorEq, decide_true, decide_false, q1, q2, q3, q11, q19, q20, q21, hlt, hab, hfl, g0, g1, g2, hj63, if_min, if_max, w1, w2, w3]
  refine ⟨fun hc => ?_, fun hc => ?_⟩
  · have hb : busyOf tool from_ to l[j] = max (min (l[j].from_ + l[j].long) (max to 0) - max l[j].from_ from_) 0 := by rw [busyOf, if_pos hc]
    refine range_on q21 hlt rfl ⟨?_, q1, q2, q3, by rw [hstep, hb]; rfl, q19, q20, rfl, by rw [hstep, hb]; omega, by rw [hstep, hb]; omega⟩
    simp (maxDischargeDepth := 20) only [xt_push, xt_put, hx, hx.next]
  · have hb : busyOf tool from_ to l[j] = 0 := by rw [busyOf, if_neg hc]
    refine range_on q21 hlt rfl ⟨?_, q1, q2, q3, by rw [hstep, hb, Int.add_zero]; exact q11, q19, q20, rfl, by rw [hstep, hb]; omega, by rw [hstep, hb]; omega⟩
    simp (maxDischargeDepth := 20) only [xt_push, xt_put, hx, hx.next]

end
end Go.Proofs.Ytjohiapgancocaa.Ab
