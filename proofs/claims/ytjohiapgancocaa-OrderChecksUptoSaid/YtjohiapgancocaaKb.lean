/- Orders: rows of numbers; Check and BeforeFault. -/
import Derived.Test.YtjohiapgancocaaKa
import Derived.Test.YtjohiapgancocaaLa
namespace Go.Proofs.Ytjohiapgancocaa.Ab
open Go.RowKit
set_option linter.unusedVariables false
set_option linter.unusedSimpArgs false
set_option maxRecDepth 100000

def iC (x : Int) : List Value := [.int .i64 x]
/-- A slice of slices of numbers. -/
def Nst (A : Hp) (v : Value) (ls : List (List Int)) : Prop := ∃ vs : List Value, Sl A 1 v (vs.map fun u => [u]) ∧ vs.length = ls.length ∧ ∀ i (h : i < vs.length) (h' : i < ls.length), Sl A 1 vs[i] (ls[i].map iC)
theorem getD_row {ls : List (List Int)} {k : Nat} (h : k < ls.length) : ls.getD k [] = ls[k] := by simp [List.getD, h]

section
variable {G : Gl} {fl : Nat} {A : Hp}
theorem Nst.xt {B : Hp} {v : Value} {ls : List (List Int)} (hA : Hok fl A) (h : Nst A v ls) (x : Xt A.next A B) : Nst B v ls := by
  obtain ⟨vs, h1, h2, h3⟩ := h
  exact ⟨vs, h1.xt hA x, h2, fun i a b => (h3 i a b).xt hA x⟩
theorem int_get {B : Hp} {a : Addr} {n c : Nat} {l : List Int} (h : Sl B 1 (.slice (some a) n c) (l.map iC)) {i : Nat} (hi : i < l.length) : B.get G (aadd a i) = some (.int .i64 l[i]) := by
  obtain ⟨a', h1, h2⟩ := h.at (G := G) (i := i) (by simpa using hi)
  cases h1
  simp only [List.getElem_map] at h2
  have := h2 0 _ rfl
  rw [Nat.mul_one, Nat.add_zero] at this; exact this
theorem row_get {B : Hp} {a : Addr} {n c : Nat} {vs : List Value} (h : Sl B 1 (.slice (some a) n c) (vs.map fun u => [u])) {i : Nat} (hi : i < vs.length) : B.get G (aadd a i) = some vs[i] := by
  obtain ⟨a', h1, h2⟩ := h.at (G := G) (i := i) (by simpa using hi)
  cases h1
  simp only [List.getElem_map] at h2
  have := h2 0 _ rfl
  rw [Nat.mul_one, Nat.add_zero] at this; exact this

set_option maxHeartbeats 4000000 in
theorem check_ok {v : Value} {ls : List (List Int)} (h : Nst A v ls) (hmx : ∀ k, k < ls.length → (ls.getD k []).length ≤ 9223372036854775807) : Sound Try.prog G 35 [v] fl A (.int .i64 (befF ls)) A := by
  refine Sound.of mixed Try.func35 Try.ntmps35 Try.results35 (by kernel_rfl) rfl (by kernel_rfl) (by kernel_rfl) fun hA => ?_
  obtain ⟨vs, hs, hl, hr⟩ := h
  obtain ⟨o, c, rfl⟩ := hs.len
  rw [List.length_map, hl] at hs ⊢
  simp only [↓R1, R2, R3, R4, TY, reduceIte, Nat.reduceEqDiff, Nat.reduceAdd, Nat.reduceMul, Nat.reduceLT, Nat.reduceLeDiff, reduceCtorEq, decide_true, decide_false, Int.reduceLE, Int.reduceLT, Int.reduceToNat, Int.reduceAdd, Int.reduceSub, Int.reduceMul, Int.reduceEq, FE]
  refine ⟨fun h40 => ?_, fun h40 => ?_⟩
  · exact Ended.back hA (Xt.refl A) (congrArg _ (befF_large (by omega)).symm) (RB.int _ _)
  refine range_of 12 ls.length (fun k τ B => B = A ∧ τ 10 = some (.slice o ls.length c) ∧ τ 11 = some (.int .i64 ls.length) ∧ τ 12 = some (.int .i64 k) ∧ ∀ j, j < k → rowF j (ls.getD j []) = 0) ?_ ?_
  · exact ⟨rfl, rfl, rfl, rfl, fun j hj => absurd hj (Nat.not_lt_zero _)⟩
  rintro k τ B hk ⟨rfl, q10, q11, q12, hrow⟩
  simp only [↓R1, R2, R3, R4, TY, reduceIte, Nat.reduceEqDiff, Nat.reduceAdd, Nat.reduceMul, Nat.reduceLT, Nat.reduceLeDiff, reduceCtorEq, decide_true, decide_false, Int.reduceLE, Int.reduceLT, Int.reduceToNat, Int.reduceAdd, Int.reduceSub, Int.reduceMul, Int.reduceEq, FE, q10, q11, q12]
  refine ⟨fun hlt => ?_, fun hlt => ?_⟩
  rotate_left
  · have e : k = ls.length := by omega
    subst e
    exact Ended.back hA (Xt.refl _) (congrArg _ (befF_zero (by omega) hrow).symm) (RB.int _ _)
  obtain ⟨a, rfl, -⟩ := hs.at (G := G) (i := k) (by simpa [hl] using hlt)
  have hab := hs.lt hA
  have u0 := row_get (G := G) hs (i := k) (by omega)
  have hsr := hr k (by omega) hlt
  have k12 := q12
  obtain ⟨o1, c1, e1⟩ := hsr.len
  rw [e1, List.length_map] at hsr
  rw [e1, List.length_map] at u0
  have hL := hmx k hlt
  rw [getD_row hlt] at hL
  generalize hrw : ls[k] = l at *
  simp only [↓R1, R2, R3, R4, TY, reduceIte, Nat.reduceEqDiff, Nat.reduceAdd, Nat.reduceMul, Nat.reduceLT, Nat.reduceLeDiff, reduceCtorEq, decide_true, decide_false, Int.reduceLE, Int.reduceLT, Int.reduceToNat, Int.reduceAdd, Int.reduceSub, Int.reduceMul, Int.reduceEq, FE, q10, q11, q12, hlt, hab, u0, Nat.mul_one]
  refine range_of 19 l.length (fun i τ C => C = B ∧ τ 3 = some (.int .i64 k) ∧ τ 4 = some (.slice o1 l.length c1) ∧ τ 10 = some (.slice (some a) ls.length c) ∧ τ 11 = some (.int .i64 ls.length) ∧ τ 12 = some (.int .i64 k) ∧
      τ 17 = some (.slice o1 l.length c1) ∧ τ 18 = some (.int .i64 l.length) ∧ τ 19 = some (.int .i64 i) ∧ ∀ j, j < i → cellF k l j = 0) ?_ ?_
  · exact ⟨rfl, rfl, rfl, q10, q11, q12, rfl, rfl, rfl, fun j hj => absurd hj (Nat.not_lt_zero _)⟩
  rintro i τ C hi ⟨rfl, q3, q4, q10, q11, q12, q17, q18, q19, hcell⟩
  simp only [↓R1, R2, R3, R4, TY, reduceIte, Nat.reduceEqDiff, Nat.reduceAdd, Nat.reduceMul, Nat.reduceLT, Nat.reduceLeDiff, reduceCtorEq, decide_true, decide_false, Int.reduceLE, Int.reduceLT, Int.reduceToNat, Int.reduceAdd, Int.reduceSub, Int.reduceMul, Int.reduceEq, FE, q3, q4, q10, q11, q12, q17, q18, q19]
  have hk63 : k < 9223372036854775807 := by omega
  refine ⟨fun hli => ?_, fun hli => ?_⟩
  rotate_left
  · have e : i = l.length := by omega
    subst e
    simp only [↓R1, R2, R3, R4, TY, reduceIte, Nat.reduceEqDiff, Nat.reduceAdd, Nat.reduceMul, Nat.reduceLT, Nat.reduceLeDiff, reduceCtorEq, decide_true, decide_false, Int.reduceLE, Int.reduceLT, Int.reduceToNat, Int.reduceAdd, Int.reduceSub, Int.reduceMul, Int.reduceEq, FE, q3, q4, q10, q11, q12, q17, q18, q19, hk63]
    refine range_on k12 hlt rfl ⟨rfl, q10, q11, rfl, fun j hj => ?_⟩
    rcases Nat.lt_or_ge j k with h1 | h1
    · exact hrow j h1
    · obtain rfl : j = k := by omega
      rw [getD_row hlt, hrw]
      exact rowF_zero hcell
  obtain ⟨a1, rfl, -⟩ := hsr.at (G := G) (i := i) (by simpa using hli)
  have hab1 := hsr.lt hA
  have u1 := int_get (G := G) hsr hli
  have hi63 : i < 9223372036854775807 := by omega
  have k19 := q19
  have hg : l.getD i 0 = l[i] := getD_at hli
  have fin : ∀ e : Int, cellF k l i = e → e ≠ 0 → befF ls = e := fun e h1 h2 => by
    have h3 : rowF k l = e := by rw [rowF_at hli hcell (by rw [h1]; exact h2), h1]
    have h4 : ls.getD k [] = l := by rw [getD_row hlt, hrw]
    rw [befF_at (by omega) hlt hrow (by rw [h4, h3]; exact h2), h4, h3]
  simp only [↓R1, R2, R3, R4, TY, reduceIte, Nat.reduceEqDiff, Nat.reduceAdd, Nat.reduceMul, Nat.reduceLT, Nat.reduceLeDiff, reduceCtorEq, decide_true, decide_false, Int.reduceLE, Int.reduceLT, Int.reduceToNat, Int.reduceAdd, Int.reduceSub, Int.reduceMul, Int.reduceEq, FE, q3, q4, q10, q11, q12, q17, q18, q19, hli, hab1, u1, Nat.mul_one, hi63]
  have w1 : 0 < i → IntKind.i64.wrap ((i : Int) - 1) = ((i - 1 : Nat) : Int) := fun h => by rw [wrapI (by omega)]; omega
  have s0 : (0 ≤ ((i - 1 : Nat) : Int)) = True := eq_true (by omega)
  have s1 : (((i - 1 : Nat) : Int) < (l.length : Int)) = True := eq_true (by omega)
  have s2 : (((i - 1 : Nat) : Int)).toNat = i - 1 := by omega
  have hi1 : i - 1 < l.length := by omega
  have u2 := int_get (G := G) hsr hi1
  have hg1 : l.getD (i - 1) 0 = l[i - 1] := getD_at hi1
  have next : cellF k l i = 0 → ∀ j, j < i + 1 → cellF k l j = 0 := fun h j hj => by
    rcases Nat.lt_or_ge j i with h1 | h1
    · exact hcell j h1
    · obtain rfl : j = i := by omega
      exact h
  refine ⟨fun h1 => ?_, fun h1 => ⟨fun h2 => ?_, fun h2 => ⟨fun h3 => ?_, fun h3 => ?_⟩⟩⟩
  · exact Ended.back hA (Xt.refl _) (congrArg _ (fin 1 (by unfold cellF; rw [if_pos (by rw [hg]; exact .inl h1)]) (by decide)).symm) (RB.int _ _)
  · exact Ended.back hA (Xt.refl _) (congrArg _ (fin 1 (by unfold cellF; rw [if_pos (by rw [hg]; exact .inr h2)]) (by decide)).symm) (RB.int _ _)
  · have w1 := w1 (by omega)
    simp only [↓R1, R2, R3, R4, TY, reduceIte, Nat.reduceEqDiff, Nat.reduceAdd, Nat.reduceMul, Nat.reduceLT, Nat.reduceLeDiff, reduceCtorEq, decide_true, decide_false, Int.reduceLE, Int.reduceLT, Int.reduceToNat, Int.reduceAdd, Int.reduceSub, Int.reduceMul, Int.reduceEq, FE, w1, s0, s1, s2, q3, q4, q10, q11, q12, q17, q18, q19, hli, hab1, u2, Nat.mul_one, hi63]
    refine ⟨fun h4 => ?_, fun h4 => ?_⟩
    · exact Ended.back hA (Xt.refl _) (congrArg _ (fin 9 (by unfold cellF; rw [if_neg (by rw [hg]; omega), if_pos (by rw [hg, hg1]; exact ⟨by omega, h4⟩)]) (by decide)).symm) (RB.int _ _)
    · exact range_on k19 hli rfl ⟨rfl, q3, q4, q10, q11, q12, q17, q18, rfl, next (by unfold cellF; rw [if_neg (by rw [hg]; omega), if_neg (by rw [hg, hg1]; exact fun q => h4 q.2)])⟩
  · exact range_on k19 hli rfl ⟨rfl, q3, q4, q10, q11, q12, q17, q18, rfl, next (by unfold cellF; rw [if_neg (by rw [hg]; omega), if_neg (by omega)])⟩
set_option maxHeartbeats 4000000 in
theorem bfault_ok {v : Value} {ls : List (List Int)} (h : Nst A v ls) (hmx : ∀ k, k < ls.length → (ls.getD k []).length ≤ 9223372036854775807) : Sound Try.prog G 36 [v] fl A (.int .i64 (befF ls)) A := by
  refine Sound.of mixed Try.func36 Try.ntmps36 Try.results36 (by kernel_rfl) rfl (by kernel_rfl) (by kernel_rfl) fun hA => ?_
  obtain ⟨vs, hs, hl, hr⟩ := h
  obtain ⟨o, c, rfl⟩ := hs.len
  rw [List.length_map, hl] at hs ⊢
  simp only [↓R1, R2, R3, R4, TY, reduceIte, Nat.reduceEqDiff, Nat.reduceAdd, Nat.reduceMul, Nat.reduceLT, Nat.reduceLeDiff, reduceCtorEq, decide_true, decide_false, Int.reduceLE, Int.reduceLT, Int.reduceToNat, Int.reduceAdd, Int.reduceSub, Int.reduceMul, Int.reduceEq, FE]
  refine ⟨fun h40 => ?_, fun h40 => ?_⟩
  · exact Ended.back hA (Xt.refl A) (congrArg _ (befF_large (by omega)).symm) (RB.int _ _)
  refine range_of 13 ls.length (fun k τ B => B = A ∧ τ 11 = some (.slice o ls.length c) ∧ τ 12 = some (.int .i64 ls.length) ∧ τ 13 = some (.int .i64 k) ∧ ∀ j, j < k → rowF j (ls.getD j []) = 0) ?_ ?_
  · exact ⟨rfl, rfl, rfl, rfl, fun j hj => absurd hj (Nat.not_lt_zero _)⟩
  rintro k τ B hk ⟨rfl, q10, q11, q12, hrow⟩
  simp only [↓R1, R2, R3, R4, TY, reduceIte, Nat.reduceEqDiff, Nat.reduceAdd, Nat.reduceMul, Nat.reduceLT, Nat.reduceLeDiff, reduceCtorEq, decide_true, decide_false, Int.reduceLE, Int.reduceLT, Int.reduceToNat, Int.reduceAdd, Int.reduceSub, Int.reduceMul, Int.reduceEq, FE, q10, q11, q12]
  refine ⟨fun hlt => ?_, fun hlt => ?_⟩
  rotate_left
  · have e : k = ls.length := by omega
    subst e
    exact Ended.back hA (Xt.refl _) (congrArg _ (befF_zero (by omega) hrow).symm) (RB.int _ _)
  obtain ⟨a, rfl, -⟩ := hs.at (G := G) (i := k) (by simpa [hl] using hlt)
  have hab := hs.lt hA
  have u0 := row_get (G := G) hs (i := k) (by omega)
  have hsr := hr k (by omega) hlt
  have k12 := q12
  obtain ⟨o1, c1, e1⟩ := hsr.len
  rw [e1, List.length_map] at hsr
  rw [e1, List.length_map] at u0
  have hL := hmx k hlt
  rw [getD_row hlt] at hL
  generalize hrw : ls[k] = l at *
  simp only [↓R1, R2, R3, R4, TY, reduceIte, Nat.reduceEqDiff, Nat.reduceAdd, Nat.reduceMul, Nat.reduceLT, Nat.reduceLeDiff, reduceCtorEq, decide_true, decide_false, Int.reduceLE, Int.reduceLT, Int.reduceToNat, Int.reduceAdd, Int.reduceSub, Int.reduceMul, Int.reduceEq, FE, q10, q11, q12, hlt, hab, u0, Nat.mul_one]
  refine range_of 20 l.length (fun i τ C => C = B ∧ τ 3 = some (.int .i64 k) ∧ τ 5 = some (.int .i64 (if i = 0 then -1 else l.getD (i - 1) 0)) ∧ τ 4 = some (.slice o1 l.length c1) ∧ τ 11 = some (.slice (some a) ls.length c) ∧ τ 12 = some (.int .i64 ls.length) ∧ τ 13 = some (.int .i64 k) ∧
      τ 18 = some (.slice o1 l.length c1) ∧ τ 19 = some (.int .i64 l.length) ∧ τ 20 = some (.int .i64 i) ∧ ∀ j, j < i → cellF k l j = 0) ?_ ?_
  · exact ⟨rfl, rfl, rfl, rfl, q10, q11, q12, rfl, rfl, rfl, fun j hj => absurd hj (Nat.not_lt_zero _)⟩
  rintro i τ C hi ⟨rfl, q3, q5, q4, q10, q11, q12, q17, q18, q19, hcell⟩
  simp only [↓R1, R2, R3, R4, TY, reduceIte, Nat.reduceEqDiff, Nat.reduceAdd, Nat.reduceMul, Nat.reduceLT, Nat.reduceLeDiff, reduceCtorEq, decide_true, decide_false, Int.reduceLE, Int.reduceLT, Int.reduceToNat, Int.reduceAdd, Int.reduceSub, Int.reduceMul, Int.reduceEq, FE, q3, q5, q4, q10, q11, q12, q17, q18, q19]
  have hk63 : k < 9223372036854775807 := by omega
  refine ⟨fun hli => ?_, fun hli => ?_⟩
  rotate_left
  · have e : i = l.length := by omega
    subst e
    simp only [↓R1, R2, R3, R4, TY, reduceIte, Nat.reduceEqDiff, Nat.reduceAdd, Nat.reduceMul, Nat.reduceLT, Nat.reduceLeDiff, reduceCtorEq, decide_true, decide_false, Int.reduceLE, Int.reduceLT, Int.reduceToNat, Int.reduceAdd, Int.reduceSub, Int.reduceMul, Int.reduceEq, FE, q3, q5, q4, q10, q11, q12, q17, q18, q19, hk63]
    refine range_on k12 hlt rfl ⟨rfl, q10, q11, rfl, fun j hj => ?_⟩
    rcases Nat.lt_or_ge j k with h1 | h1
    · exact hrow j h1
    · obtain rfl : j = k := by omega
      rw [getD_row hlt, hrw]
      exact rowF_zero hcell
  obtain ⟨a1, rfl, -⟩ := hsr.at (G := G) (i := i) (by simpa using hli)
  have hab1 := hsr.lt hA
  have u1 := int_get (G := G) hsr hli
  have hi63 : i < 9223372036854775807 := by omega
  have k19 := q19
  have hg : l.getD i 0 = l[i] := getD_at hli
  have fin : ∀ e : Int, cellF k l i = e → e ≠ 0 → befF ls = e := fun e h1 h2 => by
    have h3 : rowF k l = e := by rw [rowF_at hli hcell (by rw [h1]; exact h2), h1]
    have h4 : ls.getD k [] = l := by rw [getD_row hlt, hrw]
    rw [befF_at (by omega) hlt hrow (by rw [h4, h3]; exact h2), h4, h3]
  simp only [↓R1, R2, R3, R4, TY, reduceIte, Nat.reduceEqDiff, Nat.reduceAdd, Nat.reduceMul, Nat.reduceLT, Nat.reduceLeDiff, reduceCtorEq, decide_true, decide_false, Int.reduceLE, Int.reduceLT, Int.reduceToNat, Int.reduceAdd, Int.reduceSub, Int.reduceMul, Int.reduceEq, FE, q3, q5, q4, q10, q11, q12, q17, q18, q19, hli, hab1, u1, Nat.mul_one, hi63]
  have next : cellF k l i = 0 → ∀ j, j < i + 1 → cellF k l j = 0 := fun h j hj => by
    rcases Nat.lt_or_ge j i with h1 | h1
    · exact hcell j h1
    · obtain rfl : j = i := by omega
      exact h
  have h5 : (some (Value.int .i64 l[i]) : Option Value) = some (.int .i64 (if i + 1 = 0 then -1 else l.getD (i + 1 - 1) 0)) := by rw [if_neg (by omega), Nat.add_sub_cancel, hg]
  refine ⟨fun h1 => ?_, fun h1 => ⟨fun h2 => ?_, fun h2 => ⟨fun h3 => ⟨fun h4 => ?_, fun h4 => ?_⟩, fun h3 => ?_⟩⟩⟩
  · exact Ended.back hA (Xt.refl _) (congrArg _ (fin 1 (by unfold cellF; rw [if_pos (by rw [hg]; exact .inl h1)]) (by decide)).symm) (RB.int _ _)
  · exact Ended.back hA (Xt.refl _) (congrArg _ (fin 1 (by unfold cellF; rw [if_pos (by rw [hg]; exact .inr h2)]) (by decide)).symm) (RB.int _ _)
  · rw [if_neg (by omega)] at h4
    exact Ended.back hA (Xt.refl _) (congrArg _ (fin 9 (by unfold cellF; rw [if_neg (by rw [hg]; omega), if_pos (by rw [hg]; exact ⟨by omega, h4⟩)]) (by decide)).symm) (RB.int _ _)
  · rw [if_neg (by omega)] at h4
    exact range_on k19 hli rfl ⟨rfl, q3, h5, q4, q10, q11, q12, q17, q18, rfl, next (by unfold cellF; rw [if_neg (by rw [hg]; omega), if_neg (by rw [hg]; exact fun q => h4 q.2)])⟩
  · exact range_on k19 hli rfl ⟨rfl, q3, h5, q4, q10, q11, q12, q17, q18, rfl, next (by unfold cellF; rw [if_neg (by rw [hg]; omega), if_neg (by omega)])⟩

def badT (ts : List Int) (j : Nat) : Prop := ∃ t ∈ ts.take j, t < 0 ∨ 2000 < t
instance (ts : List Int) (j : Nat) : Decidable (badT ts j) := by unfold badT; infer_instance
theorem timF_bef {ls : List (List Int)} {ts : List Int} (h : befF ls ≠ 0) : timF ls ts = befF ls := by unfold timF; rw [if_pos h]
theorem timF_len {ls : List (List Int)} {ts : List Int} (h : befF ls = 0) (hl : ts.length ≠ ls.length) : timF ls ts = 3 := by unfold timF; rw [if_neg (by simpa using h), if_pos hl]
theorem timF_bad {ls : List (List Int)} {ts : List Int} (h : befF ls = 0) (hl : ts.length = ls.length) {t : Int} (ht : t ∈ ts) (hb : t < 0 ∨ 2000 < t) : timF ls ts = 1 := by
  unfold timF; rw [if_neg (by simpa using h), if_neg (by simpa using hl), if_pos ⟨t, ht, hb⟩]
theorem timF_ok {ls : List (List Int)} {ts : List Int} (h : befF ls = 0) (hl : ts.length = ls.length) (ht : ∀ t ∈ ts, ¬ (t < 0 ∨ 2000 < t)) : timF ls ts = 0 := by
  unfold timF; rw [if_neg (by simpa using h), if_neg (by simpa using hl), if_neg (by rintro ⟨t, h1, h2⟩; exact ht t h1 h2)]

set_option maxHeartbeats 4000000 in
theorem long_ok {v u : Value} {ls : List (List Int)} {ts : List Int} (h : Nst A v ls) (hmx : ∀ k, k < ls.length → (ls.getD k []).length ≤ 9223372036854775807) (ht : Sl A 1 u (ts.map iC)) (hln : ts.length ≤ 9223372036854775807) :
    Sound Try.prog G 46 [v, u] fl A (.int .i64 (timF ls ts)) A := by
  refine Sound.of mixed Try.func46 Try.ntmps46 Try.results46 (by kernel_rfl) rfl (by kernel_rfl) (by kernel_rfl) fun hA => ?_
  have hv : ∃ o c, v = .slice o ls.length c := by
    obtain ⟨vs, hs, hl, -⟩ := h
    obtain ⟨o, c, rfl⟩ := hs.len
    exact ⟨o, c, by rw [List.length_map, hl]⟩
  have cc := fun fl => check_ok (G := G) (fl := fl) h hmx
  obtain ⟨o1, c1, rfl⟩ := hv
  obtain ⟨o, c, rfl⟩ := ht.len
  rw [List.length_map] at ht ⊢
  simp only [↓R1, R2, R3, R4, TY, reduceIte, Nat.reduceEqDiff, Nat.reduceAdd, Nat.reduceMul, Nat.reduceLT, Nat.reduceLeDiff, reduceCtorEq, decide_true, decide_false, Int.reduceLE, Int.reduceLT, Int.reduceToNat, Int.reduceAdd, Int.reduceSub, Int.reduceMul, Int.reduceEq, FE]
  refine call_of (cc _) ?_
  simp only [↓R1, R2, R3, R4, TY, reduceIte, Nat.reduceEqDiff, Nat.reduceAdd, Nat.reduceMul, Nat.reduceLT, Nat.reduceLeDiff, reduceCtorEq, decide_true, decide_false, Int.reduceLE, Int.reduceLT, Int.reduceToNat, Int.reduceAdd, Int.reduceSub, Int.reduceMul, Int.reduceEq, FE]
  refine ⟨fun h1 => ?_, fun h1 => ?_⟩
  rotate_left
  · exact Ended.back hA (Xt.refl _) (congrArg _ (timF_bef h1).symm) (RB.int _ _)
  refine ⟨fun h2 => ?_, fun h2 => ?_⟩
  rotate_left
  · exact Ended.back hA (Xt.refl _) (congrArg _ (timF_len (by simpa using h1) (by omega)).symm) (RB.int _ _)
  have hlen : ts.length = ls.length := by omega
  have h0 : befF ls = 0 := by simpa using h1
  refine range_of 20 ts.length (fun j τ B => B = A ∧ τ 18 = some (.slice o ts.length c) ∧ τ 19 = some (.int .i64 ts.length) ∧ τ 20 = some (.int .i64 j) ∧ ∀ t ∈ ts.take j, ¬ (t < 0 ∨ 2000 < t)) ?_ ?_
  · exact ⟨rfl, rfl, rfl, rfl, by simp⟩
  rintro j τ B hj ⟨rfl, q18, q19, q20, hok⟩
  simp only [↓R1, R2, R3, R4, TY, reduceIte, Nat.reduceEqDiff, Nat.reduceAdd, Nat.reduceMul, Nat.reduceLT, Nat.reduceLeDiff, reduceCtorEq, decide_true, decide_false, Int.reduceLE, Int.reduceLT, Int.reduceToNat, Int.reduceAdd, Int.reduceSub, Int.reduceMul, Int.reduceEq, FE, q18, q19, q20]
  refine ⟨fun hlt => ?_, fun hlt => ?_⟩
  rotate_left
  · rw [List.take_of_length_le (by omega)] at hok
    exact Ended.back hA (Xt.refl _) (congrArg _ (timF_ok h0 hlen hok).symm) (RB.int _ _)
  obtain ⟨a, rfl, -⟩ := ht.at (G := G) (i := j) (by simpa using hlt)
  have hab := ht.lt hA
  have u0 := int_get (G := G) ht hlt
  have hj63 : j < 9223372036854775807 := by omega
  have k20 := q20
  simp only [↓R1, R2, R3, R4, TY, reduceIte, Nat.reduceEqDiff, Nat.reduceAdd, Nat.reduceMul, Nat.reduceLT, Nat.reduceLeDiff, reduceCtorEq, decide_true, decide_false, Int.reduceLE, Int.reduceLT, Int.reduceToNat, Int.reduceAdd, Int.reduceSub, Int.reduceMul, Int.reduceEq, FE, q18, q19, q20, hlt, hab, u0, Nat.mul_one, hj63]
  have nx : ¬ (ts[j] < 0 ∨ 2000 < ts[j]) → ∀ t ∈ ts.take (j + 1), ¬ (t < 0 ∨ 2000 < t) := fun h t ht => by
    rw [List.take_succ_eq_append_getElem hlt, List.mem_append] at ht
    rcases ht with ht | ht
    · exact hok t ht
    · rw [List.mem_singleton] at ht; subst ht; exact h
  refine ⟨fun h3 => ?_, fun h3 => ⟨fun h4 => ?_, fun h4 => ?_⟩⟩
  · exact Ended.back hA (Xt.refl _) (congrArg _ (timF_bad h0 hlen (List.getElem_mem hlt) (.inl h3)).symm) (RB.int _ _)
  · exact Ended.back hA (Xt.refl _) (congrArg _ (timF_bad h0 hlen (List.getElem_mem hlt) (.inr h4)).symm) (RB.int _ _)
  · exact range_on k20 hlt rfl ⟨rfl, q18, q19, rfl, nx (by omega)⟩

set_option maxHeartbeats 4000000 in
theorem timesFault_ok {v u : Value} {ls : List (List Int)} {ts : List Int} (h : Nst A v ls) (hmx : ∀ k, k < ls.length → (ls.getD k []).length ≤ 9223372036854775807) (ht : Sl A 1 u (ts.map iC)) (hln : ts.length ≤ 9223372036854775807) :
    Sound Try.prog G 29 [v, u] fl A (.int .i64 (timF ls ts)) A := by
  refine Sound.of mixed Try.func29 Try.ntmps29 Try.results29 (by kernel_rfl) rfl (by kernel_rfl) (by kernel_rfl) fun hA => ?_
  have hv : ∃ o c, v = .slice o ls.length c := by
    obtain ⟨vs, hs, hl, -⟩ := h
    obtain ⟨o, c, rfl⟩ := hs.len
    exact ⟨o, c, by rw [List.length_map, hl]⟩
  have cc := fun fl => bfault_ok (G := G) (fl := fl) h hmx
  obtain ⟨o1, c1, rfl⟩ := hv
  obtain ⟨o, c, rfl⟩ := ht.len
  rw [List.length_map] at ht ⊢
  simp only [↓R1x, R2, R3, R4, TY, reduceIte, Nat.reduceEqDiff, Nat.reduceAdd, Nat.reduceMul, Nat.reduceLT, Nat.reduceLeDiff, reduceCtorEq, decide_true, decide_false, Int.reduceLE, Int.reduceLT, Int.reduceToNat, Int.reduceAdd, Int.reduceSub, Int.reduceMul, Int.reduceEq, FE]
  simp only [k_then]
  simp only [↓R1x, R2, R3, R4, TY, reduceIte, Nat.reduceEqDiff, Nat.reduceAdd, Nat.reduceMul, Nat.reduceLT, Nat.reduceLeDiff, reduceCtorEq, decide_true, decide_false, Int.reduceLE, Int.reduceLT, Int.reduceToNat, Int.reduceAdd, Int.reduceSub, Int.reduceMul, Int.reduceEq, FE]
  refine call_of (cc _) ?_
  simp only [↓R1x, R2, R3, R4, TY, reduceIte, Nat.reduceEqDiff, Nat.reduceAdd, Nat.reduceMul, Nat.reduceLT, Nat.reduceLeDiff, reduceCtorEq, decide_true, decide_false, Int.reduceLE, Int.reduceLT, Int.reduceToNat, Int.reduceAdd, Int.reduceSub, Int.reduceMul, Int.reduceEq, FE]
  simp only [k_then]
  simp only [↓R1x, R2, R3, R4, TY, reduceIte, Nat.reduceEqDiff, Nat.reduceAdd, Nat.reduceMul, Nat.reduceLT, Nat.reduceLeDiff, reduceCtorEq, decide_true, decide_false, Int.reduceLE, Int.reduceLT, Int.reduceToNat, Int.reduceAdd, Int.reduceSub, Int.reduceMul, Int.reduceEq, FE]
  apply merge (fun τ B => B = A ∧ τ 1 = some (.slice o ts.length c) ∧ τ 5 = some (.int .i64 (if befF ls = 0 then if ts.length = ls.length then 0 else 3 else befF ls)))
  · intro tail
    refine ⟨fun h1 => ?_, fun h1 => ?_⟩
    · skip
      simp only [k_then]
      simp only [↓R1x, R2, R3, R4, TY, reduceIte, Nat.reduceEqDiff, Nat.reduceAdd, Nat.reduceMul, Nat.reduceLT, Nat.reduceLeDiff, reduceCtorEq, decide_true, decide_false, Int.reduceLE, Int.reduceLT, Int.reduceToNat, Int.reduceAdd, Int.reduceSub, Int.reduceMul, Int.reduceEq, FE]
      refine ⟨fun h2 => ?_, fun h2 => ?_⟩
      · exact tail _ _ ⟨rfl, rfl, congrArg some (congrArg (Value.int .i64) (by rw [if_pos h1, if_pos (by omega)]; exact h1))⟩
      · exact tail _ _ ⟨rfl, rfl, congrArg some (congrArg (Value.int .i64) (by rw [if_pos h1, if_neg (by omega)]))⟩
    · skip
      simp only [k_then]
      simp only [↓R1x, R2, R3, R4, TY, reduceIte, Nat.reduceEqDiff, Nat.reduceAdd, Nat.reduceMul, Nat.reduceLT, Nat.reduceLeDiff, reduceCtorEq, decide_true, decide_false, Int.reduceLE, Int.reduceLT, Int.reduceToNat, Int.reduceAdd, Int.reduceSub, Int.reduceMul, Int.reduceEq, FE]
      exact tail _ _ ⟨rfl, rfl, congrArg some (congrArg (Value.int .i64) (by rw [if_neg h1]))⟩
  rintro τ B ⟨rfl, q1, q5⟩
  generalize he : (if befF ls = 0 then if ts.length = ls.length then 0 else 3 else befF ls) = e at q5
  simp only [↓R1, R2, R3, R4, TY, reduceIte, Nat.reduceEqDiff, Nat.reduceAdd, Nat.reduceMul, Nat.reduceLT, Nat.reduceLeDiff, reduceCtorEq, decide_true, decide_false, Int.reduceLE, Int.reduceLT, Int.reduceToNat, Int.reduceAdd, Int.reduceSub, Int.reduceMul, Int.reduceEq, FE, q1, q5]
  refine range_of 21 ts.length (fun j τ C => C = B ∧ τ 19 = some (.slice o ts.length c) ∧ τ 20 = some (.int .i64 ts.length) ∧ τ 21 = some (.int .i64 j) ∧ τ 5 = some (.int .i64 (if e = 0 ∧ badT ts j then 1 else e))) ?_ ?_
  · exact ⟨rfl, rfl, rfl, rfl, by rw [if_neg (by simp [badT])]; exact q5⟩
  rintro j τ C hj ⟨rfl, q19, q20, q21, q5⟩
  simp only [↓R1, R2, R3, R4, TY, reduceIte, Nat.reduceEqDiff, Nat.reduceAdd, Nat.reduceMul, Nat.reduceLT, Nat.reduceLeDiff, reduceCtorEq, decide_true, decide_false, Int.reduceLE, Int.reduceLT, Int.reduceToNat, Int.reduceAdd, Int.reduceSub, Int.reduceMul, Int.reduceEq, FE, q19, q20, q21, q5]
  refine ⟨fun hlt => ?_, fun hlt => ?_⟩
  rotate_left
  · refine Ended.back hA (Xt.refl _) (congrArg _ ?_) (RB.int _ _)
    have hbt : badT ts j ↔ ∃ t ∈ ts, t < 0 ∨ 2000 < t := by unfold badT; rw [List.take_of_length_le (by omega)]
    rw [← he]
    simp only [hbt]
    by_cases h0 : befF ls = 0
    · by_cases hl : ts.length = ls.length
      · by_cases hb : ∃ t ∈ ts, t < 0 ∨ 2000 < t
        · obtain ⟨t, h1, h2⟩ := hb
          rw [timF_bad h0 hl h1 h2, if_pos]
          exact ⟨by simp [h0, hl], t, h1, h2⟩
        · rw [timF_ok h0 hl (fun t h1 h2 => hb ⟨t, h1, h2⟩), if_neg (fun q => hb q.2), if_pos h0, if_pos hl]
      · rw [timF_len h0 hl, if_neg (by simp [h0, hl]), if_pos h0, if_neg hl]
    · rw [timF_bef h0, if_neg (by simp [h0]), if_neg h0]
  obtain ⟨a, rfl, -⟩ := ht.at (G := G) (i := j) (by simpa using hlt)
  have hab := ht.lt hA
  have u0 := int_get (G := G) ht hlt
  have hj63 : j < 9223372036854775807 := by omega
  have k21 := q21
  have bn : badT ts (j + 1) ↔ badT ts j ∨ (ts[j] < 0 ∨ 2000 < ts[j]) := by
    unfold badT
    rw [List.take_succ_eq_append_getElem hlt]
    simp only [List.mem_append, List.mem_singleton]
    constructor
    · rintro ⟨t, h | rfl, hb⟩
      · exact .inl ⟨t, h, hb⟩
      · exact .inr hb
    · rintro (⟨t, h, hb⟩ | hb)
      · exact ⟨t, .inl h, hb⟩
      · exact ⟨_, .inr rfl, hb⟩
  have zero : (if e = 0 ∧ badT ts j then (1 : Int) else e) = 0 → e = 0 ∧ ¬ badT ts j := fun h => by
    by_cases q : e = 0 ∧ badT ts j
    · rw [if_pos q] at h; cases h
    · rw [if_neg q] at h; exact ⟨h, fun r => q ⟨h, r⟩⟩
  have n1 : (if e = 0 ∧ badT ts j then (1 : Int) else e) = 0 → (ts[j] < 0 ∨ 2000 < ts[j]) → (1 : Int) = if e = 0 ∧ badT ts (j + 1) then 1 else e := fun h b => by
    rw [if_pos ⟨(zero h).1, bn.2 (.inr b)⟩]
  have n2 : ((if e = 0 ∧ badT ts j then (1 : Int) else e) ≠ 0 ∨ ¬ (ts[j] < 0 ∨ 2000 < ts[j])) → (if e = 0 ∧ badT ts j then (1 : Int) else e) = if e = 0 ∧ badT ts (j + 1) then 1 else e := fun h => by
    by_cases q : badT ts j
    · have := bn.2 (.inl q)
      by_cases h0 : e = 0
      · rw [if_pos ⟨h0, q⟩, if_pos ⟨h0, this⟩]
      · rw [if_neg (fun r => h0 r.1), if_neg (fun r => h0 r.1)]
    · rw [if_neg (fun r => q r.2)] at h ⊢
      by_cases h0 : e = 0
      · rw [if_neg]
        intro r
        rcases bn.1 r.2 with r | r
        · exact q r
        · exact h.elim (fun k => k h0) (fun k => k r)
      · rw [if_neg (fun r => h0 r.1)]
  generalize (if e = 0 ∧ badT ts j then (1 : Int) else e) = cur at q5 zero n1 n2
  simp only [↓R1, R2, R3, R4, TY, reduceIte, Nat.reduceEqDiff, Nat.reduceAdd, Nat.reduceMul, Nat.reduceLT, Nat.reduceLeDiff, reduceCtorEq, decide_true, decide_false, Int.reduceLE, Int.reduceLT, Int.reduceToNat, Int.reduceAdd, Int.reduceSub, Int.reduceMul, Int.reduceEq, FE, q19, q20, q21, q5, hlt, hab, u0, Nat.mul_one, hj63]
  refine ⟨fun z => ⟨fun h1 => ?_, fun h1 => ⟨fun h2 => ?_, fun h2 => ?_⟩⟩, fun z => ?_⟩
  · exact range_on k21 hlt rfl ⟨rfl, q19, q20, rfl, congrArg some (congrArg (Value.int .i64) (n1 z (.inl h1)))⟩
  · exact range_on k21 hlt rfl ⟨rfl, q19, q20, rfl, congrArg some (congrArg (Value.int .i64) (n1 z (.inr h2)))⟩
  · exact range_on k21 hlt rfl ⟨rfl, q19, q20, rfl, q5.trans (congrArg some (congrArg (Value.int .i64) (n2 (.inr (by omega)))))⟩
  · exact range_on k21 hlt rfl ⟨rfl, q19, q20, rfl, q5.trans (congrArg some (congrArg (Value.int .i64) (n2 (.inl z))))⟩
end
end Go.Proofs.Ytjohiapgancocaa.Ab
