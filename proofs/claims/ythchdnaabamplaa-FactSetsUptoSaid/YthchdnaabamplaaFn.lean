/- Facts: IsSet, Within, Join, Apply. -/
import Derived.Test.YthchdnaabamplaaFm
namespace Go.Proofs.Ythchdnaabamplaa.Ab
open Go.RowKit Go.Sort
set_option linter.unusedVariables false
set_option linter.unusedSimpArgs false
set_option maxRecDepth 100000

/-- Where the first element is that a test takes, or -1. -/
def ixP {α : Type} (p : α → Bool) (l : List α) : Int := match l.findIdx? p with | some i => ((i : Nat) : Int) | none => -1
theorem ixP_found {α : Type} {p : α → Bool} {l : List α} {j : Nat} (hj : j < l.length) (h : p l[j] = true) (hn : ∀ x ∈ l.take j, p x = false) : ixP p l = j := by
  have : l.findIdx? p = some j := List.findIdx?_eq_some_iff_getElem.2 ⟨hj, h, fun i hi => by simpa using hn _ (List.mem_take_iff_getElem.2 ⟨i, by omega, rfl⟩)⟩
  simp [ixP, this]
theorem ixP_none {α : Type} {p : α → Bool} {l : List α} (hn : ∀ x ∈ l, p x = false) : ixP p l = -1 := by
  have : l.findIdx? p = none := List.findIdx?_eq_none_iff.2 hn
  simp [ixP, this]
theorem ixP_ge {α : Type} {p : α → Bool} {l : List α} : 0 ≤ ixP p l ↔ ∃ x ∈ l, p x = true := by
  unfold ixP
  cases h : l.findIdx? p with
  | none =>
    have := List.findIdx?_eq_none_iff.1 h
    simp only [show ¬ ((0 : Int) ≤ -1) by omega, false_iff]
    rintro ⟨x, hx, hp⟩
    rw [this x hx] at hp; cases hp
  | some i =>
    obtain ⟨h1, h2, -⟩ := List.findIdx?_eq_some_iff_getElem.1 h
    exact ⟨fun _ => ⟨_, List.getElem_mem h1, h2⟩, fun _ => by simp⟩

section
variable {G : Gl} {fl : Nat} {A : Hp}

set_option maxHeartbeats 4000000 in
theorem findexFunc_ok {v w : Value} {f : FuncId} {l : List Fa} {p : Fa → Bool} (hs : Sl A 3 v (l.map fC)) (hl : l.length < 9223372036854775807)
    (hp : ∀ (x : Fa) (fl : Nat) (B : Hp), Xt A.next A B → Sound Try.prog G f [fV x, w] fl B (.bool (p x)) B) :
    Sound Try.prog G 38 [v, .func (.func f) #[] #[w]] fl A (.int .i64 (ixP p l)) A := by
  refine Sound.of mixed Try.func38 Try.ntmps38 Try.results38 (by kernel_rfl) rfl (by kernel_rfl) (by kernel_rfl) fun hA => ?_
  obtain ⟨o, c, rfl⟩ := hs.len
  rw [List.length_map] at hs ⊢
  simp only [↓R1, R2, R3, R4, TY, reduceIte, Nat.reduceEqDiff, Nat.reduceAdd, Nat.reduceMul, Nat.reduceLT, Nat.reduceLeDiff, reduceCtorEq, decide_true, decide_false, Int.reduceLE, Int.reduceLT, Int.reduceToNat, Int.reduceAdd, Int.reduceSub, Int.reduceMul, Int.reduceEq, FE]
  refine range_of 8 l.length (fun j τ B => B = A ∧ τ 0 = some (.slice o l.length c) ∧ τ 1 = some (.func (.func f) #[] #[w]) ∧ τ 7 = some (.int .i64 l.length) ∧ τ 8 = some (.int .i64 j) ∧ ∀ x ∈ l.take j, p x = false) ?_ ?_
  · exact ⟨rfl, rfl, rfl, rfl, rfl, by simp⟩
  rintro j τ B hj ⟨rfl, q0, q1, q7, q8, hno⟩
  simp only [↓R1, R2, R3, R4, TY, reduceIte, Nat.reduceEqDiff, Nat.reduceAdd, Nat.reduceMul, Nat.reduceLT, Nat.reduceLeDiff, reduceCtorEq, decide_true, decide_false, Int.reduceLE, Int.reduceLT, Int.reduceToNat, Int.reduceAdd, Int.reduceSub, Int.reduceMul, Int.reduceEq, FE, q0, q1, q7, q8]
  refine ⟨fun hlt => ?_, fun hlt => ?_⟩
  rotate_left
  · exact Ended.back hA (Xt.refl _) (congrArg _ (ixP_none (by rwa [List.take_of_length_le (by omega)] at hno)).symm) (RB.int _ _)
  obtain ⟨a, rfl, -⟩ := hs.at (G := G) (i := j) (by simpa using hlt)
  have hab := hs.lt hA
  obtain ⟨u0, u1, u2⟩ := fa3_get (G := G) hs hlt
  have hj63 : j < 9223372036854775807 := by omega
  have hpj := fun fl => hp l[j] fl B (Xt.refl _)
  simp only [fV] at hpj
  simp only [↓R1, R2, R3, R4, TY, reduceIte, Nat.reduceEqDiff, Nat.reduceAdd, Nat.reduceMul, Nat.reduceLT, Nat.reduceLeDiff, reduceCtorEq, decide_true, decide_false, Int.reduceLE, Int.reduceLT, Int.reduceToNat, Int.reduceAdd, Int.reduceSub, Int.reduceMul, Int.reduceEq, FE, q0, q1, q7, q8, hlt, hab, hj63, u0, u1, u2]
  refine call_of (hpj _) ?_
  simp only [↓R1, R2, R3, R4, TY, reduceIte, Nat.reduceEqDiff, Nat.reduceAdd, Nat.reduceMul, Nat.reduceLT, Nat.reduceLeDiff, reduceCtorEq, decide_true, decide_false, Int.reduceLE, Int.reduceLT, Int.reduceToNat, Int.reduceAdd, Int.reduceSub, Int.reduceMul, Int.reduceEq, FE, q0, q1, q7, q8, hlt, hab, hj63, u0, u1, u2]
  simp only [brI_any]
  refine ⟨fun hc => ?_, fun hc => ?_⟩
  · simp only [↓R1, R2, R3, R4, TY, reduceIte, Nat.reduceEqDiff, Nat.reduceAdd, Nat.reduceMul, Nat.reduceLT, Nat.reduceLeDiff, reduceCtorEq, decide_true, decide_false, Int.reduceLE, Int.reduceLT, Int.reduceToNat, Int.reduceAdd, Int.reduceSub, Int.reduceMul, Int.reduceEq, FE, q0, q1, q7, q8]
    exact Ended.back hA (Xt.refl _) (congrArg _ (ixP_found hlt hc hno).symm) (RB.int _ _)
  · simp only [↓R1, R2, R3, R4, TY, reduceIte, Nat.reduceEqDiff, Nat.reduceAdd, Nat.reduceMul, Nat.reduceLT, Nat.reduceLeDiff, reduceCtorEq, decide_true, decide_false, Int.reduceLE, Int.reduceLT, Int.reduceToNat, Int.reduceAdd, Int.reduceSub, Int.reduceMul, Int.reduceEq, FE, q0, q1, q7, q8, hj63]
    refine range_on q8 hlt rfl ⟨rfl, q0, q1, q7, rfl, fun x hx => ?_⟩
    rw [List.take_succ_eq_append_getElem hlt, List.mem_append] at hx
    rcases hx with hx | hx
    · exact hno x hx
    · rw [List.mem_singleton] at hx; subst hx; exact hc

theorem fcontainsFunc_ok {v w : Value} {f : FuncId} {l : List Fa} {p : Fa → Bool} (hs : Sl A 3 v (l.map fC)) (hl : l.length < 9223372036854775807)
    (hp : ∀ (x : Fa) (fl : Nat) (B : Hp), Xt A.next A B → Sound Try.prog G f [fV x, w] fl B (.bool (p x)) B) :
    Sound Try.prog G 32 [v, .func (.func f) #[] #[w]] fl A (.bool (decide (∃ x ∈ l, p x = true))) A := by
  refine Sound.of mixed Try.func32 Try.ntmps32 Try.results32 (by kernel_rfl) rfl (by kernel_rfl) (by kernel_rfl) fun hA => ?_
  have ci := fun fl => findexFunc_ok (G := G) (fl := fl) hs hl hp
  simp only [↓R1, R2, R3, R4, TY, reduceIte, Nat.reduceEqDiff, Nat.reduceAdd, Nat.reduceMul, Nat.reduceLT, Nat.reduceLeDiff, reduceCtorEq, decide_true, decide_false, Int.reduceLE, Int.reduceLT, Int.reduceToNat, Int.reduceAdd, Int.reduceSub, Int.reduceMul, Int.reduceEq, FE]
  refine call_of (ci _) ?_
  simp only [↓R1, R2, R3, R4, TY, reduceIte, Nat.reduceEqDiff, Nat.reduceAdd, Nat.reduceMul, Nat.reduceLT, Nat.reduceLeDiff, reduceCtorEq, decide_true, decide_false, Int.reduceLE, Int.reduceLT, Int.reduceToNat, Int.reduceAdd, Int.reduceSub, Int.reduceMul, Int.reduceEq, FE]
  exact Ended.back hA (Xt.refl A) (congrArg _ (dec_i ixP_ge)) (RB.bool _)

theorem within1_ok {u : Value} {b : List Fa} {id : Nat} {x : Fa} (hr : A.blk id = some (.row [u] 0 1)) (hid : id < A.next) (hb : Sl A 3 u (b.map fC)) (lb : b.length < 9223372036854775807) :
    Sound Try.prog G 33 [fV x, .pointer (some ⟨id, 0, some 0⟩)] fl A (.bool (!decide (x ∈ b))) A := by
  refine Sound.of mixed Try.func33 Try.ntmps33 Try.results33 (by kernel_rfl) rfl (by kernel_rfl) (by kernel_rfl) fun hA => ?_
  have hx := (Xt.refl A).push (.row [Value.int .i64 x.1, .int .i64 x.2.1, .int .i64 x.2.2] 0 3)
  have ci := fun fl => has_ok (G := G) (fl := fl) (hb.xt hA hx) lb x
  have g0 : ∀ j, A.get G ⟨id, j, some 0⟩ = ([u] : List Value)[j]? := fun j => by simp only [Hp.get, hr, if_true]
  have ne : (id = A.next) = False := eq_false (by omega)
  simp only [fV] at ci ⊢
  simp only [↓R1, R2, R3, R4, TY, reduceIte, Nat.reduceEqDiff, Nat.reduceAdd, Nat.reduceMul, Nat.reduceLT, Nat.reduceLeDiff, reduceCtorEq, decide_true, decide_false, Int.reduceLE, Int.reduceLT, Int.reduceToNat, Int.reduceAdd, Int.reduceSub, Int.reduceMul, Int.reduceEq, FE, g0, ne, hid]
  refine call_of (ci _) ?_
  simp only [↓R1, R2, R3, R4, TY, reduceIte, Nat.reduceEqDiff, Nat.reduceAdd, Nat.reduceMul, Nat.reduceLT, Nat.reduceLeDiff, reduceCtorEq, decide_true, decide_false, Int.reduceLE, Int.reduceLT, Int.reduceToNat, Int.reduceAdd, Int.reduceSub, Int.reduceMul, Int.reduceEq, FE, g0, ne, hid]
  exact Ended.back hA hx rfl (RB.bool _)

theorem within_ok {v u : Value} {a b : List Fa} (ha : Sl A 3 v (a.map fC)) (hb : Sl A 3 u (b.map fC)) (la : a.length < 9223372036854775807) (lb : b.length < 9223372036854775807) :
    Sound Try.prog G 23 [v, u] fl A (.bool (decide (∀ x ∈ a, x ∈ b))) A := by
  refine Sound.of mixed Try.func23 Try.ntmps23 Try.results23 (by kernel_rfl) rfl (by kernel_rfl) (by kernel_rfl) fun hA => ?_
  have hx := (Xt.refl A).push (.row [u] 0 1)
  have cells : u.cells.toList = [u] := by
    obtain ⟨o, c, rfl⟩ := hb.len; rfl
  have cf := fun fl => fcontainsFunc_ok (G := G) (fl := fl) (A := A.push (.row [u] 0 1)) (f := 33) (w := .pointer (some ⟨A.next, 0, some 0⟩)) (p := fun x => !decide (x ∈ b)) (ha.xt hA hx) la
    (fun x fl B hB => within1_ok (by rw [hB.blk _ (by simp)]; simp [Hp.push_blk]) (by have := hB.next; simp at this; omega) (hb.xt hA (hx.trans hB)) lb)
  simp only [↓R1, R2, R3, R4, TY, reduceIte, Nat.reduceEqDiff, Nat.reduceAdd, Nat.reduceMul, Nat.reduceLT, Nat.reduceLeDiff, reduceCtorEq, decide_true, decide_false, Int.reduceLE, Int.reduceLT, Int.reduceToNat, Int.reduceAdd, Int.reduceSub, Int.reduceMul, Int.reduceEq, FE, cells]
  refine call_of (cf _) ?_
  simp only [↓R1, R2, R3, R4, TY, reduceIte, Nat.reduceEqDiff, Nat.reduceAdd, Nat.reduceMul, Nat.reduceLT, Nat.reduceLeDiff, reduceCtorEq, decide_true, decide_false, Int.reduceLE, Int.reduceLT, Int.reduceToNat, Int.reduceAdd, Int.reduceSub, Int.reduceMul, Int.reduceEq, FE, cells]
  refine Ended.back hA hx (congrArg _ ?_) (RB.bool _)
  by_cases h : ∀ x ∈ a, x ∈ b
  · rw [decide_eq_true h, decide_eq_false]
    · rfl
    · rintro ⟨x, hx, hp⟩; simp [h x hx] at hp
  · rw [decide_eq_false h, decide_eq_true]
    · rfl
    · exact Classical.byContradiction fun k => h fun x hx => Classical.byContradiction fun q => k ⟨x, hx, by simp [q]⟩

set_option maxHeartbeats 4000000 in
theorem isSet_ok {v : Value} {l : List Fa} (hs : Sl A 3 v (l.map fC)) (hl : l.length ≤ 9223372036854775807) : Sound Try.prog G 17 [v] fl A (.bool (decide (isSet l l.length))) A := by
  refine Sound.of mixed Try.func17 Try.ntmps17 Try.results17 (by kernel_rfl) rfl (by kernel_rfl) (by kernel_rfl) fun hA => ?_
  obtain ⟨o, c, rfl⟩ := hs.len
  rw [List.length_map] at hs ⊢
  simp only [↓R1, R2, R3, R4, TY, reduceIte, Nat.reduceEqDiff, Nat.reduceAdd, Nat.reduceMul, Nat.reduceLT, Nat.reduceLeDiff, reduceCtorEq, decide_true, decide_false, Int.reduceLE, Int.reduceLT, Int.reduceToNat, Int.reduceAdd, Int.reduceSub, Int.reduceMul, Int.reduceEq, FE]
  refine range_of 7 l.length (fun j τ B => Xt A.next A B ∧ τ 0 = some (.slice o l.length c) ∧ τ 5 = some (.slice o l.length c) ∧ τ 6 = some (.int .i64 l.length) ∧ τ 7 = some (.int .i64 j) ∧ isSet l j) ?_ ?_
  · exact ⟨Xt.refl A, rfl, rfl, rfl, rfl, fun i h hi => absurd hi (Nat.not_lt_zero _)⟩
  rintro j τ B hj ⟨hx, q0, q5, q6, q7, hset⟩
  simp only [↓R1, R2, R3, R4, TY, reduceIte, Nat.reduceEqDiff, Nat.reduceAdd, Nat.reduceMul, Nat.reduceLT, Nat.reduceLeDiff, reduceCtorEq, decide_true, decide_false, Int.reduceLE, Int.reduceLT, Int.reduceToNat, Int.reduceAdd, Int.reduceSub, Int.reduceMul, Int.reduceEq, FE, q0, q5, q6, q7]
  refine ⟨fun hlt => ?_, fun hlt => ?_⟩
  rotate_left
  · have e : j = l.length := by omega
    subst e
    exact Ended.back hA hx (congrArg _ (dec_t hset)) (RB.bool _)
  obtain ⟨a, rfl, -⟩ := hs.at (G := G) (i := j) (by simpa using hlt)
  have hsB := hs.xt hA hx
  have hab : a.block < B.next := Nat.lt_of_lt_of_le (hs.lt hA) hx.next
  have hflB : fl ≤ B.next := Nat.le_trans hA.floor hx.next
  obtain ⟨u0, u1, u2⟩ := fa3_get (G := G) hsB hlt
  have hj63 : j < 9223372036854775807 := by omega
  simp only [↓R1, R2, R3, R4, TY, reduceIte, Nat.reduceEqDiff, Nat.reduceAdd, Nat.reduceMul, Nat.reduceLT, Nat.reduceLeDiff, reduceCtorEq, decide_true, decide_false, Int.reduceLE, Int.reduceLT, Int.reduceToNat, Int.reduceAdd, Int.reduceSub, Int.reduceMul, Int.reduceEq, FE, q0, q5, q6, q7, hlt, hab, hj63, u0, u1, u2, hflB]
  generalize hE0 : (B.push (.row [Value.int .i64 0, .int .i64 0, .int .i64 0] 0 3)).put B.next (.row [Value.int .i64 l[j].1, .int .i64 l[j].2.1, .int .i64 l[j].2.2] 0 3) = E0
  have e0n : E0.next = B.next + 1 := by rw [← hE0]; rfl
  have e0b : E0.blk B.next = some (.row [Value.int .i64 l[j].1, .int .i64 l[j].2.1, .int .i64 l[j].2.2] 0 3) := by rw [← hE0]; simp [Hp.put_blk]
  have hx0 : Xt B.next B E0 := by rw [← hE0]; simp only [xt_push, xt_put, xt_refl, Nat.le_refl]
  have g0 : ∀ i, E0.get G ⟨B.next, i, some 0⟩ = ([Value.int .i64 l[j].1, .int .i64 l[j].2.1, .int .i64 l[j].2.2] : List Value)[i]? := fun i => by simp only [Hp.get, e0b, if_true]
  clear hE0
  have hvd := fun fl A => fvalid_ok (G := G) (fl := fl) (A := A) l[j]
  simp only [fV] at hvd
  refine call_of (hvd _ _) ?_
  simp only [↓R1, R2, R3, R4, TY, reduceIte, Nat.reduceEqDiff, Nat.reduceAdd, Nat.reduceMul, Nat.reduceLT, Nat.reduceLeDiff, reduceCtorEq, decide_true, decide_false, Int.reduceLE, Int.reduceLT, Int.reduceToNat, Int.reduceAdd, Int.reduceSub, Int.reduceMul, Int.reduceEq, FE, q0, q5, q6, q7, hj63, g0]
  refine ⟨fun hv => ?_, fun hv => ?_⟩
  rotate_left
  · refine Ended.back hA (hx.trans hx0) (congrArg _ (dec_f fun h => hv (h j hlt (by omega)).1)) (RB.bool _)
  have hnext : (0 < j → flt (l.getD (j - 1) (0, 0, 0)) l[j]) → isSet l (j + 1) := fun h i hi hij => by
    rcases Nat.lt_or_ge i j with h1 | h1
    · exact hset i hi h1
    · obtain rfl : i = j := by omega
      refine ⟨hv, ?_⟩
      rcases Nat.eq_zero_or_pos i with h2 | h2
      · exact .inl h2
      · exact .inr (h h2)
  refine ⟨fun h0 => ?_, fun h0 => ?_⟩
  rotate_left
  · exact range_on q7 hlt rfl ⟨hx.trans hx0, q0, q5, q6, rfl, hnext fun h => absurd h (by omega)⟩
  have hj1 : j - 1 < l.length := by omega
  have hxE := hx.trans hx0
  obtain ⟨v0, v1, v2⟩ := fa3_get (G := G) (hs.xt hA hxE) hj1
  have w1 : IntKind.i64.wrap ((j : Int) - 1) = ((j - 1 : Nat) : Int) := by rw [wrapI (by omega)]; omega
  have s0 : (0 ≤ ((j - 1 : Nat) : Int)) = True := eq_true (by omega)
  have s1 : (((j - 1 : Nat) : Int) < (l.length : Int)) = True := eq_true (by omega)
  have s2 : (((j - 1 : Nat) : Int)).toNat = j - 1 := by omega
  have habE : a.block < E0.next := by omega
  have hg : l.getD (j - 1) (0, 0, 0) = l[j - 1] := by simp [List.getD, hj1]
  have cp := fun fl A => fcompare_ok (G := G) (fl := fl) (A := A) l[j - 1] l[j]
  simp only [fV] at cp
  simp only [↓R1, R2, R3, R4, TY, reduceIte, Nat.reduceEqDiff, Nat.reduceAdd, Nat.reduceMul, Nat.reduceLT, Nat.reduceLeDiff, reduceCtorEq, decide_true, decide_false, Int.reduceLE, Int.reduceLT, Int.reduceToNat, Int.reduceAdd, Int.reduceSub, Int.reduceMul, Int.reduceEq, FE, q0, q5, q6, q7, hj63, g0, w1, s0, s1, s2, habE, v0, v1, v2, hj1]
  refine call_of (cp _ _) ?_
  simp only [↓R1, R2, R3, R4, TY, reduceIte, Nat.reduceEqDiff, Nat.reduceAdd, Nat.reduceMul, Nat.reduceLT, Nat.reduceLeDiff, reduceCtorEq, decide_true, decide_false, Int.reduceLE, Int.reduceLT, Int.reduceToNat, Int.reduceAdd, Int.reduceSub, Int.reduceMul, Int.reduceEq, FE, q0, q5, q6, q7, hj63, g0, w1, s0, s1, s2, habE, v0, v1, v2, hj1]
  refine ⟨fun hc => ?_, fun hc => ?_⟩
  · refine Ended.back hA hxE (congrArg _ (dec_f fun h => ?_)) (RB.bool _)
    rcases (h j hlt (by omega)).2 with h1 | h1
    · omega
    · rw [hg] at h1; exact fcf_ge.1 hc h1
  · refine range_on q7 hlt rfl ⟨hxE, q0, q5, q6, rfl, hnext fun _ => ?_⟩
    rw [hg]
    exact Classical.byContradiction fun h => hc (fcf_ge.2 h)

set_option maxHeartbeats 4000000 in
theorem join_ok {v u : Value} {a b : List Fa} (ha : Sl A 3 v (a.map fC)) (hb : Sl A 3 u (b.map fC)) (la : a.length ≤ 1500000) (lb : b.length ≤ 1500000) :
    Sound Try.prog G 19 [v, u] fl A (nlV A ((fset (a ++ b)).map fC)) (nlH A 3 ((fset (a ++ b)).map fC)) := by
  refine Sound.of mixed Try.func19 Try.ntmps19 Try.results19 (by kernel_rfl) rfl (by kernel_rfl) (by kernel_rfl) fun hA => ?_
  obtain ⟨o1, c1, rfl⟩ := ha.len
  obtain ⟨o2, c2, rfl⟩ := hb.len
  generalize hv : Value.slice o1 (a.map fC).length c1 = v at *
  generalize hu : Value.slice o2 (b.map fC).length c2 = u at *
  have hx := (Xt.refl A).push (.row [v, u] 0 1)
  have hav : Sl (A.push (.row [v, u] 0 1)) 3 v (a.map fC) := ha.xt hA hx
  have hbv : Sl (A.push (.row [v, u] 0 1)) 3 u (b.map fC) := hb.xt hA hx
  have hfl := List.flatten_cons (l := a) (L := [b])
  have cc := fun fl => concat_ok (G := G) (fl := fl) (A := A.push (.row [v, u] 0 1)) (v := .slice (some ⟨A.next, 0, some 0⟩) 2 2) (vs := [v, u]) (ls := [a, b])
    ⟨fun c hc => by simp at hc; rcases hc with rfl | rfl <;> rfl, .inr (.inr ⟨_, 2, 2, 0, _, rfl, rfl, rfl, by rw [Hp.push_blk, if_pos rfl], fun j x hj => by simpa using hj⟩)⟩ rfl (by simp)
    (fun i h h' => by
      match i, h with
      | 0, _ => exact hav
      | 1, _ => exact hbv) (by simp; omega)
  have e1 : [a, b].flatten = a ++ b := by simp
  rw [e1] at cc
  simp only [lsV_nl, lsH_nl] at cc
  have hs2 := nl_sl (A := A.push (.row [v, u] 0 1)) (sz := 3) (fc_len (a ++ b))
  have of := fun fl => of_ok (G := G) (fl := fl) hs2 (by simp; omega)
  have cv : v.cells = [v].toArray := by rw [← hv]; rfl
  have cu : u.cells = [u].toArray := by rw [← hu]; rfl
  have zs : zl [Value.slice none 0 0] 2 = [Value.slice none 0 0, Value.slice none 0 0] := rfl
  simp only [↓R1, R2, R3, R4, TY, reduceIte, Nat.reduceEqDiff, Nat.reduceAdd, Nat.reduceMul, Nat.reduceLT, Nat.reduceLeDiff, reduceCtorEq, decide_true, decide_false, Int.reduceLE, Int.reduceLT, Int.reduceToNat, Int.reduceAdd, Int.reduceSub, Int.reduceMul, Int.reduceEq, FE, cv, cu, zs]
  refine call_of (cc _) ?_
  simp only [↓R1, R2, R3, R4, TY, reduceIte, Nat.reduceEqDiff, Nat.reduceAdd, Nat.reduceMul, Nat.reduceLT, Nat.reduceLeDiff, reduceCtorEq, decide_true, decide_false, Int.reduceLE, Int.reduceLT, Int.reduceToNat, Int.reduceAdd, Int.reduceSub, Int.reduceMul, Int.reduceEq, FE, cv, cu, zs]
  refine call_of (of _) ?_
  simp only [↓R1, R2, R3, R4, TY, reduceIte, Nat.reduceEqDiff, Nat.reduceAdd, Nat.reduceMul, Nat.reduceLT, Nat.reduceLeDiff, reduceCtorEq, decide_true, decide_false, Int.reduceLE, Int.reduceLT, Int.reduceToNat, Int.reduceAdd, Int.reduceSub, Int.reduceMul, Int.reduceEq, FE, cv, cu, zs]
  exact Ended.nl hA (hx.trans nlH_xt) (fc_rb _)

set_option maxHeartbeats 4000000 in
theorem apply_ok {v u w : Value} {a b c : List Fa} (ha : Sl A 3 v (a.map fC)) (hb : Sl A 3 u (b.map fC)) (hc : Sl A 3 w (c.map fC)) (la : a.length ≤ 1500000) (lb : b.length ≤ 1500000) (lc : c.length ≤ 1500000) :
    Sound Try.prog G 24 [v, u, w] fl A (nlV A ((fset (fset (a.filter fun x => !decide (x ∈ b)) ++ c)).map fC)) (nlH A 3 ((fset (fset (a.filter fun x => !decide (x ∈ b)) ++ c)).map fC)) := by
  refine Sound.of mixed Try.func24 Try.ntmps24 Try.results24 (by kernel_rfl) rfl (by kernel_rfl) (by kernel_rfl) fun hA => ?_
  have mi := fun fl => minus_ok (G := G) (fl := fl) ha hb (by omega) (by omega)
  have hs2 := nl_sl (A := A) (sz := 3) (fc_len (fset (a.filter fun x => !decide (x ∈ b))))
  have hx := nlH_xt (A := A) (sz := 3) (css := (fset (a.filter fun x => !decide (x ∈ b))).map fC)
  have hfl := List.length_filter_le (fun x => !decide (x ∈ b)) a
  have hdl := dd_le (a.filter fun x => !decide (x ∈ b))
  rw [dd_len] at hdl
  have jo := fun fl => join_ok (G := G) (fl := fl) hs2 (hc.xt hA hx) (by omega) lc
  simp only [↓R1, R2, R3, R4, TY, reduceIte, Nat.reduceEqDiff, Nat.reduceAdd, Nat.reduceMul, Nat.reduceLT, Nat.reduceLeDiff, reduceCtorEq, decide_true, decide_false, Int.reduceLE, Int.reduceLT, Int.reduceToNat, Int.reduceAdd, Int.reduceSub, Int.reduceMul, Int.reduceEq, FE]
  refine call_of (mi _) ?_
  simp only [↓R1, R2, R3, R4, TY, reduceIte, Nat.reduceEqDiff, Nat.reduceAdd, Nat.reduceMul, Nat.reduceLT, Nat.reduceLeDiff, reduceCtorEq, decide_true, decide_false, Int.reduceLE, Int.reduceLT, Int.reduceToNat, Int.reduceAdd, Int.reduceSub, Int.reduceMul, Int.reduceEq, FE]
  refine call_of (jo _) ?_
  simp only [↓R1, R2, R3, R4, TY, reduceIte, Nat.reduceEqDiff, Nat.reduceAdd, Nat.reduceMul, Nat.reduceLT, Nat.reduceLeDiff, reduceCtorEq, decide_true, decide_false, Int.reduceLE, Int.reduceLT, Int.reduceToNat, Int.reduceAdd, Int.reduceSub, Int.reduceMul, Int.reduceEq, FE]
  exact Ended.nl hA hx (fc_rb _)
end
end Go.Proofs.Ythchdnaabamplaa.Ab
