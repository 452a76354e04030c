/- Clocks: small functions. -/
import Derived.Test.YtiiapkhdjchhjaaLa
namespace Go.Proofs.Ytiiapkhdjchhjaa.Ab
open Go.RowKit
set_option linter.unusedVariables false
set_option linter.unusedSimpArgs false
set_option maxRecDepth 100000

/-- How many ticks the first clock is later. -/
def dif (a b : Int) : Int := IntKind.i64.wrap (IntKind.i32.wrap (IntKind.u32.wrap (a - b)))
def aft (a n : Int) : Int := IntKind.u32.wrap (a + IntKind.u32.wrap n)
theorem dif_small {a b x y : Int} (ha : a = IntKind.u32.wrap x) (hb : b = IntKind.u32.wrap y) (h1 : -1000 ≤ x - y) (h2 : x - y ≤ 1000) : dif a b = x - y := by
  subst ha; subst hb
  simp only [dif, IntKind.wrap_u32, IntKind.wrap_i32, IntKind.wrap_i64]
  omega
theorem aft_eq (a n : Int) : aft a n = IntKind.u32.wrap (a + n) := by
  simp only [aft, IntKind.wrap_u32]
  omega
def below (x n : Int) : Int := if x.tmod n < 0 then x.tmod n + n else x.tmod n
theorem below_range {x n : Int} (h : 0 < n) : 0 ≤ below x n ∧ below x n < n := by
  have b1 := Int.tmod_lt_of_pos x h
  have b2 := Int.lt_tmod_of_pos x h
  unfold below
  split <;> omega
/-- A fault. -/
structure Fa where
  (a b c : Int)
def fC (f : Fa) : List Value := [.int .i64 f.a, .int .i64 f.b, .int .i64 f.c]
/-- How many ticks an arm's clock has lost. -/
def hits (i t : Int) (f : Fa) : Bool := decide (f.b = 5 ∧ f.c = i ∧ 0 ≤ f.a ∧ f.a ≤ t)
def lostN (fs : List Fa) (i t : Int) : Nat := fs.countP (hits i t)
theorem lostN_snoc {fs : List Fa} {f : Fa} {i t : Int} : lostN (fs ++ [f]) i t = lostN fs i t + if hits i t f = true then 1 else 0 := by
  simp [lostN, List.countP_append, List.countP_cons]
section
variable {G : Gl} {fl : Nat} {A : Hp}
theorem below_ok {x n : Int} (h : 0 < n) (hn : n ≤ 1000) : Sound Try.prog G 5 [.int .i64 x, .int .i64 n] fl A (.int .i64 (below x n)) A := by
  refine Sound.of mixed Try.func5 Try.ntmps5 Try.results5 (by kernel_rfl) rfl (by kernel_rfl) (by kernel_rfl) fun hA => ?_
  have hne : (n ≠ 0) = True := eq_true (by omega)
  have hne2 : (n = 0) = False := eq_false (by omega)
  have b1 := Int.tmod_lt_of_pos x h
  have b2 := Int.lt_tmod_of_pos x h
  simp only [↓R1, R2, R3, R4, TY, reduceIte, Nat.reduceEqDiff, Nat.reduceAdd, Nat.reduceMul, Nat.reduceLT, Nat.reduceLeDiff, reduceCtorEq, decide_true, decide_false, Int.reduceLE, Int.reduceLT, Int.reduceToNat, Int.reduceAdd, Int.reduceSub, Int.reduceMul, Int.reduceEq, hne, hne2, ne_eq, not_false_eq_true]
  refine ⟨fun hlt => ?_, fun hlt => ?_⟩
  · have w1 : IntKind.i64.wrap (x.tmod n + n) = x.tmod n + n := wrapI (by omega)
    simp only [↓R1, R2, R3, R4, TY, reduceIte, Nat.reduceEqDiff, Nat.reduceAdd, Nat.reduceMul, Nat.reduceLT, Nat.reduceLeDiff, reduceCtorEq, decide_true, decide_false, Int.reduceLE, Int.reduceLT, Int.reduceToNat, Int.reduceAdd, Int.reduceSub, Int.reduceMul, Int.reduceEq, w1]
    exact Ended.back hA (Xt.refl _) (by rw [below, if_pos hlt]) (RB.int _ _)
  · exact Ended.back hA (Xt.refl _) (by rw [below, if_neg hlt]) (RB.int _ _)
theorem diff_ok (a b : Int) : Sound Try.prog G 9 [.int .u32 a, .int .u32 b] fl A (.int .i64 (dif a b)) A := by
  refine Sound.of mixed Try.func9 Try.ntmps9 Try.results9 (by kernel_rfl) rfl (by kernel_rfl) (by kernel_rfl) fun hA => ?_
  simp only [↓R1, R2, R3, R4, TY, reduceIte, Nat.reduceEqDiff, Nat.reduceAdd, Nat.reduceMul, Nat.reduceLT, Nat.reduceLeDiff, reduceCtorEq, decide_true, decide_false, Int.reduceLE, Int.reduceLT, Int.reduceToNat, Int.reduceAdd, Int.reduceSub, Int.reduceMul, Int.reduceEq, FE]
  exact Ended.back hA (Xt.refl _) rfl (RB.int _ _)
theorem after_ok (a n : Int) : Sound Try.prog G 14 [.int .u32 a, .int .i64 n] fl A (.int .u32 (aft a n)) A := by
  refine Sound.of mixed Try.func14 Try.ntmps14 Try.results14 (by kernel_rfl) rfl (by kernel_rfl) (by kernel_rfl) fun hA => ?_
  simp only [↓R1, R2, R3, R4, TY, reduceIte, Nat.reduceEqDiff, Nat.reduceAdd, Nat.reduceMul, Nat.reduceLT, Nat.reduceLeDiff, reduceCtorEq, decide_true, decide_false, Int.reduceLE, Int.reduceLT, Int.reduceToNat, Int.reduceAdd, Int.reduceSub, Int.reduceMul, Int.reduceEq, FE]
  exact Ended.back hA (Xt.refl _) rfl (RB.int _ _)
theorem before_ok {a b lost : Int} (h0 : 0 ≤ lost) (h1 : lost ≤ 1048576) : Sound Try.prog G 4 [.int .u32 a, .int .u32 b, .int .i64 lost] fl A (.tuple [Value.bool (decide (lost < dif b a)), .int .i64 0].toArray) A := by
  refine Sound.of mixed Try.func4 Try.ntmps4 Try.results4 (by kernel_rfl) rfl (by kernel_rfl) (by kernel_rfl) fun hA => ?_
  have e0 : decide (lost < 0) = false := decide_eq_false (by omega)
  have e1 : decide (1048576 < lost) = false := decide_eq_false (by omega)
  have cd := fun fl => diff_ok (G := G) (fl := fl) (A := A) b a
  simp only [↓R1, R2, R3, R4, TY, reduceIte, Nat.reduceEqDiff, Nat.reduceAdd, Nat.reduceMul, Nat.reduceLT, Nat.reduceLeDiff, reduceCtorEq, decide_true, decide_false, Int.reduceLE, Int.reduceLT, Int.reduceToNat, Int.reduceAdd, Int.reduceSub, Int.reduceMul, Int.reduceEq, FE, e0, e1]
  refine call_of (cd _) ?_
  simp only [↓R1, R2, R3, R4, TY, reduceIte, Nat.reduceEqDiff, Nat.reduceAdd, Nat.reduceMul, Nat.reduceLT, Nat.reduceLeDiff, reduceCtorEq, decide_true, decide_false, Int.reduceLE, Int.reduceLT, Int.reduceToNat, Int.reduceAdd, Int.reduceSub, Int.reduceMul, Int.reduceEq, FE, e0, e1]
  exact Ended.back hA (Xt.refl _) rfl (RB.tuple fun w hw => by
    simp only [List.mem_cons, List.not_mem_nil, or_false] at hw
    rcases hw with rfl | rfl
    · exact RB.bool _
    · exact RB.int _ _)
theorem fa_get {B : Hp} {a : Addr} {n c : Nat} {l : List Fa} (h : Sl B 3 (.slice (some a) n c) (l.map fC)) {i : Nat} (hi : i < l.length) :
    B.get G (aadd a (i * 3)) = some (.int .i64 l[i].a) ∧ B.get G (aadd a (i * 3 + 1)) = some (.int .i64 l[i].b) ∧ B.get G (aadd a (i * 3 + 2)) = some (.int .i64 l[i].c) := by
  obtain ⟨a', h1, h2⟩ := h.at (G := G) (i := i) (by simpa using hi)
  cases h1
  simp only [List.getElem_map] at h2
  exact ⟨h2 0 _ rfl, h2 1 _ rfl, h2 2 _ rfl⟩
theorem show_ok {s i t : Int} {v : Value} {fs : List Fa} (hs : Sl A 3 v (fs.map fC)) (hl : fs.length ≤ 12) (h0 : 0 ≤ t) (h1 : t ≤ 60) : Sound Try.prog G 8 [.int .u32 s, .int .i64 i, .int .i64 t, v] fl A (.int .u32 (aft s (t - (lostN fs i t : Nat)))) A := by
  refine Sound.of mixed Try.func8 Try.ntmps8 Try.results8 (by kernel_rfl) rfl (by kernel_rfl) (by kernel_rfl) fun hA => ?_
  obtain ⟨o, c, rfl⟩ := hs.len
  rw [List.length_map] at hs ⊢
  simp only [↓R1, R2, R3, R4, TY, reduceIte, Nat.reduceEqDiff, Nat.reduceAdd, Nat.reduceMul, Nat.reduceLT, Nat.reduceLeDiff, reduceCtorEq, decide_true, decide_false, Int.reduceLE, Int.reduceLT, Int.reduceToNat, Int.reduceAdd, Int.reduceSub, Int.reduceMul, Int.reduceEq, FE]
  refine range_of 14 fs.length (fun j τ B => Xt A.next A B ∧ τ 0 = some (.int .u32 s) ∧ τ 1 = some (.int .i64 i) ∧ τ 2 = some (.int .i64 t) ∧ τ 9 = some (.int .i64 (lostN (fs.take j) i t : Nat)) ∧ τ 12 = some (.slice o fs.length c) ∧ τ 13 = some (.int .i64 fs.length) ∧ τ 14 = some (.int .i64 (j : Nat))) ?_ ?_
  · exact ⟨Xt.refl _, rfl, rfl, rfl, rfl, rfl, rfl, rfl⟩
  rintro j τ B hj ⟨hx, q0, q1, q2, q9, q12, q13, q14⟩
  simp only [↓R1, R2, R3, R4, TY, reduceIte, Nat.reduceEqDiff, Nat.reduceAdd, Nat.reduceMul, Nat.reduceLT, Nat.reduceLeDiff, reduceCtorEq, decide_true, decide_false, Int.reduceLE, Int.reduceLT, Int.reduceToNat, Int.reduceAdd, Int.reduceSub, Int.reduceMul, Int.reduceEq, FE, q0, q1, q2, q9, q12, q13, q14]
  refine ⟨fun hlt => ?_, fun hlt => ?_⟩
  rotate_left
  · obtain rfl : j = fs.length := by omega
    have hN : lostN fs i t ≤ fs.length := List.countP_le_length
    rw [List.take_length] at q9
    have hm : (if 0 > t then 0 else t) = t := by rw [if_neg (by omega)]
    have w1 : IntKind.i64.wrap (t - (lostN fs i t : Nat)) = t - (lostN fs i t : Nat) := wrapI (by omega)
    have ca := fun fl => after_ok (G := G) (fl := fl) (A := B) s (t - (lostN fs i t : Nat))
    simp only [hm, List.take_length, w1]
    refine call_of (ca _) ?_
    simp only [↓R1, R2, R3, R4, TY, reduceIte, Nat.reduceEqDiff, Nat.reduceAdd, Nat.reduceMul, Nat.reduceLT, Nat.reduceLeDiff, reduceCtorEq, decide_true, decide_false, Int.reduceLE, Int.reduceLT, Int.reduceToNat, Int.reduceAdd, Int.reduceSub, Int.reduceMul, Int.reduceEq, FE]
    exact Ended.back hA hx rfl (RB.int _ _)
  obtain ⟨a, rfl, -⟩ := hs.at (G := G) (i := j) (by simpa using hlt)
  have hab : a.block < B.next := Nat.lt_of_lt_of_le (hs.lt hA) hx.next
  have hfl : fl ≤ B.next := Nat.le_trans hA.floor hx.next
  obtain ⟨u0, u1, u2⟩ := fa_get (G := G) (hs.xt hA hx) hlt
  have hj63 : j < 9223372036854775807 := by omega
  have k14 := q14
  have hz3 : zl [Value.int .i64 0, .int .i64 0, .int .i64 0] 3 = [Value.int .i64 0, .int .i64 0, .int .i64 0] := rfl
  have htk : fs.take (j + 1) = fs.take j ++ [fs[j]] := by rw [List.take_succ_eq_append_getElem hlt]
  have hls : lostN (fs.take (j + 1)) i t = lostN (fs.take j) i t + if hits i t fs[j] = true then 1 else 0 := by rw [htk, lostN_snoc]
  have hle : lostN (fs.take j) i t ≤ j := by
    have : lostN (fs.take j) i t ≤ (fs.take j).length := List.countP_le_length
    simp at this; omega
  generalize fs[j] = f at *
  simp only [↓R1, R2, R3, R4, TY, reduceIte, Nat.reduceEqDiff, Nat.reduceAdd, Nat.reduceMul, Nat.reduceLT, Nat.reduceLeDiff, reduceCtorEq, decide_true, decide_false, Int.reduceLE, Int.reduceLT, Int.reduceToNat, Int.reduceAdd, Int.reduceSub, Int.reduceMul, Int.reduceEq, FE, q0, q1, q2, q9, q12, q13, q14, hlt, hab, hfl, u0, u1, u2, hj63, hz3]
  have miss : ¬ (f.b = 5 ∧ f.c = i ∧ 0 ≤ f.a ∧ f.a ≤ t) → lostN (fs.take (j + 1)) i t = lostN (fs.take j) i t := fun h => by rw [hls, hits, decide_eq_false h]; simp
  have hit : (f.b = 5 ∧ f.c = i ∧ 0 ≤ f.a ∧ f.a ≤ t) → lostN (fs.take (j + 1)) i t = lostN (fs.take j) i t + 1 := fun h => by rw [hls, hits, decide_eq_true h]; simp
  have w1 : IntKind.i64.wrap (((lostN (fs.take j) i t : Nat) : Int) + 1) = ((lostN (fs.take j) i t + 1 : Nat) : Int) := by rw [wrapI (by omega)]; omega
  have hx3 : ∀ r s : Blk, Xt A.next A ((B.push r).put B.next s) := fun r s => (hx.push r).put hx.next s
  refine ⟨fun g1 => ⟨fun g2 => ⟨fun g3 => ⟨fun g4 => ?_, fun g4 => ?_⟩, fun g3 => ?_⟩, fun g2 => ?_⟩, fun g1 => ?_⟩
  · simp only [↓R1, R2, R3, R4, TY, reduceIte, Nat.reduceEqDiff, Nat.reduceAdd, Nat.reduceMul, Nat.reduceLT, Nat.reduceLeDiff, reduceCtorEq, decide_true, decide_false, Int.reduceLE, Int.reduceLT, Int.reduceToNat, Int.reduceAdd, Int.reduceSub, Int.reduceMul, Int.reduceEq, FE, q0, q1, q2, q9, q12, q13, q14, hj63, w1]
    exact range_on k14 hlt rfl ⟨hx3 _ _, q0, q1, q2, by rw [hit ⟨g1, g2, g3, g4⟩]; rfl, q12, q13, rfl⟩
  all_goals
    exact range_on k14 hlt rfl ⟨hx3 _ _, q0, q1, q2, by rw [miss (fun h => by omega)]; exact q9, q12, q13, rfl⟩
end
end Go.Proofs.Ytiiapkhdjchhjaa.Ab
