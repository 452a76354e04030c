/- Tools: uses, and what the functions for them come to. -/
import Derived.Test.YtjohiapgancocaaAb18
import Derived.Test.YtjohiapgancocaaTy
namespace Go.Proofs.Ytjohiapgancocaa.Ab
open Go.RowKit
set_option linter.unusedVariables false
set_option linter.unusedSimpArgs false
set_option maxRecDepth 100000

structure Us where
  tool : Int
  from_ : Int
  long : Int
deriving DecidableEq

def Us.cells (u : Us) : List Value := [.int .i64 u.tool, .int .i64 u.from_, .int .i64 u.long]
def Us.val (u : Us) : Value := .agg [Value.int .i64 u.tool, .int .i64 u.from_, .int .i64 u.long].toArray
def I64 (x : Int) : Prop := -9223372036854775808 ≤ x ∧ x ≤ 9223372036854775807
def Us.ok (u : Us) : Prop := I64 u.tool ∧ I64 u.from_ ∧ I64 u.long

def Us.valid (u : Us) : Prop := 0 ≤ u.tool ∧ u.tool < 6 ∧ 0 ≤ u.from_ ∧ 1 ≤ u.long ∧ u.long ≤ 2000 ∧ u.from_ ≤ 2000 - u.long
instance (u : Us) : Decidable u.valid := by unfold Us.valid; infer_instance
def Us.clash (a b : Us) : Prop := a.valid ∧ b.valid ∧ a.tool = b.tool ∧ a.from_ < b.from_ + b.long ∧ b.from_ < a.from_ + a.long
instance (a b : Us) : Decidable (a.clash b) := by unfold Us.clash; infer_instance

section
variable {G : Gl} {fl : Nat} {A : Hp}

theorem valid_ok (u : Us) : Sound Try.prog G 13 [u.val] fl A (.bool (decide u.valid)) A := by
  refine Sound.of mixed Try.func13 Try.ntmps13 Try.results13 (by kernel_rfl) rfl (by kernel_rfl) (by kernel_rfl) fun hA => ?_
  obtain ⟨a, b, c⟩ := u
  simp only [Us.val]
  simp only [↓R1, R2, R3, R4, TY, reduceIte, Nat.reduceEqDiff, Nat.reduceAdd, Nat.reduceMul, Nat.reduceLT, Nat.reduceLeDiff, reduceCtorEq, decide_true, decide_false]
  repeat' (first | (refine And.intro ?_ ?_) | intro _)
  all_goals
    refine Ended.back hA ((Xt.refl A).push _) (congrArg _ ?_) (RB.bool _)
    first
      | (refine dec_f ?_; simp only [Us.valid]; omega)
      | (refine dec_i ?_; simp only [Us.valid]; rw [wrapI (by omega)]; omega)

theorem clash_ok (u v : Us) : Sound Try.prog G 14 [u.val, v.val] fl A (.bool (decide (u.clash v))) A := by
  refine Sound.of mixed Try.func14 Try.ntmps14 Try.results14 (by kernel_rfl) rfl (by kernel_rfl) (by kernel_rfl) fun hA => ?_
  simp only [Us.val]
  simp only [↓R1, R2, R3, R4, TY, reduceIte, Nat.reduceEqDiff, Nat.reduceAdd, Nat.reduceMul, Nat.reduceLT, Nat.reduceLeDiff, reduceCtorEq, decide_true, decide_false]
  refine call_of (valid_ok u) ?_
  simp only [Us.val]
  simp only [↓R1, R2, R3, R4, TY, reduceIte, Nat.reduceEqDiff, Nat.reduceAdd, Nat.reduceMul, Nat.reduceLT, Nat.reduceLeDiff, reduceCtorEq, decide_true, decide_false]
  refine ⟨fun hu => ?_, fun hu => ?_⟩
  · refine call_of (valid_ok v) ?_
    simp only [Us.val]
    simp only [↓R1, R2, R3, R4, TY, reduceIte, Nat.reduceEqDiff, Nat.reduceAdd, Nat.reduceMul, Nat.reduceLT, Nat.reduceLeDiff, reduceCtorEq, decide_true, decide_false]
    repeat' (first | (refine And.intro ?_ ?_) | intro _)
    all_goals
      refine Ended.back hA (((Xt.refl A).push _).push _) (congrArg _ ?_) (RB.bool _)
      first
        | (refine dec_f ?_; simp only [Us.clash]; simp only [*, not_false_eq_true, not_true_eq_false, false_and, and_false, true_and]; done)
        | (simp only [Us.valid] at *; refine dec_f ?_; simp only [Us.clash, Us.valid]; (repeat rw [wrapI (by omega)] at *); omega)
        | (simp only [Us.valid] at *; refine dec_i ?_; simp only [Us.clash, Us.valid]; (repeat rw [wrapI (by omega)] at *); omega)
  · exact Ended.back hA (((Xt.refl A).push _).push _) (congrArg _ (dec_f fun h => hu h.1)) (RB.bool _)

/-- What validating uses comes to, with those before. -/
def chkGo : List Us → List Us → Int
  | _, [] => 0
  | seen, u :: rest => if ¬ u.valid then 1 else if ∃ v ∈ seen, u.clash v then 10 else chkGo (seen ++ [u]) rest
def chk (l : List Us) : Int := if 60 < l.length then 2 else chkGo [] l

theorem chkGo_at {l : List Us} {j : Nat} (h : j < l.length) : chkGo (l.take j) (l.drop j) = if ¬ l[j].valid then 1 else if ∃ v ∈ l.take j, l[j].clash v then 10 else chkGo (l.take (j + 1)) (l.drop (j + 1)) := by
  rw [List.drop_eq_getElem_cons h, chkGo, List.take_append_getElem h]

theorem us_get {B : Hp} {a : Addr} {n c : Nat} {l : List Us} (h : Sl B 3 (.slice (some a) n c) (l.map Us.cells)) {i : Nat} (hi : i < l.length) :
    B.get G (aadd a (i * 3)) = some (.int .i64 l[i].tool) ∧ B.get G (aadd a (i * 3 + 1)) = some (.int .i64 l[i].from_) ∧ B.get G (aadd a (i * 3 + 2)) = some (.int .i64 l[i].long) := by
  obtain ⟨a', h1, h2⟩ := h.at (G := G) (i := i) (by simpa using hi)
  cases h1
  simp only [List.getElem_map] at h2
  exact ⟨h2 0 _ rfl, h2 1 _ rfl, h2 2 _ rfl⟩

theorem check_ok {v : Value} {l : List Us} (hs : Sl A 3 v (l.map Us.cells)) : Sound Try.prog G 15 [v] fl A (.int .i64 (chk l)) A := by
  refine Sound.of mixed Try.func15 Try.ntmps15 Try.results15 (by kernel_rfl) rfl (by kernel_rfl) (by kernel_rfl) fun hA => ?_
  obtain ⟨o, c, rfl⟩ := hs.len
  rw [List.length_map] at hs ⊢
  simp only [↓R1, R2, R3, R4, TY, reduceIte, Nat.reduceEqDiff, Nat.reduceAdd, Nat.reduceMul, Nat.reduceLT, Nat.reduceLeDiff, reduceCtorEq, decide_true, decide_false]
  refine ⟨fun h => ?_, fun h => ?_⟩
  · refine Ended.back hA (Xt.refl A) (congrArg _ ?_) (RB.int _ _)
    rw [chk, if_pos (by omega)]
  rw [chk, if_neg (by omega)]
  refine range_of 12 l.length (fun j τ B => Xt A.next A B ∧ τ 0 = some (.slice o l.length c) ∧ τ 10 = some (.slice o l.length c) ∧ τ 11 = some (.int .i64 l.length) ∧ τ 12 = some (.int .i64 j) ∧ chkGo [] l = chkGo (l.take j) (l.drop j)) ?_ ?_
  · exact ⟨Xt.refl A, rfl, rfl, rfl, rfl, rfl⟩
  rintro j τ B hj ⟨hx, h0, h10, h11, h12, hgo⟩
  simp only [↓R1, R2, R3, R4, TY, reduceIte, Nat.reduceEqDiff, Nat.reduceAdd, Nat.reduceMul, Nat.reduceLT, Nat.reduceLeDiff, reduceCtorEq, decide_true, decide_false, h0, h10, h11, h12]
  refine ⟨fun hlt => ?_, fun hlt => ?_⟩
  rotate_left
  · refine Ended.back hA hx (congrArg _ ?_) (RB.int _ _)
    rw [hgo, List.drop_of_length_le (by omega)]; rfl
  obtain ⟨a, rfl, -⟩ := hs.at (G := G) (i := j) (by simpa using hlt)
  have hsB := hs.xt hA hx
  have hab : a.block < B.next := Nat.lt_of_lt_of_le (hs.lt hA) hx.next
  have hez := hsB.esz
  have hfl : fl ≤ B.next := Nat.le_trans hA.floor hx.next
  obtain ⟨g0, g1, g2⟩ := us_get (G := G) hsB hlt
  simp only [↓R1, R2, R3, R4, TY, reduceIte, Nat.reduceEqDiff, Nat.reduceAdd, Nat.reduceMul, Nat.reduceLT, Nat.reduceLeDiff, reduceCtorEq, decide_true, decide_false, h0, h10, h11, h12, hlt, hab, hfl, g0, g1, g2]
  refine call_of (valid_ok l[j]) ?_
  simp only [↓R1, R2, R3, R4, TY, reduceIte, Nat.reduceEqDiff, Nat.reduceAdd, Nat.reduceMul, Nat.reduceLT, Nat.reduceLeDiff, reduceCtorEq, decide_true, decide_false, h0, h10, h11, h12, hlt, hj, hab, hfl, g0, g1, g2, hez]
  refine ⟨fun hv => ?_, fun hv => ?_⟩
  rotate_left
  · refine Ended.back hA ?_ (congrArg _ ?_) (RB.int _ _)
    · simp only [xt_push, xt_put, hx, hx.next]
    · rw [hgo, chkGo_at hlt, if_pos hv]
  generalize hB2 : Hp.put _ _ _ = B2
  have hx2 : Xt A.next A B2 := by rw [← hB2]; simp only [xt_push, xt_put, hx, hx.next]
  have hn2 : B2.next = B.next + 1 := by rw [← hB2]; rfl
  have k0 : B2.get G ⟨B.next, 0, some 0⟩ = some (.int .i64 l[j].tool) ∧ B2.get G ⟨B.next, 1, some 0⟩ = some (.int .i64 l[j].from_) ∧ B2.get G ⟨B.next, 2, some 0⟩ = some (.int .i64 l[j].long) := by
    rw [← hB2]; simp [Hp.get, Hp.put_blk]
  refine range_of 24 j (fun i τ C => Xt B2.next B2 C ∧ τ 0 = some (.slice (some a) l.length c) ∧ τ 10 = some (.slice (some a) l.length c) ∧ τ 11 = some (.int .i64 l.length) ∧ τ 12 = some (.int .i64 j) ∧
    τ 4 = some (.pointer (some ⟨B.next, 0, some 0⟩)) ∧ τ 22 = some (.slice (some (aadd a 0)) j c) ∧ τ 23 = some (.int .i64 j) ∧ τ 24 = some (.int .i64 i) ∧ ∀ v ∈ l.take i, ¬ l[j].clash v) ?_ ?_
  · refine ⟨Xt.refl _, h0, h10, h11, h12, rfl, rfl, rfl, rfl, by simp⟩
  rintro i τ' C hi ⟨hy, q0, q10, q11, q12, q4, q22, q23, q24, hno⟩
  have hxC : Xt A.next A C := hx2.trans hy
  have hsC := hs.xt hA hxC
  have habC : a.block < C.next := Nat.lt_of_lt_of_le (hs.lt hA) hxC.next
  have hflC : fl ≤ C.next := Nat.le_trans hA.floor hxC.next
  have hbC : B.next < C.next := by have := hy.next; omega
  have m0 := (hy.get (G := G) (a := ⟨B.next, 0, some 0⟩) (by simp [hn2])).trans k0.1
  have m1 := (hy.get (G := G) (a := ⟨B.next, 1, some 0⟩) (by simp [hn2])).trans k0.2.1
  have m2 := (hy.get (G := G) (a := ⟨B.next, 2, some 0⟩) (by simp [hn2])).trans k0.2.2
  have hj63 : j < 9223372036854775807 := by omega
  simp only [↓R1, R2, R3, R4, TY, reduceIte, Nat.reduceEqDiff, Nat.reduceAdd, Nat.reduceMul, Nat.reduceLT, Nat.reduceLeDiff, reduceCtorEq, decide_true, decide_false, q0, q10, q11, q12, q4, q22, q23, q24, hj63]
  refine ⟨fun hij => ?_, fun hij => ?_⟩
  rotate_left
  · refine range_on h12 hlt rfl ⟨hxC, q0, q10, q11, rfl, ?_⟩
    have : i = j := by omega
    subst this
    rw [hgo, chkGo_at hlt, if_neg (by simpa using hv), if_neg (by simpa using hno)]
  obtain ⟨g0, g1, g2⟩ := us_get (G := G) hsC (i := i) (by omega)
  have hi63 : i < 9223372036854775807 := by omega
  simp only [↓R1, R2, R3, R4, TY, reduceIte, Nat.reduceEqDiff, Nat.reduceAdd, Nat.reduceMul, Nat.reduceLT, Nat.reduceLeDiff, reduceCtorEq, decide_true, decide_false, q0, q10, q11, q12, q4, q22, q23, q24, hij, hbC, habC, hflC, g0, g1, g2, m0, m1, m2]
  refine call_of (clash_ok l[j] l[i]) ?_
  simp only [↓R1, R2, R3, R4, TY, reduceIte, Nat.reduceEqDiff, Nat.reduceAdd, Nat.reduceMul, Nat.reduceLT, Nat.reduceLeDiff, reduceCtorEq, decide_true, decide_false, q0, q10, q11, q12, q4, q22, q23, q24, hi63]
  refine ⟨fun hc => ?_, fun hc => ?_⟩
  · refine Ended.back hA ?_ (congrArg _ ?_) (RB.int _ _)
    · simp only [xt_push, xt_put, hxC, hxC.next]
    · rw [hgo, chkGo_at hlt, if_neg (by simpa using hv), if_pos ⟨l[i], by rw [List.mem_take_iff_getElem]; exact ⟨i, by omega, rfl⟩, hc⟩]
  · refine range_on q24 hij rfl ⟨?_, q0, q10, q11, q12, q4, q22, q23, rfl, ?_⟩
    · simp only [xt_push, xt_put, hy, hy.next]
    · rw [List.take_succ_eq_append_getElem (by omega)]
      intro v hv
      rcases List.mem_append.1 hv with h | h
      · exact hno v h
      · rw [List.mem_singleton.1 h]; exact hc
end
end Go.Proofs.Ytjohiapgancocaa.Ab
