/- Tools: the law of Valid, Clash, Check, Book and Busy. -/
import Derived.Test.YtjohiapgancocaaTq
namespace Go.Proofs.Ytjohiapgancocaa.Ab
open Go.RowKit
set_option linter.unusedVariables false
set_option linter.unusedSimpArgs false
set_option maxRecDepth 100000

/-- Two uses clash exactly if the list of both has that fault. -/
theorem chk_two {x y : Us} (hx : x.valid) (hy : y.valid) : (chk [x, y] = 10) ↔ x.clash y := by
  have e : chk [x, y] = if y.clash x then 10 else 0 := by
    simp only [chk, List.length_cons, List.length_nil, Nat.reduceAdd, Nat.reduceLT, if_false]
    simp [chkGo, hx, hy]
  rw [e]
  have h : y.clash x ↔ x.clash y := by
    unfold Us.clash
    constructor <;> rintro ⟨a, b, c, d, e⟩ <;> exact ⟨b, a, c.symm, e, d⟩
  split <;> rename_i h1
  · simp only [true_iff]; exact h.1 h1
  · constructor
    · intro h2; exact absurd h2 (by decide)
    · intro h2; exact absurd (h.2 h2) h1

/-- The ticks of a use up to t, within bounds. -/
def want (l : List Us) (tool from_ to : Int) (j : Nat) : Int := if chk l = 0 then ((l.take j).map (busyOf tool from_ to)).sum else 0
def bz (from_ to : Int) (u : Us) (t : Int) : Int := max (min t to - max u.from_ from_) 0

theorem busy_le {u : Us} (h : u.valid) (tool from_ to : Int) : 0 ≤ busyOf tool from_ to u ∧ busyOf tool from_ to u ≤ 2000 := by
  obtain ⟨h1, h2, h3, h4, h5, h6⟩ := h
  unfold busyOf
  split <;> omega
theorem sum_le {l : List Us} (h : ∀ u ∈ l, u.valid) (tool from_ to : Int) : 0 ≤ (l.map (busyOf tool from_ to)).sum ∧ (l.map (busyOf tool from_ to)).sum ≤ 2000 * l.length := by
  induction l with
  | nil => simp
  | cons u l ih =>
    have h1 := busy_le (h u (by simp)) tool from_ to
    have h2 := ih fun x hx => h x (by simp [hx])
    simp only [List.map_cons, List.sum_cons, List.length_cons]
    omega
theorem want_le {l : List Us} (tool from_ to : Int) (j : Nat) : 0 ≤ want l tool from_ to j ∧ want l tool from_ to j ≤ 120000 := by
  unfold want
  split
  · rename_i h
    obtain ⟨h1, h2⟩ := chk_valid h
    have h3 := sum_le (l := l.take j) (fun u hu => h2 u (List.mem_of_mem_take hu)) tool from_ to
    have h4 : (l.take j).length ≤ l.length := by simp; omega
    omega
  · omega
theorem want_step {l : List Us} {tool from_ to : Int} {j : Nat} (hj : j < l.length) : want l tool from_ to (j + 1) = want l tool from_ to j + if chk l = 0 then busyOf tool from_ to l[j] else 0 := by
  unfold want
  split
  · rw [List.take_succ_eq_append_getElem hj, List.map_append, List.sum_append]; simp
  · omega
theorem bz_end {u : Us} {tool from_ to : Int} (h : u.valid) (ht : u.tool = tool) : bz from_ to u (u.from_ + u.long) = busyOf tool from_ to u := by
  obtain ⟨h1, h2, h3, h4, h5, h6⟩ := h
  unfold bz busyOf
  rw [if_pos ht]
  omega

section
variable {G : Gl} {fl : Nat} {A : Hp}
/-- A list of uses, at a place below the next block. -/
def Sk (B : Hp) (v : Value) (l : List Us) : Prop := Sl B 3 v (l.map Us.cells) ∧ ∀ a n c, v = .slice (some a) n c → a.block < B.next
theorem Sk.push {B : Hp} {v : Value} {l : List Us} (h : Sk B v l) (k : Blk) : Sk (B.push k) v l :=
  ⟨h.1.keep (by simp) fun a n c e => by rw [Hp.push_blk, if_neg (by have := h.2 a n c e; omega)], fun a n c e => by have := h.2 a n c e; rw [Hp.push_next]; omega⟩
theorem Sk.keep {B C : Hp} {v : Value} {l : List Us} (h : Sk B v l) (x : Xt B.next B C) : Sk C v l :=
  ⟨h.1.keep x.next fun a n c e => x.blk _ (h.2 a n c e), fun a n c e => by have := h.2 a n c e; have := x.next; omega⟩
theorem out_xt {sz : Nat} {v : Value} {css : List (List Value)} : Xt A.next A (outH A sz v css) := by
  unfold outH
  split
  · exact Xt.refl A
  · exact (Xt.refl A).push _
theorem out_ac {sz : Nat} {v : Value} {css : List (List Value)} (hs : Sl A sz v css) (h1 : ∀ c ∈ css, ∀ u ∈ c, u.oneCell' = true) : Ac (outH A sz v css) A.next sz (outV A v css) css := by
  obtain ⟨o, c, rfl⟩ := hs.len
  cases o with
  | none =>
    obtain rfl : css = [] := by
      rcases hs.2 with ⟨_, h⟩ | ⟨a, g, h, _⟩ | ⟨a, n, c, g, cells, h, _⟩
      · exact h
      · cases h
      · cases h
    exact ⟨hs.1, h1, .inl ⟨rfl, rfl⟩⟩
  | some a => exact ⟨hs.1, h1, .inr ⟨A.next, 0, css.length, css.length, rfl, Nat.le_refl _, Nat.le_refl _, by simp [outH], by simp [outH, Hp.push_blk], rfl⟩⟩
/-- The law's own list. -/
theorem bk3 {B : Hp} {i4 lo : Nat} {v2 : Value} {l : List Us} {u : Us} {f : Value × Hp → Prop} (hfl : fl ≤ lo) (hlo : lo ≤ B.next) (hl : l.length ≤ 1048576) (hac : Ac B lo 3 v2 (l.map Us.cells)) (h4 : B.blk i4 = some (.row u.cells 0 3))
    (k : ∀ v' C, Acn C lo 3 v' ((l ++ [u]).map Us.cells) → Xt lo B C → B.next ≤ C.next → f (v', C)) :
    @apn Try.prog G fl B #[22, 22] [v2, .slice (some ⟨i4, 0, some 0⟩) 1 1] ⟨f⟩ := by
  refine apn_of (lo := lo) (sz := 3) ty22 rfl ty29 ty22 rfl rfl (by omega) rfl hac hfl hlo (new := [u.cells]) ⟨by simp [Us.cells], .inr (.inr ⟨_, _, _, 0, _, rfl, rfl, rfl, h4, fun j x hj => by simpa using hj⟩)⟩
    (by simpa using us_one [u]) (by simp; omega) (by simp; omega) ?_
  intro v' C hv' hxC hnC hfC _ _
  exact k v' C ⟨by simpa using hv', fun h => by simp at h⟩ hxC hnC

set_option maxHeartbeats 2000000 in
/-- The law of Valid, Clash, Check, Book and Busy. -/
theorem toolsChecks_calls {v : Value} {l : List Us} {x y : Us} {tool from_ to : Int} (hl : l.length ≤ 1048576) (hf : I64 from_) (ht : I64 to) (hs : Sl A 3 v (l.map Us.cells)) :
    ∀ (μ : Mu) (w : World) (args' : Array Value), HR G μ fl A w → fl ≤ A.next → VRa μ A [v, x.val, y.val, .int .i64 tool, .int .i64 from_, .int .i64 to].toArray args' →
    Calls Try.prog 4 args' w fun e w' => ∃ u, e = .returned u ∧ ∃ ν, VR ν A (.bool true) u ∧ HR G ν fl A w' ∧ Trans fl μ A w ν A w' := by
  refine calls_of mixed Try.func4 Try.ntmps4 Try.results4 (by kernel_rfl) rfl (by kernel_rfl) (by kernel_rfl) fun hA => ?_
  have fin : ∀ (b : Bool) (B : Hp), Xt A.next A B → b = true → Ended A (.bool b) B (.bool true) A := fun b B hx hb => Ended.back hA hx (congrArg _ hb) (RB.bool _)
  simp only [Us.val]
  simp only [↓R1x, R2, R3, R4, TY, reduceIte, Nat.reduceEqDiff, Nat.reduceAdd, Nat.reduceMul, Nat.reduceLT, Nat.reduceLeDiff, reduceCtorEq, decide_true, decide_false, Int.reduceLE, Int.reduceLT, Int.reduceToNat, Int.reduceAdd, Int.reduceSub, Int.reduceMul, Int.reduceEq]
  simp only [k_then]
  simp only [↓R1x, R2, R3, R4, TY, reduceIte, Nat.reduceEqDiff, Nat.reduceAdd, Nat.reduceMul, Nat.reduceLT, Nat.reduceLeDiff, reduceCtorEq, decide_true, decide_false, Int.reduceLE, Int.reduceLT, Int.reduceToNat, Int.reduceAdd, Int.reduceSub, Int.reduceMul, Int.reduceEq]
  have hx2 : Xt A.next A ((A.push (.row x.cells 0 3)).push (.row y.cells 0 3)) := by simp (maxDischargeDepth := 20) only [xt_push, xt_refl]
  simp only [Us.cells] at hx2
  refine call_of (usesFault_ok (hs.xt hA hx2)) ?_
  simp only [↓R1x, R2, R3, R4, TY, reduceIte, Nat.reduceEqDiff, Nat.reduceAdd, Nat.reduceMul, Nat.reduceLT, Nat.reduceLeDiff, reduceCtorEq, decide_true, decide_false, Int.reduceLE, Int.reduceLT, Int.reduceToNat, Int.reduceAdd, Int.reduceSub, Int.reduceMul, Int.reduceEq]
  have g1 : ∀ i, ((A.push (.row x.cells 0 3)).push (.row y.cells 0 3)).get G ⟨A.next, i, some 0⟩ = x.cells[i]? := fun i => get_blk (g := 0) (e := 3) (by simp [Hp.push_blk])
  have g2 : ∀ i, ((A.push (.row x.cells 0 3)).push (.row y.cells 0 3)).get G ⟨A.next + 1, i, some 0⟩ = y.cells[i]? := fun i => get_blk (g := 0) (e := 3) (by simp [Hp.push_blk])
  refine go_on (fun τ B => Xt A.next A B ∧ A.next + 2 ≤ B.next ∧ (∀ i, B.get G ⟨A.next, i, some 0⟩ = x.cells[i]?) ∧ (∀ i, B.get G ⟨A.next + 1, i, some 0⟩ = y.cells[i]?) ∧
    τ 0 = some v ∧ τ 3 = some (.int .i64 tool) ∧ τ 4 = some (.int .i64 from_) ∧ τ 5 = some (.int .i64 to) ∧ τ 7 = some (.pointer (some ⟨A.next, 0, some 0⟩)) ∧ τ 8 = some (.pointer (some ⟨A.next + 1, 0, some 0⟩)) ∧ τ 13 = some (.int .i64 (chk l)))
    ⟨hx2, by simp, g1, g2, rfl, rfl, rfl, rfl, rfl, rfl, rfl⟩ ?_
  clear hx2 g1 g2
  rintro τ B ⟨hx, hBn, g1, g2, q0, q3, q4, q5, q7, q8, q13⟩
  have hfl : fl ≤ A.next := hA.floor
  have n1 : A.next < B.next := by omega
  have n2 : A.next + 1 < B.next := by omega
  have n3 : fl ≤ B.next := by omega
  simp only [Us.cells] at g1 g2
  have g10 := g1 0
  have g11 := g1 1
  have g12 := g1 2
  have g20 := g2 0
  have g21 := g2 1
  have g22 := g2 2
  apply merge (fun τ B => Xt A.next A B ∧ A.next + 2 ≤ B.next ∧ (∀ i, B.get G ⟨A.next, i, some 0⟩ = x.cells[i]?) ∧ (∀ i, B.get G ⟨A.next + 1, i, some 0⟩ = y.cells[i]?) ∧
    τ 0 = some v ∧ τ 3 = some (.int .i64 tool) ∧ τ 4 = some (.int .i64 from_) ∧ τ 5 = some (.int .i64 to) ∧ τ 7 = some (.pointer (some ⟨A.next, 0, some 0⟩)) ∧ τ 8 = some (.pointer (some ⟨A.next + 1, 0, some 0⟩)) ∧ τ 13 = some (.int .i64 (chk l)) ∧ τ 14 = some (.bool (decide (x.clash y))))
  · intro tail
    simp only [↓R1x, R2, R3, R4, TY, reduceIte, Nat.reduceEqDiff, Nat.reduceAdd, Nat.reduceMul, Nat.reduceLT, Nat.reduceLeDiff, reduceCtorEq, decide_true, decide_false, Int.reduceLE, Int.reduceLT, Int.reduceToNat, Int.reduceAdd, Int.reduceSub, Int.reduceMul, Int.reduceEq, FE, q0, q3, q4, q5, q7, q8, q13, g10, g11, g12, g20, g21, g22, n1, n2, n3, hfl]
    refine call_of (useIs_ok x) ?_
    simp only [↓R1x, R2, R3, R4, TY, reduceIte, Nat.reduceEqDiff, Nat.reduceAdd, Nat.reduceMul, Nat.reduceLT, Nat.reduceLeDiff, reduceCtorEq, decide_true, decide_false, Int.reduceLE, Int.reduceLT, Int.reduceToNat, Int.reduceAdd, Int.reduceSub, Int.reduceMul, Int.reduceEq, FE, q0, q3, q4, q5, q7, q8, q13, g10, g11, g12, g20, g21, g22, n1, n2, n3, hfl]
    refine ⟨fun hvx => ?_, fun hvx => ?_⟩
    rotate_left
    · refine tail _ _ ⟨hx, hBn, g1, g2, q0, q3, q4, q5, q7, q8, q13, ?_⟩
      exact congrArg some (congrArg Value.bool (decide_eq_false fun h : x.clash y => hvx h.1).symm)
    refine call_of (useIs_ok y) ?_
    simp only [↓R1x, R2, R3, R4, TY, reduceIte, Nat.reduceEqDiff, Nat.reduceAdd, Nat.reduceMul, Nat.reduceLT, Nat.reduceLeDiff, reduceCtorEq, decide_true, decide_false, Int.reduceLE, Int.reduceLT, Int.reduceToNat, Int.reduceAdd, Int.reduceSub, Int.reduceMul, Int.reduceEq, FE, q0, q3, q4, q5, q7, q8, q13, g10, g11, g12, g20, g21, g22, n1, n2, n3, hfl]
    refine ⟨fun hvy => ?_, fun hvy => ?_⟩
    rotate_left
    · refine tail _ _ ⟨hx, hBn, g1, g2, q0, q3, q4, q5, q7, q8, q13, ?_⟩
      exact congrArg some (congrArg Value.bool (decide_eq_false fun h : x.clash y => hvy h.2.1).symm)
    have hz6 : zl [Value.int IntKind.i64 0, Value.int IntKind.i64 0, Value.int IntKind.i64 0] 6 = [Value.int IntKind.i64 0, Value.int IntKind.i64 0, Value.int IntKind.i64 0, Value.int IntKind.i64 0, Value.int IntKind.i64 0, Value.int IntKind.i64 0] := rfl
    simp only [↓R1x, R2, R3, R4, TY, reduceIte, Nat.reduceEqDiff, Nat.reduceAdd, Nat.reduceMul, Nat.reduceLT, Nat.reduceLeDiff, reduceCtorEq, decide_true, decide_false, Int.reduceLE, Int.reduceLT, Int.reduceToNat, Int.reduceAdd, Int.reduceSub, Int.reduceMul, Int.reduceEq, FE, q0, q3, q4, q5, q7, q8, q13, g10, g11, g12, g20, g21, g22, n1, n2, n3, hfl, hz6]
    refine call_of (usesFault_ok (l := [x, y]) ⟨by simp [Us.cells], .inr (.inr ⟨_, _, _, 0, _, rfl, rfl, rfl, by rw [Hp.push_blk, if_pos rfl], fun j z hj => by simpa [Us.cells] using hj⟩)⟩) ?_
    simp only [↓R1x, R2, R3, R4, TY, reduceIte, Nat.reduceEqDiff, Nat.reduceAdd, Nat.reduceMul, Nat.reduceLT, Nat.reduceLeDiff, reduceCtorEq, decide_true, decide_false, Int.reduceLE, Int.reduceLT, Int.reduceToNat, Int.reduceAdd, Int.reduceSub, Int.reduceMul, Int.reduceEq, FE, q0, q3, q4, q5, q7, q8, q13, g10, g11, g12, g20, g21, g22, n1, n2, n3, hfl]
    refine tail _ _ ⟨hx.push _, by rw [Hp.push_next]; omega, fun i => ?_, fun i => ?_, q0, q3, q4, q5, q7, q8, q13, ?_⟩
    · rw [get_push_old (by omega)]; exact g1 i
    · rw [get_push_old (by omega)]; exact g2 i
    · refine congrArg some (congrArg Value.bool ?_)
      rw [decide_eq_decide]; exact chk_two hvx hvy
  clear g1 g2 g10 g11 g12 g20 g21 g22 n1 n2 n3 q0 q3 q4 q5 q7 q8 q13 hx hBn
  clear τ B
  rintro τ B ⟨hx, hBn, g1, g2, q0, q3, q4, q5, q7, q8, q13, q14⟩
  have n1 : A.next < B.next := by omega
  have n2 : A.next + 1 < B.next := by omega
  have n3 : fl ≤ B.next := by omega
  simp only [Us.cells] at g1 g2
  have g10 := g1 0
  have g11 := g1 1
  have g12 := g1 2
  have g20 := g2 0
  have g21 := g2 1
  have g22 := g2 2
  simp only [↓R1x, R2, R3, R4, TY, reduceIte, Nat.reduceEqDiff, Nat.reduceAdd, Nat.reduceMul, Nat.reduceLT, Nat.reduceLeDiff, reduceCtorEq, decide_true, decide_false, Int.reduceLE, Int.reduceLT, Int.reduceToNat, Int.reduceAdd, Int.reduceSub, Int.reduceMul, Int.reduceEq, FE, q0, q3, q4, q5, q7, q8, q13, g10, g11, g12, g20, g21, g22, n1, n2, n3, hfl, q14, beq_self_eq_true, Bool.not_true]
  refine call_of tooled_ok ?_
  simp only [↓R1x, R2, R3, R4, TY, reduceIte, Nat.reduceEqDiff, Nat.reduceAdd, Nat.reduceMul, Nat.reduceLT, Nat.reduceLeDiff, reduceCtorEq, decide_true, decide_false, Int.reduceLE, Int.reduceLT, Int.reduceToNat, Int.reduceAdd, Int.reduceSub, Int.reduceMul, Int.reduceEq, FE, q0, q3, q4, q5, q7, q8, q13, g10, g11, g12, g20, g21, g22, n1, n2, n3, hfl, q14, beq_self_eq_true, Bool.not_true]
  refine call_of (valid_ok x) ?_
  simp only [↓R1x, R2, R3, R4, TY, reduceIte, Nat.reduceEqDiff, Nat.reduceAdd, Nat.reduceMul, Nat.reduceLT, Nat.reduceLeDiff, reduceCtorEq, decide_true, decide_false, Int.reduceLE, Int.reduceLT, Int.reduceToNat, Int.reduceAdd, Int.reduceSub, Int.reduceMul, Int.reduceEq, FE, q0, q3, q4, q5, q7, q8, q13, g10, g11, g12, g20, g21, g22, n1, n2, n3, hfl, q14, beq_self_eq_true, Bool.not_true]
  refine call_of (useIs_ok x) ?_
  simp only [↓R1x, R2, R3, R4, TY, reduceIte, Nat.reduceEqDiff, Nat.reduceAdd, Nat.reduceMul, Nat.reduceLT, Nat.reduceLeDiff, reduceCtorEq, decide_true, decide_false, Int.reduceLE, Int.reduceLT, Int.reduceToNat, Int.reduceAdd, Int.reduceSub, Int.reduceMul, Int.reduceEq, FE, q0, q3, q4, q5, q7, q8, q13, g10, g11, g12, g20, g21, g22, n1, n2, n3, hfl, q14, beq_self_eq_true, Bool.not_true]
  refine call_of (clash_ok x y) ?_
  simp only [↓R1x, R2, R3, R4, TY, reduceIte, Nat.reduceEqDiff, Nat.reduceAdd, Nat.reduceMul, Nat.reduceLT, Nat.reduceLeDiff, reduceCtorEq, decide_true, decide_false, Int.reduceLE, Int.reduceLT, Int.reduceToNat, Int.reduceAdd, Int.reduceSub, Int.reduceMul, Int.reduceEq, FE, q0, q3, q4, q5, q7, q8, q13, g10, g11, g12, g20, g21, g22, n1, n2, n3, hfl, q14, beq_self_eq_true, Bool.not_true]
  refine call_of (check_ok (hs.xt hA hx)) ?_
  simp only [↓R1x, R2, R3, R4, TY, reduceIte, Nat.reduceEqDiff, Nat.reduceAdd, Nat.reduceMul, Nat.reduceLT, Nat.reduceLeDiff, reduceCtorEq, decide_true, decide_false, Int.reduceLE, Int.reduceLT, Int.reduceToNat, Int.reduceAdd, Int.reduceSub, Int.reduceMul, Int.reduceEq, FE, q0, q3, q4, q5, q7, q8, q13, g10, g11, g12, g20, g21, g22, n1, n2, n3, hfl, q14, beq_self_eq_true, Bool.not_true]
  simp only [k_then]
  simp only [↓R1x, R2, R3, R4, TY, reduceIte, Nat.reduceEqDiff, Nat.reduceAdd, Nat.reduceMul, Nat.reduceLT, Nat.reduceLeDiff, reduceCtorEq, decide_true, decide_false, Int.reduceLE, Int.reduceLT, Int.reduceToNat, Int.reduceAdd, Int.reduceSub, Int.reduceMul, Int.reduceEq, FE, q0, q3, q4, q5, q7, q8, q13, g10, g11, g12, g20, g21, g22, n1, n2, n3, hfl, q14, beq_self_eq_true, Bool.not_true]
  simp only [k_then]
  simp only [↓R1x, R2, R3, R4, TY, reduceIte, Nat.reduceEqDiff, Nat.reduceAdd, Nat.reduceMul, Nat.reduceLT, Nat.reduceLeDiff, reduceCtorEq, decide_true, decide_false, Int.reduceLE, Int.reduceLT, Int.reduceToNat, Int.reduceAdd, Int.reduceSub, Int.reduceMul, Int.reduceEq, FE, q0, q3, q4, q5, q7, q8, q13, g10, g11, g12, g20, g21, g22, n1, n2, n3, hfl, q14]
  refine call_of (book_ok (u := x) (hs.xt hA hx)) ?_
  simp only [↓R1x, R2, R3, R4, TY, reduceIte, Nat.reduceEqDiff, Nat.reduceAdd, Nat.reduceMul, Nat.reduceLT, Nat.reduceLeDiff, reduceCtorEq, decide_true, decide_false, Int.reduceLE, Int.reduceLT, Int.reduceToNat, Int.reduceAdd, Int.reduceSub, Int.reduceMul, Int.reduceEq, FE, q0, q3, q4, q5, q7, q8, q13, g10, g11, g12, g20, g21, g22, n1, n2, n3, hfl, q14, beq_self_eq_true, Bool.not_true]
  refine go_on (fun τ C => ∃ kv, Xt A.next A C ∧ A.next + 2 ≤ C.next ∧ (∀ i, C.get G ⟨A.next, i, some 0⟩ = x.cells[i]?) ∧ Sk C kv (bookL l x) ∧
    τ 0 = some v ∧ τ 3 = some (.int .i64 tool) ∧ τ 4 = some (.int .i64 from_) ∧ τ 5 = some (.int .i64 to) ∧ τ 7 = some (.pointer (some ⟨A.next, 0, some 0⟩)) ∧ τ 13 = some (.int .i64 (chk l)) ∧ τ 15 = some kv ∧ τ 16 = some (.int .i64 (bookE l x)))
    ⟨_, ?_, ?_, ?_, ⟨nl_sl (fun c hc => ?_), fun a n c e => nl_lt e⟩, q0, q3, q4, q5, q7, q13, rfl, rfl⟩ ?_
  · exact ⟨fun id hid => by rw [nlH_xt.blk id (by omega)]; exact hx.blk id hid, by have := (nlH_xt (A := B) (sz := 3) (css := (bookL l x).map Us.cells)).next; omega⟩
  · have := (nlH_xt (A := B) (sz := 3) (css := (bookL l x).map Us.cells)).next; omega
  · intro i
    rw [nlH_xt.get (by exact n1)]; exact g1 i
  · obtain ⟨z, _, rfl⟩ := List.mem_map.1 hc; rfl
  clear g1 g2 g10 g11 g12 g20 g21 g22 n1 n2 n3 q0 q3 q4 q5 q7 q8 q13 q14 hx hBn
  clear τ B
  rintro τ B ⟨kv, hx, hBn, g1, hkv, q0, q3, q4, q5, q7, q13, q15, q16⟩
  have n1 : A.next < B.next := by omega
  have n3 : fl ≤ B.next := by omega
  simp only [Us.cells] at g1
  have g10 := g1 0
  have g11 := g1 1
  have g12 := g1 2
  simp only [↓R1x, R2, R3, R4, TY, reduceIte, Nat.reduceEqDiff, Nat.reduceAdd, Nat.reduceMul, Nat.reduceLT, Nat.reduceLeDiff, reduceCtorEq, decide_true, decide_false, Int.reduceLE, Int.reduceLT, Int.reduceToNat, Int.reduceAdd, Int.reduceSub, Int.reduceMul, Int.reduceEq, FE, q0, q3, q4, q5, q7, q13, q15, q16]
  simp only [k_then]
  simp only [↓R1x, R2, R3, R4, TY, reduceIte, Nat.reduceEqDiff, Nat.reduceAdd, Nat.reduceMul, Nat.reduceLT, Nat.reduceLeDiff, reduceCtorEq, decide_true, decide_false, Int.reduceLE, Int.reduceLT, Int.reduceToNat, Int.reduceAdd, Int.reduceSub, Int.reduceMul, Int.reduceEq, FE, q0, q3, q4, q5, q7, q13, q15, q16]
  refine call_of (clone_ok (by omega) (hs.xt hA hx)) ?_
  have hxC := out_xt (A := B) (sz := 3) (v := v) (css := l.map Us.cells)
  have hac := out_ac (hs.xt hA hx) (us_one l)
  generalize outV B v (l.map Us.cells) = v2 at *
  generalize outH B 3 v (l.map Us.cells) = C at *
  have c1 : ∀ i, C.get G ⟨A.next, i, some 0⟩ = [Value.int .i64 x.tool, .int .i64 x.from_, .int .i64 x.long][i]? := fun i => by rw [hxC.get (by exact n1)]; exact g1 i
  have c10 := c1 0
  have c11 := c1 1
  have c12 := c1 2
  have hCn := hxC.next
  have m1 : A.next < C.next := by omega
  have m3 : fl ≤ C.next := by omega
  have hz3 : zl [Value.int IntKind.i64 0, Value.int IntKind.i64 0, Value.int IntKind.i64 0] 3 = [Value.int IntKind.i64 0, Value.int IntKind.i64 0, Value.int IntKind.i64 0] := rfl
  simp only [↓R1x, R2, R3, R4, TY, reduceIte, Nat.reduceEqDiff, Nat.reduceAdd, Nat.reduceMul, Nat.reduceLT, Nat.reduceLeDiff, reduceCtorEq, decide_true, decide_false, Int.reduceLE, Int.reduceLT, Int.reduceToNat, Int.reduceAdd, Int.reduceSub, Int.reduceMul, Int.reduceEq, FE, q0, q3, q4, q5, q7, q13, q15, q16, c10, c11, c12, m1, m3, hz3]
  rw [floOf_wr (by kernel_rfl)]
  refine bk3 (lo := B.next) (u := x) n3 (by rw [Hp.push_next]; omega) hl (hac.push _) (by simp [Hp.push_blk, Us.cells]) fun v3 D hac3 hxD hDn => ?_
  simp only [↓R1x, R2, R3, R4, TY, reduceIte, Nat.reduceEqDiff, Nat.reduceAdd, Nat.reduceMul, Nat.reduceLT, Nat.reduceLeDiff, reduceCtorEq, decide_true, decide_false, Int.reduceLE, Int.reduceLT, Int.reduceToNat, Int.reduceAdd, Int.reduceSub, Int.reduceMul, Int.reduceEq, FE, q0, q3, q4, q5, q7, q13, q15, q16]
  refine go_on (fun τ D => ∃ v3, Xt A.next A D ∧ Sk D kv (bookL l x) ∧ Sk D v3 (l ++ [x]) ∧
    τ 0 = some v ∧ τ 3 = some (.int .i64 tool) ∧ τ 4 = some (.int .i64 from_) ∧ τ 5 = some (.int .i64 to) ∧ τ 13 = some (.int .i64 (chk l)) ∧ τ 15 = some kv ∧ τ 16 = some (.int .i64 (bookE l x)) ∧ τ 17 = some (.int .i64 (chk l)) ∧ τ 18 = some v3)
    ⟨v3, ⟨fun id hid => ?_, ?_⟩, ?_, ⟨hac3.sl, fun a n c e => hac3.lt e⟩, q0, q3, q4, q5, q13, q15, q16, rfl, rfl⟩ ?_
  · rw [hxD.blk id (by omega), Hp.push_blk, if_neg (by omega), hxC.blk id (by omega)]; exact hx.blk id hid
  · have := hxD.next; have := hx.next; omega
  · have hDn' := hDn
    rw [Hp.push_next] at hDn'
    refine ⟨hkv.1.keep (by omega) fun a n c e => ?_, fun a n c e => ?_⟩
    · have := hkv.2 a n c e
      rw [hxD.blk _ this, Hp.push_blk, if_neg (by omega), hxC.blk _ this]
    · have := hkv.2 a n c e
      have := hxD.next
      omega
  clear hac3 hxD hDn D v3 c1 c10 c11 c12 hCn m1 m3 hz3 hac hxC C v2
  clear g1 g10 g11 g12 n1 n3 q0 q3 q4 q5 q7 q13 q15 q16 hx hBn hkv
  clear τ B
  rintro τ B ⟨v3, hx, hkv, hv3, q0, q3, q4, q5, q13, q15, q16, q17, q18⟩
  apply merge (fun τ B => ∃ v3, Xt A.next A B ∧ Sk B kv (bookL l x) ∧ Sk B v3 (bookL l x) ∧
    τ 0 = some v ∧ τ 3 = some (.int .i64 tool) ∧ τ 4 = some (.int .i64 from_) ∧ τ 5 = some (.int .i64 to) ∧ τ 13 = some (.int .i64 (chk l)) ∧ τ 15 = some kv ∧ τ 16 = some (.int .i64 (bookE l x)) ∧ τ 17 = some (.int .i64 (bookE l x)) ∧ τ 18 = some v3)
  · intro tail
    simp only [↓R1x, R2, R3, R4, TY, reduceIte, Nat.reduceEqDiff, Nat.reduceAdd, Nat.reduceMul, Nat.reduceLT, Nat.reduceLeDiff, reduceCtorEq, decide_true, decide_false, Int.reduceLE, Int.reduceLT, Int.reduceToNat, Int.reduceAdd, Int.reduceSub, Int.reduceMul, Int.reduceEq, FE, q0, q3, q4, q5, q13, q15, q16, q17, q18]
    simp only [k_then]
    simp only [↓R1x, R2, R3, R4, TY, reduceIte, Nat.reduceEqDiff, Nat.reduceAdd, Nat.reduceMul, Nat.reduceLT, Nat.reduceLeDiff, reduceCtorEq, decide_true, decide_false, Int.reduceLE, Int.reduceLT, Int.reduceToNat, Int.reduceAdd, Int.reduceSub, Int.reduceMul, Int.reduceEq, FE, q0, q3, q4, q5, q13, q15, q16, q17, q18]
    refine ⟨fun he => ?_, fun he => ?_⟩
    · refine call_of (usesFault_ok hv3.1) ?_
      simp only [↓R1x, R2, R3, R4, TY, reduceIte, Nat.reduceEqDiff, Nat.reduceAdd, Nat.reduceMul, Nat.reduceLT, Nat.reduceLeDiff, reduceCtorEq, decide_true, decide_false, Int.reduceLE, Int.reduceLT, Int.reduceToNat, Int.reduceAdd, Int.reduceSub, Int.reduceMul, Int.reduceEq, FE, q0, q3, q4, q5, q13, q15, q16, q17, q18]
      simp only [k_then]
      simp only [↓R1x, R2, R3, R4, TY, reduceIte, Nat.reduceEqDiff, Nat.reduceAdd, Nat.reduceMul, Nat.reduceLT, Nat.reduceLeDiff, reduceCtorEq, decide_true, decide_false, Int.reduceLE, Int.reduceLT, Int.reduceToNat, Int.reduceAdd, Int.reduceSub, Int.reduceMul, Int.reduceEq, FE, q0, q3, q4, q5, q13, q15, q16, q17, q18]
      simp only [k_then]
      simp only [↓R1x, R2, R3, R4, TY, reduceIte, Nat.reduceEqDiff, Nat.reduceAdd, Nat.reduceMul, Nat.reduceLT, Nat.reduceLeDiff, reduceCtorEq, decide_true, decide_false, Int.reduceLE, Int.reduceLT, Int.reduceToNat, Int.reduceAdd, Int.reduceSub, Int.reduceMul, Int.reduceEq, FE, q0, q3, q4, q5, q13, q15, q16, q17, q18]
      have eb : bookE l x = chk (l ++ [x]) := by rw [bookE, if_neg (by simpa using he)]
      refine ⟨fun h2 => ?_, fun h2 => ?_⟩
      · have el : bookL l x = l ++ [x] := by rw [bookL, if_pos (eb.trans h2)]
        refine tail _ _ ⟨v3, hx, hkv, by rw [el]; exact hv3, q0, q3, q4, q5, q13, q15, q16, ?_, q18⟩
        rw [eb]; rfl
      · have el : bookL l x = [] := by rw [bookL, if_neg (by rw [eb]; exact h2)]
        refine tail _ _ ⟨_, hx, hkv, ?_, q0, q3, q4, q5, q13, q15, q16, ?_, rfl⟩
        · rw [el]; exact ⟨⟨by simp, .inl ⟨rfl, rfl⟩⟩, fun a n c e => by cases e⟩
        · rw [eb]; rfl
    · have eb : bookE l x = chk l := by rw [bookE, if_pos (by simpa using he)]
      have el : bookL l x = [] := by rw [bookL, if_neg (by rw [eb]; exact he)]
      simp only [k_then]
      simp only [↓R1x, R2, R3, R4, TY, reduceIte, Nat.reduceEqDiff, Nat.reduceAdd, Nat.reduceMul, Nat.reduceLT, Nat.reduceLeDiff, reduceCtorEq, decide_true, decide_false, Int.reduceLE, Int.reduceLT, Int.reduceToNat, Int.reduceAdd, Int.reduceSub, Int.reduceMul, Int.reduceEq, FE, q0, q3, q4, q5, q13, q15, q16, q17, q18, he]
      simp only [k_then]
      simp only [↓R1x, R2, R3, R4, TY, reduceIte, Nat.reduceEqDiff, Nat.reduceAdd, Nat.reduceMul, Nat.reduceLT, Nat.reduceLeDiff, reduceCtorEq, decide_true, decide_false, Int.reduceLE, Int.reduceLT, Int.reduceToNat, Int.reduceAdd, Int.reduceSub, Int.reduceMul, Int.reduceEq, FE, q0, q3, q4, q5, q13, q15, q16, q17, q18, he]
      refine tail _ _ ⟨_, hx, hkv, ?_, q0, q3, q4, q5, q13, q15, q16, ?_, rfl⟩
      · rw [el]; exact ⟨⟨by simp, .inl ⟨rfl, rfl⟩⟩, fun a n c e => by cases e⟩
      · rw [eb]; exact q17
  clear hx hkv hv3 q0 q3 q4 q5 q13 q15 q16 q17 q18 v3
  clear τ B
  rintro τ B ⟨v3, hx, hkv, hv3, q0, q3, q4, q5, q13, q15, q16, q17, q18⟩
  simp only [↓R1x, R2, R3, R4, TY, reduceIte, Nat.reduceEqDiff, Nat.reduceAdd, Nat.reduceMul, Nat.reduceLT, Nat.reduceLeDiff, reduceCtorEq, decide_true, decide_false, Int.reduceLE, Int.reduceLT, Int.reduceToNat, Int.reduceAdd, Int.reduceSub, Int.reduceMul, Int.reduceEq, FE, q0, q3, q4, q5, q13, q15, q16, q17, q18]
  refine call_of (busy_ok hf ht (hs.xt hA hx)) ?_
  simp only [↓R1x, R2, R3, R4, TY, reduceIte, Nat.reduceEqDiff, Nat.reduceAdd, Nat.reduceMul, Nat.reduceLT, Nat.reduceLeDiff, reduceCtorEq, decide_true, decide_false, Int.reduceLE, Int.reduceLT, Int.reduceToNat, Int.reduceAdd, Int.reduceSub, Int.reduceMul, Int.reduceEq, FE, q0, q3, q4, q5, q13, q15, q16, q17, q18]
  simp only [k_then]
  simp only [↓R1x, R2, R3, R4, TY, reduceIte, Nat.reduceEqDiff, Nat.reduceAdd, Nat.reduceMul, Nat.reduceLT, Nat.reduceLeDiff, reduceCtorEq, decide_true, decide_false, Int.reduceLE, Int.reduceLT, Int.reduceToNat, Int.reduceAdd, Int.reduceSub, Int.reduceMul, Int.reduceEq, FE, q0, q3, q4, q5, q13, q15, q16, q17, q18]
  obtain ⟨o, c, rfl⟩ := hs.len
  simp only [k_then]
  simp only [↓R1x, R2, R3, R4, TY, reduceIte, Nat.reduceEqDiff, Nat.reduceAdd, Nat.reduceMul, Nat.reduceLT, Nat.reduceLeDiff, reduceCtorEq, decide_true, decide_false, Int.reduceLE, Int.reduceLT, Int.reduceToNat, Int.reduceAdd, Int.reduceSub, Int.reduceMul, Int.reduceEq, FE, q0, q3, q4, q5, q13, q15, q16, q17, q18]
  simp only [k_then]
  simp only [↓R1x, R2, R3, R4, TY, reduceIte, Nat.reduceEqDiff, Nat.reduceAdd, Nat.reduceMul, Nat.reduceLT, Nat.reduceLeDiff, reduceCtorEq, decide_true, decide_false, Int.reduceLE, Int.reduceLT, Int.reduceToNat, Int.reduceAdd, Int.reduceSub, Int.reduceMul, Int.reduceEq, FE, q0, q3, q4, q5, q13, q15, q16, q17, q18]
  rw [List.length_map] at hs ⊢
  refine range_of 90 l.length (fun j τ B => Xt A.next A B ∧ Sk B kv (bookL l x) ∧ Sk B v3 (bookL l x) ∧ τ 3 = some (.int .i64 tool) ∧ τ 4 = some (.int .i64 from_) ∧ τ 5 = some (.int .i64 to) ∧ τ 13 = some (.int .i64 (chk l)) ∧ τ 15 = some kv ∧
    τ 16 = some (.int .i64 (bookE l x)) ∧ τ 17 = some (.int .i64 (bookE l x)) ∧ τ 18 = some v3 ∧ τ 19 = some (.int .i64 (busyR l tool from_ to).1) ∧ τ 20 = some (.int .i64 (busyR l tool from_ to).2) ∧ τ 21 = some (.int .i64 (want l tool from_ to j)) ∧
    τ 88 = some (.slice o l.length c) ∧ τ 89 = some (.int .i64 l.length) ∧ τ 90 = some (.int .i64 (j : Nat))) ?_ ?_
  · exact ⟨hx, hkv, hv3, q3, q4, q5, q13, q15, q16, q17, q18, rfl, rfl, by simp [want]; rfl, rfl, rfl, rfl⟩
  clear hx hkv hv3 q0 q3 q4 q5 q13 q15 q16 q17 q18
  clear τ B
  rintro j τ B hj ⟨hx, hkv, hv3, q3, q4, q5, q13, q15, q16, q17, q18, q19, q20, q21, q88, q89, q90⟩
  simp only [↓R1x, R2, R3, R4, TY, reduceIte, Nat.reduceEqDiff, Nat.reduceAdd, Nat.reduceMul, Nat.reduceLT, Nat.reduceLeDiff, reduceCtorEq, decide_true, decide_false, Int.reduceLE, Int.reduceLT, Int.reduceToNat, Int.reduceAdd, Int.reduceSub, Int.reduceMul, Int.reduceEq, FE, q3, q4, q5, q13, q15, q16, q17, q18, q19, q20, q21, q88, q89, q90]
  simp only [k_then]
  simp only [↓R1x, R2, R3, R4, TY, reduceIte, Nat.reduceEqDiff, Nat.reduceAdd, Nat.reduceMul, Nat.reduceLT, Nat.reduceLeDiff, reduceCtorEq, decide_true, decide_false, Int.reduceLE, Int.reduceLT, Int.reduceToNat, Int.reduceAdd, Int.reduceSub, Int.reduceMul, Int.reduceEq, FE, q3, q4, q5, q13, q15, q16, q17, q18, q19, q20, q21, q88, q89, q90]
  refine ⟨fun hlt => ?_, fun hlt => ?_⟩
  rotate_left
  · simp only [k_then]
    simp only [↓R1x, R2, R3, R4, TY, reduceIte, Nat.reduceEqDiff, Nat.reduceAdd, Nat.reduceMul, Nat.reduceLT, Nat.reduceLeDiff, reduceCtorEq, decide_true, decide_false, Int.reduceLE, Int.reduceLT, Int.reduceToNat, Int.reduceAdd, Int.reduceSub, Int.reduceMul, Int.reduceEq, FE, q3, q4, q5, q13, q15, q16, q17, q18, q19, q20, q21, q88, q89, q90]
    have hbl : (bookL l x).length < 9223372036854775807 := by
      have : (bookL l x).length ≤ l.length + 1 := by unfold bookL; split <;> simp
      omega
    refine call_of (equal_ok (l1 := bookL l x) (l2 := bookL l x) hbl hkv.1 hv3.1) ?_
    have hjl : j = l.length := by omega
    have r2 : (busyR l tool from_ to).2 = chk l := by unfold busyR; split <;> rename_i h <;> simp; omega
    have r1 : want l tool from_ to j = (busyR l tool from_ to).1 := by
      subst hjl
      unfold busyR want
      by_cases h : chk l = 0
      · rw [if_pos h, if_neg (by simpa using h), List.take_length]
      · rw [if_neg h, if_pos h]
    simp only [↓R1, R2, R3, R4, TY, reduceIte, Nat.reduceEqDiff, Nat.reduceAdd, Nat.reduceMul, Nat.reduceLT, Nat.reduceLeDiff, reduceCtorEq, decide_true, decide_false, Int.reduceLE, Int.reduceLT, Int.reduceToNat, Int.reduceAdd, Int.reduceSub, Int.reduceMul, Int.reduceEq, FE, q3, q4, q5, q13, q15, q16, q17, q18, q19, q20, q21, q88, q89, q90, r1, r2, decide_true]
    exact fin _ _ hx rfl
  obtain ⟨a, rfl, -⟩ := hs.at (G := G) (i := j) (by simpa using hlt)
  have hsB := hs.xt hA hx
  have hab : a.block < B.next := Nat.lt_of_lt_of_le (hs.lt hA) hx.next
  have hfl : fl ≤ B.next := Nat.le_trans hA.floor hx.next
  obtain ⟨g0, g1, g2⟩ := us_get (G := G) hsB hlt
  have hj63 : j < 9223372036854775807 := by omega
  generalize hu : l[j] = u at *
  have hz3 : zl [Value.int IntKind.i64 0, Value.int IntKind.i64 0, Value.int IntKind.i64 0] 3 = [Value.int IntKind.i64 0, Value.int IntKind.i64 0, Value.int IntKind.i64 0] := rfl
  simp only [↓R1, R2, R3, R4, TY, reduceIte, Nat.reduceEqDiff, Nat.reduceAdd, Nat.reduceMul, Nat.reduceLT, Nat.reduceLeDiff, reduceCtorEq, decide_true, decide_false, Int.reduceLE, Int.reduceLT, Int.reduceToNat, Int.reduceAdd, Int.reduceSub, Int.reduceMul, Int.reduceEq, FE, q3, q4, q5, q13, q15, q16, q17, q18, q19, q20, q21, q88, q89, q90, g0, g1, g2, hab, hfl, hj63, hz3, hlt]
  have hxx : Xt B.next B ((B.push (.row [Value.int .i64 0, .int .i64 0, .int .i64 0] 0 3)).put B.next (.row [Value.int .i64 u.tool, .int .i64 u.from_, .int .i64 u.long] 0 3)) := by simp (maxDischargeDepth := 20) only [xt_push, xt_put, xt_refl, Nat.le_refl]
  have gg : ∀ i, ((B.push (.row [Value.int .i64 0, .int .i64 0, .int .i64 0] 0 3)).put B.next (.row [Value.int .i64 u.tool, .int .i64 u.from_, .int .i64 u.long] 0 3)).get G ⟨B.next, i, some 0⟩ = u.cells[i]? := fun i => get_blk (g := 0) (e := 3) (by simp [Hp.put_blk, Us.cells])
  have hnC : ((B.push (.row [Value.int .i64 0, .int .i64 0, .int .i64 0] 0 3)).put B.next (.row [Value.int .i64 u.tool, .int .i64 u.from_, .int .i64 u.long] 0 3)).next = B.next + 1 := by simp
  generalize (B.push _).put _ _ = C at *
  have hxC : Xt A.next A C := ⟨fun id hid => (hxx.blk id (by have := hx.next; omega)).trans (hx.blk id hid), by have := hx.next; omega⟩
  have hkC := hkv.keep hxx
  have hvC := hv3.keep hxx
  have c0 := gg 0
  have c1 := gg 1
  have c2 := gg 2
  simp only [Us.cells] at c0 c1 c2
  have m1 : B.next < C.next := by omega
  have m3 : fl ≤ C.next := by omega
  refine loop_of (fun τ D => D = C ∧ ∃ t : Int, u.from_ ≤ t ∧ (t = u.from_ ∨ (chk l = 0 ∧ u.tool = tool ∧ t ≤ u.from_ + u.long)) ∧ τ 24 = some (.int .i64 t) ∧ τ 21 = some (.int .i64 (want l tool from_ to j + if chk l = 0 ∧ u.tool = tool then bz from_ to u t else 0)) ∧
    τ 23 = some (.pointer (some ⟨B.next, 0, some 0⟩)) ∧ τ 3 = some (.int .i64 tool) ∧ τ 4 = some (.int .i64 from_) ∧ τ 5 = some (.int .i64 to) ∧ τ 13 = some (.int .i64 (chk l)) ∧ τ 15 = some kv ∧
    τ 16 = some (.int .i64 (bookE l x)) ∧ τ 17 = some (.int .i64 (bookE l x)) ∧ τ 18 = some v3 ∧ τ 19 = some (.int .i64 (busyR l tool from_ to).1) ∧ τ 20 = some (.int .i64 (busyR l tool from_ to).2) ∧
    τ 88 = some (.slice (some a) l.length c) ∧ τ 89 = some (.int .i64 l.length) ∧ τ 90 = some (.int .i64 (j : Nat))) (fun τ D => match τ 24 with | some (.int _ t) => (u.from_ + u.long - t).toNat | _ => 0) ?_ ?_
  · refine ⟨rfl, u.from_, Int.le_refl _, .inl rfl, rfl, ?_, rfl, q3, q4, q5, q13, q15, q16, q17, q18, q19, q20, q88, q89, q90⟩
    refine q21.trans (congrArg some (congrArg _ ?_))
    split
    · unfold bz; omega
    · omega
  have k90 := q90
  clear q3 q4 q5 q13 q15 q16 q17 q18 q19 q20 q21 q88 q89 q90
  rintro σ D ⟨rfl, t, ht0, ht1, q24, q21, q23, q3, q4, q5, q13, q15, q16, q17, q18, q19, q20, q88, q89, q90⟩
  simp only [↓R1x, R2, R3, R4, TY, reduceIte, Nat.reduceEqDiff, Nat.reduceAdd, Nat.reduceMul, Nat.reduceLT, Nat.reduceLeDiff, reduceCtorEq, decide_true, decide_false, Int.reduceLE, Int.reduceLT, Int.reduceToNat, Int.reduceAdd, Int.reduceSub, Int.reduceMul, Int.reduceEq, FE, q3, q4, q5, q13, q15, q16, q17, q18, q19, q20, q21, q23, q24, q88, q89, q90, c0, c1, c2, m1, m3]
  have hw := want_step (tool := tool) (from_ := from_) (to := to) hlt
  rw [hu] at hw
  refine ⟨fun hc0 => ?_, fun hc0 => ?_⟩
  rotate_left
  · simp only [↓R1, R2, R3, R4, TY, reduceIte, Nat.reduceEqDiff, Nat.reduceAdd, Nat.reduceMul, Nat.reduceLT, Nat.reduceLeDiff, reduceCtorEq, decide_true, decide_false, Int.reduceLE, Int.reduceLT, Int.reduceToNat, Int.reduceAdd, Int.reduceSub, Int.reduceMul, Int.reduceEq, FE, q3, q4, q5, q13, q15, q16, q17, q18, q19, q20, q21, q23, q24, q88, q89, q90, c0, c1, c2, m1, m3, hj63]
    refine range_on k90 hlt rfl ⟨hxC, hkC, hvC, q3, q4, q5, q13, q15, q16, q17, q18, q19, q20, ?_, q88, q89, rfl⟩
    refine q21.trans (congrArg some (congrArg _ ?_))
    rw [hw, if_neg hc0, if_neg fun h => hc0 h.1]
  obtain ⟨h60, hval⟩ := chk_valid hc0
  have hvu : u.valid := hu ▸ hval _ (List.getElem_mem hlt)
  refine ⟨fun hc1 => ?_, fun hc1 => ?_⟩
  rotate_left
  · simp only [↓R1, R2, R3, R4, TY, reduceIte, Nat.reduceEqDiff, Nat.reduceAdd, Nat.reduceMul, Nat.reduceLT, Nat.reduceLeDiff, reduceCtorEq, decide_true, decide_false, Int.reduceLE, Int.reduceLT, Int.reduceToNat, Int.reduceAdd, Int.reduceSub, Int.reduceMul, Int.reduceEq, FE, q3, q4, q5, q13, q15, q16, q17, q18, q19, q20, q21, q23, q24, q88, q89, q90, c0, c1, c2, m1, m3, hj63]
    refine range_on k90 hlt rfl ⟨hxC, hkC, hvC, q3, q4, q5, q13, q15, q16, q17, q18, q19, q20, ?_, q88, q89, rfl⟩
    refine q21.trans (congrArg some (congrArg _ ?_))
    rw [hw, if_pos hc0, if_neg fun h => hc1 h.2, busyOf, if_neg hc1]
  have hbe := bz_end (from_ := from_) (to := to) hvu hc1
  obtain ⟨v1, v2, v3', v4, v5, v6⟩ := hvu
  have w1 : IntKind.i64.wrap (u.from_ + u.long) = u.from_ + u.long := wrapI (by omega)
  have w2 : t < u.from_ + u.long → IntKind.i64.wrap (t + 1) = t + 1 := fun h => wrapI (by omega)
  rw [if_pos ⟨hc0, hc1⟩] at q21
  rw [if_pos hc0] at hw
  obtain ⟨f1, f2⟩ := hf
  obtain ⟨t1, t2⟩ := ht
  have hwl := want_le (l := l) tool from_ to j
  have hb1 : 0 ≤ bz from_ to u t ∧ (t ≤ u.from_ + u.long → bz from_ to u t ≤ 2000) := by unfold bz; omega
  have hin : t < u.from_ + u.long → from_ ≤ t → t < to → bz from_ to u (t + 1) = bz from_ to u t + 1 := fun _ _ _ => by unfold bz; omega
  have hou : t < u.from_ + u.long → ¬ (from_ ≤ t ∧ t < to) → bz from_ to u (t + 1) = bz from_ to u t := fun _ _ => by unfold bz; omega
  have w3 : t < u.from_ + u.long → IntKind.i64.wrap (want l tool from_ to j + bz from_ to u t + 1) = want l tool from_ to j + bz from_ to u t + 1 := fun h => wrapI (by omega)
  simp only [↓R1, R2, R3, R4, TY, reduceIte, Nat.reduceEqDiff, Nat.reduceAdd, Nat.reduceMul, Nat.reduceLT, Nat.reduceLeDiff, reduceCtorEq, decide_true, decide_false, Int.reduceLE, Int.reduceLT, Int.reduceToNat, Int.reduceAdd, Int.reduceSub, Int.reduceMul, Int.reduceEq, FE, q3, q4, q5, q13, q15, q16, q17, q18, q19, q20, q21, q23, q24, q88, q89, q90, c0, c1, c2, m1, m3, w1, hj63]
  refine ⟨fun hlt2 => ?_, fun hlt2 => ?_⟩
  · have e2 := w2 hlt2
    have e3 := w3 hlt2
    refine ⟨fun ha => ⟨fun hb => ?_, fun hb => ?_⟩, fun ha => ?_⟩
    · simp only [e2, e3]
      refine loop_on ⟨rfl, t + 1, by omega, .inr ⟨hc0, hc1, by omega⟩, rfl, ?_, q23, q3, q4, q5, q13, q15, q16, q17, q18, q19, q20, q88, q89, q90⟩ ?_
      · rw [if_pos ⟨hc0, hc1⟩, hin hlt2 ha hb, ← Int.add_assoc]; rfl
      · simp only [q24]
        show (u.from_ + u.long - (t + 1)).toNat < _
        omega
    · simp only [e2]
      refine loop_on ⟨rfl, t + 1, by omega, .inr ⟨hc0, hc1, by omega⟩, rfl, ?_, q23, q3, q4, q5, q13, q15, q16, q17, q18, q19, q20, q88, q89, q90⟩ ?_
      · rw [if_pos ⟨hc0, hc1⟩, hou hlt2 (fun h => hb h.2)]; exact q21
      · simp only [q24]
        show (u.from_ + u.long - (t + 1)).toNat < _
        omega
    · simp only [e2]
      refine loop_on ⟨rfl, t + 1, by omega, .inr ⟨hc0, hc1, by omega⟩, rfl, ?_, q23, q3, q4, q5, q13, q15, q16, q17, q18, q19, q20, q88, q89, q90⟩ ?_
      · rw [if_pos ⟨hc0, hc1⟩, hou hlt2 (fun h => ha h.1)]; exact q21
      · simp only [q24]
        show (u.from_ + u.long - (t + 1)).toNat < _
        omega
  · have et : t = u.from_ + u.long := by omega
    subst et
    refine range_on k90 hlt rfl ⟨hxC, hkC, hvC, q3, q4, q5, q13, q15, q16, q17, q18, q19, q20, ?_, q88, q89, rfl⟩
    refine q21.trans (congrArg some (congrArg _ ?_))
    rw [hw, hbe]
end
end Go.Proofs.Ytjohiapgancocaa.Ab
