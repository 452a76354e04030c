/- Tools: Book. -/
import Derived.Test.YtjohiapgancocaaTlE
import Derived.Test.YtjohiapgancocaaTlF
import Derived.Test.YtjohiapgancocaaLa
namespace Go.Proofs.Ytjohiapgancocaa.Ab
open Go.RowKit
set_option linter.unusedVariables false
set_option linter.unusedSimpArgs false
set_option maxRecDepth 100000

section
variable {G : Gl} {fl : Nat} {A : Hp}
theorem Sound.ofA {P : Program} {f : FuncId} {fn : Func} {c0 : Code} {rs : Array ResultVar} {nt : Nat} {args : List Value} {fl : Nat} {A C : Hp} {v : Value} (ids : List Nat) (hmx : P.follows .mixedOrders = true) (hf : P.funcs[f]? = some fn) (hnt : fn.ntmps = nt) (hrs : fn.results = rs)
    (hname : (fn.name == "runtime.NumGoroutine") = false) (hb : fn.body = some c0) (hu : unmark (markA ids c0) = c0) (hok : okCode P nt (markA ids c0) = true) (hn : okArgs0 (markA ids c0) nt args.length = true)
    (h : Hok fl A → acode P G fl (markA ids c0) (slots0 args) A (done fun τ B => @aRes G P τ B rs.toList [] ⟨fun vs => Ended A (retv vs) B v C⟩)) : Sound P G f args fl A v C :=
  Sound.ofM hmx hf hnt hrs hname hb hu hok hn h
theorem Ended.acnT {B : Hp} {sz : Nat} {v : Value} {us : List Value} {css : List (List Value)} (hA : Hok fl A) (x : Xt A.next A B) (h : Acn B A.next sz v css) (hr : ∀ c ∈ css, ∀ u ∈ c, RB A.next u) (hu : ∀ u ∈ us, RB A.next u) :
    Ended A (.tuple (v :: us).toArray) B (.tuple (nlV A css :: us).toArray) (nlH A sz css) := by
  unfold nlV nlH
  split
  · rename_i h0
    rw [h.nil h0]
    refine Ended.back hA x rfl (RB.tuple fun w hw => ?_)
    simp only [List.mem_cons] at hw
    rcases hw with rfl | hw
    · exact RB.sl0 _ _
    · exact hu w hw
  · rename_i h0
    obtain ⟨id, g, c, rfl, h2, h3, h4, h5⟩ := h.has h0
    refine ⟨_, told_one hA x h3 h5 (fun u hu => by obtain ⟨c, hc, hu⟩ := List.mem_flatten.1 hu; exact hr c hc u hu), .tuple (by simp) fun i hi hi' => ?_⟩
    cases i with
    | zero => exact rr_one h5 h2
    | succ i =>
      simp only [List.getElem_toArray, List.getElem_cons_succ]
      exact .same (hu _ (List.getElem_mem _))
/-- Booking's error, and the list that is told. -/
def bookE (l : List Us) (u : Us) : Int := if chk l ≠ 0 then chk l else chk (l ++ [u])
def bookL (l : List Us) (u : Us) : List Us := if bookE l u = 0 then l ++ [u] else []

theorem Ac.push {B : Hp} {lo sz : Nat} {v : Value} {css : List (List Value)} (h : Ac B lo sz v css) (k : Blk) : Ac (B.push k) lo sz v css := by
  refine ⟨h.len, h.one, ?_⟩
  rcases h.at_ with h1 | ⟨id, g, n, c, h1, h2, h3, h4, h5, h6⟩
  · exact .inl h1
  · exact .inr ⟨id, g, n, c, h1, h2, h3, by rw [Hp.push_next]; omega, by rw [Hp.push_blk, if_neg (by omega)]; exact h5, h6⟩
/-- The first append of Book: the list's elements. -/
theorem bk1 {B : Hp} {i0 n c : Nat} {o : Option Addr} {l : List Us} {u : Us} {f : Value × Hp → Prop} (hA : Hok fl A) (hl : l.length ≤ 60) (hs : Sl A 3 (.slice o n c) (l.map Us.cells)) (hx : Xt A.next A B) (hi : A.next < i0) (hn : i0 < B.next) (hb : B.blk i0 = some (.row [] 0 3)) (hu : B.blk A.next = some (.row u.cells 0 3))
    (k : ∀ v' C, Ac C A.next 3 v' (l.map Us.cells) → Xt A.next A C → (∀ i, C.get G ⟨A.next, i, some 0⟩ = u.cells[i]?) → A.next < C.next → fl ≤ C.next → (∀ id, id < B.next → id ≠ i0 → C.blk id = B.blk id) → f (v', C)) :
    @apn Try.prog G fl B #[22, 22] [.slice (some ⟨i0, 0, some 0⟩) 0 0, .slice o n c] ⟨f⟩ := by
  refine apn_of (lo := A.next) (sz := 3) ty22 rfl ty29 ty22 rfl rfl (by omega) rfl (css := []) ⟨by simp, by simp, .inr ⟨i0, 0, 0, 0, rfl, Nat.le_refl _, by omega, hn, by simpa using hb, rfl⟩⟩ hA.floor hx.next (hs.xt hA hx) (us_one l) (by simp; omega) (by simp; omega) ?_
  intro v' C hv' hxC hnC hfC _ _
  have hrest : ∀ id, id < B.next → id ≠ i0 → C.blk id = B.blk id := fun id h1 h2 => hfC id h1 fun g n c e => by cases e; exact h2 rfl
  have h1 : C.blk A.next = some (.row u.cells 0 3) := by rw [hrest _ (by omega) (by omega)]; exact hu
  have hxn := hx.next
  refine k v' C (by simpa using hv') ⟨fun id hid => by rw [hrest id (by omega) (by omega)]; exact hx.blk id hid, by omega⟩ (fun i => get_blk h1) (by omega) (by have := hA.floor; omega) hrest
/-- The second append of Book: the new element. -/
theorem bk2 {B : Hp} {i4 : Nat} {v2 : Value} {l : List Us} {u : Us} {f : Value × Hp → Prop} (hA : Hok fl A) (hl : l.length ≤ 60) (hac : Ac B A.next 3 v2 (l.map Us.cells)) (hx : Xt A.next A B) (h4 : B.blk i4 = some (.row u.cells 0 3))
    (k : ∀ v' C, Acn C A.next 3 v' ((l ++ [u]).map Us.cells) → Xt A.next A C → f (v', C)) :
    @apn Try.prog G fl B #[22, 22] [v2, .slice (some ⟨i4, 0, some 0⟩) 1 1] ⟨f⟩ := by
  refine apn_of (lo := A.next) (sz := 3) ty22 rfl ty29 ty22 rfl rfl (by omega) rfl hac hA.floor hx.next (new := [u.cells]) ⟨by simp [Us.cells], .inr (.inr ⟨_, _, _, 0, _, rfl, rfl, rfl, h4, fun j x hj => by simpa using hj⟩)⟩
    (by simpa using us_one [u]) (by simp; omega) (by simp; omega) ?_
  intro v' C hv' hxC hnC hfC _ _
  refine k v' C ⟨by simpa using hv', fun h => by simp at h⟩ ⟨fun id hid => ?_, by have := hx.next; omega⟩
  exact (hxC.blk id hid).trans (hx.blk id hid)

theorem book_ok {v : Value} {l : List Us} {u : Us} (hs : Sl A 3 v (l.map Us.cells)) :
    Sound Try.prog G 16 [v, u.val] fl A (.tuple [nlV A ((bookL l u).map Us.cells), Value.int .i64 (bookE l u)].toArray) (nlH A 3 ((bookL l u).map Us.cells)) := by
  refine Sound.ofA [4] mixed Try.func16 Try.ntmps16 Try.results16 (by kernel_rfl) rfl (by kernel_rfl) (by kernel_rfl) (by kernel_rfl) fun hA => ?_
  have hbad : ∀ (x : Int) (B : Hp), Xt A.next A B → x ≠ 0 → bookE l u = x → Ended A (.tuple [Value.slice none 0 0, .int .i64 x].toArray) B (.tuple [nlV A ((bookL l u).map Us.cells), Value.int .i64 (bookE l u)].toArray) (nlH A 3 ((bookL l u).map Us.cells)) := by
    intro x B hx hx0 he
    rw [bookL, he, if_neg hx0]
    exact Ended.acnT (us := [.int .i64 x]) hA hx Acn.none (us_rb []) (fun w hw => by simp at hw; subst hw; exact RB.int _ _)
  simp only [Us.val, markA, List.contains_cons, List.contains_nil, Bool.or_false, Nat.reduceBEq, Bool.false_eq_true, if_true, if_false, Nat.reduceAdd]
  simp only [↓R1, R2, R3, R4, TY, reduceIte, Nat.reduceEqDiff, Nat.reduceAdd, Nat.reduceMul, Nat.reduceLT, Nat.reduceLeDiff, reduceCtorEq, decide_true, decide_false, Int.reduceLE, Int.reduceLT, Int.reduceToNat, Int.reduceAdd, Int.reduceSub, Int.reduceMul, Int.reduceEq]
  have hx1 := Xt.push (Xt.refl A) (.row [.int .i64 u.tool, .int .i64 u.from_, .int .i64 u.long] 0 3)
  refine call_of (check_ok (hs.xt hA hx1)) ?_
  simp only [↓R1, R2, R3, R4, TY, reduceIte, Nat.reduceEqDiff, Nat.reduceAdd, Nat.reduceMul, Nat.reduceLT, Nat.reduceLeDiff, reduceCtorEq, decide_true, decide_false, Int.reduceLE, Int.reduceLT, Int.reduceToNat, Int.reduceAdd, Int.reduceSub, Int.reduceMul, Int.reduceEq]
  refine ⟨fun he => ?_, fun he => ?_⟩
  rotate_left
  · exact hbad _ _ hx1 he (by rw [bookE, if_pos he])
  obtain ⟨hl60, hval⟩ := chk_valid he
  simp only [↓R1x, R2, R3, R4, TY, reduceIte, Nat.reduceEqDiff, Nat.reduceAdd, Nat.reduceMul, Nat.reduceLT, Nat.reduceLeDiff, reduceCtorEq, decide_true, decide_false, Int.reduceLE, Int.reduceLT, Int.reduceToNat, Int.reduceAdd, Int.reduceSub, Int.reduceMul, Int.reduceEq, r_regionA]
  generalize hτ : upd _ _ _ = τ
  have q0 : τ 0 = some v := by rw [← hτ]; rfl
  have q3 : τ 3 = some (.pointer (some ⟨A.next, 0, some 0⟩)) := by rw [← hτ]; rfl
  clear hτ
  apply merge (fun τ C => ∃ v', Xt A.next A C ∧ Acn C A.next 3 v' ((l ++ [u]).map Us.cells) ∧ τ 7 = some v')
  · intro tail
    obtain ⟨o, c, rfl⟩ := hs.len
    have hfl : fl ≤ A.next := hA.floor
    refine any_of (.both 0 (.both 1 (.both 2 (.one 3 (.one 4 (.one 5 (.one 6 .leaf)))) (.one 3 (.both 2 (.one 4 (.one 5 (.one 6 .leaf))) (.one 4 (.one 2 (.one 5 (.one 6 .leaf))))))) (.one 3 (.both 1 (.both 2 (.one 4 (.one 5 (.one 6 .leaf))) (.one 4 (.one 2 (.one 5 (.one 6 .leaf))))) (.one 4 (.one 1 (.one 2 (.one 5 (.one 6 .leaf)))))))) (.both 1 (.both 0 (.both 2 (.one 3 (.one 4 (.one 5 (.one 6 .leaf)))) (.one 3 (.both 2 (.one 4 (.one 5 (.one 6 .leaf))) (.one 4 (.one 2 (.one 5 (.one 6 .leaf))))))) (.one 3 (.both 0 (.both 2 (.one 4 (.one 5 (.one 6 .leaf))) (.one 4 (.one 2 (.one 5 (.one 6 .leaf))))) (.one 4 (.one 0 (.one 2 (.one 5 (.one 6 .leaf)))))))) (.one 3 (.both 0 (.both 1 (.both 2 (.one 4 (.one 5 (.one 6 .leaf))) (.one 4 (.one 2 (.one 5 (.one 6 .leaf))))) (.one 4 (.one 1 (.one 2 (.one 5 (.one 6 .leaf)))))) (.both 1 (.both 0 (.both 2 (.one 4 (.one 5 (.one 6 .leaf))) (.one 4 (.one 2 (.one 5 (.one 6 .leaf))))) (.one 4 (.one 0 (.one 2 (.one 5 (.one 6 .leaf)))))) (.one 4 (.both 0 (.one 1 (.one 2 (.one 5 (.one 6 .leaf)))) (.one 1 (.one 0 (.one 2 (.one 5 (.one 6 .leaf)))))))))))) (by kernel_rfl) ?_
    have hz3 : zl [Value.int IntKind.i64 0, Value.int IntKind.i64 0, Value.int IntKind.i64 0] 3 = [Value.int IntKind.i64 0, Value.int IntKind.i64 0, Value.int IntKind.i64 0] := rfl
    simp only [↓R1x, R2, R3, R4, TY, reduceIte, Nat.reduceEqDiff, Nat.reduceAdd, Nat.reduceMul, Nat.reduceLT, Nat.reduceLeDiff, reduceCtorEq, decide_true, decide_false, Int.reduceLE, Int.reduceLT, Int.reduceToNat, Int.reduceAdd, Int.reduceSub, Int.reduceMul, Int.reduceEq, hz3, a_leaf, a_one, a_both, a_pick, List.getElem?_toArray, List.getElem?_cons_zero, List.getElem?_cons_succ, q0, q3, zl_zero, FE, hfl]
    repeat' with_reducible apply And.intro
    all_goals
      refine bk1 (u := u) hA hl60 hs (by simp (maxDischargeDepth := 20) only [xt_push, xt_refl]) (by first | omega | (simp only [Hp.push_next]; omega)) (by first | omega | (simp only [Hp.push_next]; omega)) (by first | (simp [Hp.push_blk]; done) | (simp [Hp.push_blk]; omega)) (by first | (simp [Hp.push_blk, Us.cells]; done) | (simp [Hp.push_blk, Us.cells]; omega)) fun v2 C hac hx hg hlt hflC hrest => ?_
      simp only [Us.cells] at hg
      have g0 := hg 0
      have g1 := hg 1
      have g2 := hg 2
      simp only [↓R1x, R2, R3, R4, TY, reduceIte, Nat.reduceEqDiff, Nat.reduceAdd, Nat.reduceMul, Nat.reduceLT, Nat.reduceLeDiff, reduceCtorEq, decide_true, decide_false, Int.reduceLE, Int.reduceLT, Int.reduceToNat, Int.reduceAdd, Int.reduceSub, Int.reduceMul, Int.reduceEq, hz3, a_leaf, a_one, a_pick, List.getElem?_toArray, List.getElem?_cons_zero, List.getElem?_cons_succ, q0, q3, zl_zero, FE, hg, g0, g1, g2, hlt, hflC]
      refine bk2 (u := u) hA hl60 (by first | exact hac | exact hac.push _) (by simp (maxDischargeDepth := 20) only [xt_push, hx, hx.next]) (by first | (simp [Hp.push_blk, Us.cells]; done) | (rw [hrest _ (by simp) (by simp)]; simp [Hp.push_blk, Us.cells])) fun v3 D hac3 hx3 => ?_
      simp only [↓R1x, R2, R3, R4, TY, reduceIte, Nat.reduceEqDiff, Nat.reduceAdd, Nat.reduceMul, Nat.reduceLT, Nat.reduceLeDiff, reduceCtorEq, decide_true, decide_false, Int.reduceLE, Int.reduceLT, Int.reduceToNat, Int.reduceAdd, Int.reduceSub, Int.reduceMul, Int.reduceEq, hz3, a_leaf, a_one, a_pick, List.getElem?_toArray, List.getElem?_cons_zero, List.getElem?_cons_succ]
      exact tail _ _ ⟨v3, hx3, hac3, rfl⟩
  · rintro τ C ⟨v', hx, hac, q7⟩
    simp only [↓R1, R2, R3, R4, TY, reduceIte, Nat.reduceEqDiff, Nat.reduceAdd, Nat.reduceMul, Nat.reduceLT, Nat.reduceLeDiff, reduceCtorEq, decide_true, decide_false, Int.reduceLE, Int.reduceLT, Int.reduceToNat, Int.reduceAdd, Int.reduceSub, Int.reduceMul, Int.reduceEq, q7]
    refine call_of (check_ok hac.sl) ?_
    simp only [↓R1, R2, R3, R4, TY, reduceIte, Nat.reduceEqDiff, Nat.reduceAdd, Nat.reduceMul, Nat.reduceLT, Nat.reduceLeDiff, reduceCtorEq, decide_true, decide_false, Int.reduceLE, Int.reduceLT, Int.reduceToNat, Int.reduceAdd, Int.reduceSub, Int.reduceMul, Int.reduceEq, q7]
    refine ⟨fun he2 => ?_, fun he2 => ?_⟩
    rotate_left
    · exact hbad _ _ hx he2 (by rw [bookE, if_neg (by simpa using he)])
    have e0 : bookE l u = 0 := by rw [bookE, if_neg (by simpa using he)]; exact he2
    have e1 : bookL l u = l ++ [u] := by rw [bookL, if_pos e0]
    rw [e0, e1]
    exact Ended.acnT (us := [.int .i64 0]) hA hx hac (us_rb _) (fun w hw => by simp at hw; subst hw; exact RB.int _ _)
end
end Go.Proofs.Ytjohiapgancocaa.Ab
