/- Tools: the law of plans. -/
import Derived.Test.YtjohiapgancocaaTpH
namespace Go.Proofs.Ytjohiapgancocaa.Ab
open Go.RowKit
set_option linter.unusedVariables false
set_option linter.unusedSimpArgs false
set_option maxRecDepth 100000

theorem planGo_len (l : List Tk) : ∀ (r : List Tk) (out : List Int) (used : List Us), (planGo l r out used).1.length ≤ out.length + r.length
  | [], out, used => by simp [planGo]
  | t :: r, out, used => by
    rw [planGo]
    simp only
    split
    · simp
    · split
      · split
        · simp
        · refine Nat.le_trans (planGo_len l r _ _) ?_; simp; omega
      · refine Nat.le_trans (planGo_len l r _ _) ?_; simp; omega
theorem planR_len (l : List Tk) : (planR l).1.length ≤ 60 := by
  rw [planR]
  split
  · simp
  · rename_i h
    have := planGo_len l l [] []
    have := (taskE_all (l := l) (by simpa using h)).1
    simp at *; omega

section
variable {G : Gl} {fl : Nat} {A : Hp}

theorem plan_sl (r : List Int × Int) : Sl (planH A r) 1 (planV A r) (r.1.map ic) := by
  unfold planH planV
  by_cases h : r.1 = []
  · rw [if_pos h, if_pos h, h]; exact ⟨by simp, .inl ⟨rfl, rfl⟩⟩
  · rw [if_neg h, if_neg h]
    exact ⟨by simp [ic], .inr (.inr ⟨_, _, _, 0, _, rfl, by simp, rfl, by rw [Hp.push_blk, if_pos rfl], fun j x hj => by simpa using hj⟩)⟩
theorem plan_xt (r : List Int × Int) : Xt A.next A (planH A r) := by
  unfold planH
  split
  · exact Xt.refl A
  · exact (Xt.refl A).push _
theorem plan_lt {r : List Int × Int} {a : Addr} {n c : Nat} (h : planV A r = .slice (some a) n c) : a.block < (planH A r).next := by
  unfold planV at h
  unfold planH
  split at h
  · cases h
  · rename_i hr
    cases h
    rw [if_neg hr]; simp
theorem Tks.xt {B : Hp} {v : Value} {l : List Tk} (hA : Hok fl A) (h : Tks A v l) (x : Xt A.next A B) : Tks B v l := ⟨h.sl.xt hA x, fun t ht => (h.each t ht).xt hA x, h.len⟩

/-- The law of Plan, Right and End. -/
theorem toolsPlans_calls {v w : Value} {l : List Tk} {s : List Int} (hlm : l.length ≤ 9223372036854775807) (hs : Tks A v l) (hw : Sl A 1 w (s.map ic)) :
    ∀ (μ : Mu) (wd : World) (args' : Array Value), HR G μ fl A wd → fl ≤ A.next → VRa μ A [v, w].toArray args' →
    Calls Try.prog 5 args' wd fun e w' => ∃ u, e = .returned u ∧ ∃ ν, VR ν A (.bool true) u ∧ HR G ν fl A w' ∧ Trans fl μ A wd ν A w' := by
  refine calls_of mixed Try.func5 Try.ntmps5 Try.results5 (by kernel_rfl) rfl (by kernel_rfl) (by simp) fun hA => ?_
  simp only [↓R1, R2, R3, R4, TY, reduceIte, Nat.reduceEqDiff, Nat.reduceAdd, Nat.reduceMul, Nat.reduceLT, Nat.reduceLeDiff, reduceCtorEq, decide_true, decide_false]
  refine call_of (plan_ok hs) ?_
  simp only [↓R1, R2, R3, R4, TY, reduceIte, Nat.reduceEqDiff, Nat.reduceAdd, Nat.reduceMul, Nat.reduceLT, Nat.reduceLeDiff, reduceCtorEq, decide_true, decide_false]
  have s1 := plan_sl (A := A) (planR l)
  have x1 := plan_xt (A := A) (planR l)
  have t1 := fun a n c => plan_lt (A := A) (r := planR l) (a := a) (n := n) (c := c)
  generalize planH A (planR l) = B1 at s1 x1 t1 ⊢
  generalize planV A (planR l) = v1 at s1 t1 ⊢
  refine call_of (planOf_ok (hs.xt hA x1)) ?_
  simp only [↓R1, R2, R3, R4, TY, reduceIte, Nat.reduceEqDiff, Nat.reduceAdd, Nat.reduceMul, Nat.reduceLT, Nat.reduceLeDiff, reduceCtorEq, decide_true, decide_false]
  have s2 := plan_sl (A := B1) (planR l)
  have x2 := plan_xt (A := B1) (planR l)
  have t2 := fun a n c => plan_lt (A := B1) (r := planR l) (a := a) (n := n) (c := c)
  generalize planH B1 (planR l) = B2 at s2 x2 t2 ⊢
  generalize planV B1 (planR l) = v2 at s2 t2 ⊢
  have s1' := s1.keep x2.next fun a n c e => x2.blk _ (t1 a n c e)
  refine call_of tooled_ok ?_
  simp only [↓R1, R2, R3, R4, TY, reduceIte, Nat.reduceEqDiff, Nat.reduceAdd, Nat.reduceMul, Nat.reduceLT, Nat.reduceLeDiff, reduceCtorEq, decide_true, decide_false]
  refine call_of (equalI_ok (by have := planR_len l; omega) s1' s2) ?_
  simp only [↓R1, R2, R3, R4, TY, reduceIte, Nat.reduceEqDiff, Nat.reduceAdd, Nat.reduceMul, Nat.reduceLT, Nat.reduceLeDiff, reduceCtorEq, decide_true, decide_false]
  obtain ⟨o', c', rfl⟩ := hw.len
  obtain ⟨o3, c3, rfl⟩ := s2.len
  rw [List.length_map] at hw s2 ⊢
  rw [List.length_map]
  have hz2 : zl [.slice none 0 0] 2 = [.slice none 0 0, .slice none 0 0] := rfl
  simp only [↓R1, R2, R3, R4, TY, reduceIte, Nat.reduceEqDiff, Nat.reduceAdd, Nat.reduceMul, Nat.reduceLT, Nat.reduceLeDiff, reduceCtorEq, decide_true, decide_false, hz2]
  have t1w : ∀ a n c, Value.slice o' s.length c' = .slice (some a) n c → a.block < A.next := fun a n c e => by rw [e] at hw; exact hw.lt hA
  have hws : ∃ (ws : Nat → Value) (ss : Nat → List Int), (∀ j, j < 2 → (B2.push (.row [.slice o' s.length c', .slice o3 (planR l).1.length c3] 0 1)).get G ⟨B2.next, j, some 0⟩ = some (ws j)) ∧ (∀ j, j < 2 → Sl B2 1 (ws j) ((ss j).map ic)) ∧ (∀ j a n c, j < 2 → ws j = .slice (some a) n c → a.block < B2.next) := by
    refine ⟨fun j => if j = 0 then .slice o' s.length c' else .slice o3 (planR l).1.length c3, fun j => if j = 0 then s else (planR l).1, fun j hj => ?_, fun j hj => ?_, fun j a n c hj e => ?_⟩
    · match j, hj with
      | 0, _ => simp [Hp.get, Hp.push_blk]
      | 1, _ => simp [Hp.get, Hp.push_blk]
    · simp only
      split
      · exact hw.xt hA (x1.trans x2)
      · exact s2
    · simp only at e
      split at e
      · exact Nat.lt_of_lt_of_le (t1w a n c e) (x1.trans x2).next
      · exact t2 a n c (by rw [List.length_map]; exact e)
  obtain ⟨ws, ss, hget, hsl, hslt⟩ := hws
  have hx3 : Xt A.next A (B2.push (.row [.slice o' s.length c', .slice o3 (planR l).1.length c3] 0 1)) := (x1.trans x2).push _
  have hx32 : Xt B2.next B2 (B2.push (.row [.slice o' s.length c', .slice o3 (planR l).1.length c3] 0 1)) := (Xt.refl _).push _
  have hn3 : (B2.push (.row [.slice o' s.length c', .slice o3 (planR l).1.length c3] 0 1)).next = B2.next + 1 := rfl
  obtain ⟨ov, cv, rfl⟩ : ∃ ov cv, v = .slice ov l.length cv := by obtain ⟨ov, cv, h⟩ := hs.sl.len; exact ⟨ov, cv, by rw [h, List.length_map]⟩
  have hrow : eszOK (B2.push (.row [.slice o' s.length c', .slice o3 (planR l).1.length c3] 0 1)) B2.next 1 = True := by simp [eszOK, Hp.push_blk]
  generalize (B2.push (.row [.slice o' s.length c', .slice o3 (planR l).1.length c3] 0 1)) = B3 at hget hx3 hx32 hn3 hrow ⊢
  refine range_of 44 2 (fun j τ B => Xt B3.next B3 B ∧ τ 0 = some (.slice ov l.length cv) ∧ τ 42 = some (.slice (some ⟨B2.next, 0, some 0⟩) 2 2) ∧ τ 43 = some (.int .i64 2) ∧ τ 44 = some (.int .i64 j)) ?_ ?_
  · exact ⟨Xt.refl _, rfl, rfl, rfl, rfl⟩
  rintro j τ B hj ⟨hx, q0, q42, q43, q44⟩
  have hc2 : ((j : Int) < 2) = (j < 2) := propext (by omega)
  simp only [↓R1, R2, R3, R4, TY, reduceIte, Nat.reduceEqDiff, Nat.reduceAdd, Nat.reduceMul, Nat.reduceLT, Nat.reduceLeDiff, reduceCtorEq, decide_true, decide_false, q0, q42, q43, q44, hc2]
  refine ⟨fun hlt => ?_, fun hlt => Ended.back hA (hx3.trans hx) rfl (RB.bool _)⟩
  have g := hget j hlt
  have g' := (hx.get (G := G) (a := ⟨B2.next, j, some 0⟩) (by simp only; omega)).trans g
  have hs3 := (hsl j hlt).keep (A' := B) (by have := hx.next; omega) fun a n c e => (hx32.trans hx).blk _ (hslt j a n c hlt e)
  have hnx := hx.next
  have hbn : B2.next < B.next := by omega
  have hes := hx.esz (id := B2.next) (sz := 1) (by omega)
  have hsB := hs.xt hA (hx3.trans hx)
  have hult := hslt j
  generalize ws j = u at g' hs3 hult
  generalize ss j = r at hs3
  simp only [↓R1, R2, R3, R4, TY, reduceIte, Nat.reduceEqDiff, Nat.reduceAdd, Nat.reduceMul, Nat.reduceLT, Nat.reduceLeDiff, reduceCtorEq, decide_true, decide_false, q0, q42, q43, q44, hlt, g', hbn, hes, hrow]
  refine call_of (startsFit_ok hsB hs3) ?_
  simp only [↓R1, R2, R3, R4, TY, reduceIte, Nat.reduceEqDiff, Nat.reduceAdd, Nat.reduceMul, Nat.reduceLT, Nat.reduceLeDiff, reduceCtorEq, decide_true, decide_false, q0, q42, q43, q44]
  refine call_of (end_ok hsB hs3) ?_
  simp only [↓R1, R2, R3, R4, TY, reduceIte, Nat.reduceEqDiff, Nat.reduceAdd, Nat.reduceMul, Nat.reduceLT, Nat.reduceLeDiff, reduceCtorEq, decide_true, decide_false, q0, q42, q43, q44]
  obtain ⟨ou, cu, rfl⟩ := hs3.len
  rw [List.length_map] at hs3 hult ⊢
  refine range_of 59 l.length (fun i τ C => Xt B.next B C ∧ τ 0 = some (.slice ov l.length cv) ∧ τ 10 = some (.slice ou r.length cu) ∧ τ 11 = some (.bool (decide (right l r))) ∧ τ 12 = some (.int .i64 (endR l r).1) ∧ τ 13 = some (.int .i64 (endR l r).2) ∧
    τ 14 = some (.int .i64 (if right l r then endTo l r i else 0)) ∧ τ 42 = some (.slice (some ⟨B2.next, 0, some 0⟩) 2 2) ∧ τ 43 = some (.int .i64 2) ∧ τ 44 = some (.int .i64 j) ∧ τ 57 = some (.slice ov l.length cv) ∧ τ 58 = some (.int .i64 l.length) ∧ τ 59 = some (.int .i64 i)) ?_ ?_
  · refine ⟨Xt.refl _, q0, rfl, rfl, rfl, rfl, ?_, q42, q43, q44, rfl, rfl, rfl⟩
    simp [upd, endTo]
  rintro i τ' C hi ⟨hxC, r0, r10, r11, r12, r13, r14, r42, r43, r44, r57, r58, r59⟩
  simp only [↓R1, R2, R3, R4, TY, reduceIte, Nat.reduceEqDiff, Nat.reduceAdd, Nat.reduceMul, Nat.reduceLT, Nat.reduceLeDiff, reduceCtorEq, decide_true, decide_false, r0, r10, r11, r12, r13, r14, r42, r43, r44, r57, r58, r59]
  have hxAC := (hx3.trans hx).trans hxC
  have hsC := hs.xt hA hxAC
  have hs3C := hs3.keep hxC.next fun a n c e => hxC.blk _ (Nat.lt_of_lt_of_le (hult a n c hlt e) (by omega))
  refine ⟨fun hil => ?_, fun hil => ?_⟩
  · obtain ⟨a, rfl, -⟩ := hsC.sl.at (G := G) (i := i) (by simpa using hil)
    obtain ⟨g0, g1, g2⟩ := tk_get (G := G) hsC.sl hil
    have hab : a.block < C.next := Nat.lt_of_lt_of_le (hs.sl.lt hA) hxAC.next
    have hfl : fl ≤ C.next := Nat.le_trans hA.floor hxAC.next
    obtain ⟨o2, c2, hav⟩ := (hs.each l[i] (List.getElem_mem _)).len
    rw [hav] at g2
    have hj63 : i < 9223372036854775807 := by omega
    by_cases hr : right l r
    rotate_left
    · rw [if_neg hr] at r14
      simp only [↓R1, R2, R3, R4, TY, reduceIte, Nat.reduceEqDiff, Nat.reduceAdd, Nat.reduceMul, Nat.reduceLT, Nat.reduceLeDiff, reduceCtorEq, decide_true, decide_false, r0, r10, r11, r12, r13, r14, r42, r43, r44, r57, r58, r59, hil, hab, hfl, g0, g1, g2, hr, hj63]
      refine range_on r59 hil rfl ⟨by simp (maxDischargeDepth := 20) only [xt_push, xt_put, hxC, hxC.next], r0, r10, by simpa [upd, hr] using r11, r12, r13, ?_, r42, r43, r44, r57, r58, rfl⟩
      exact r14
    rw [if_pos hr] at r14
    obtain ⟨he, hls, hfit, -⟩ := id hr
    obtain ⟨hl60, htk⟩ := taskE_all he
    have hil' : i < r.length := by omega
    obtain ⟨a', rfl, -⟩ := hs3C.at (G := G) (i := i) (by simpa using hil')
    have gs := int_get (G := G) hs3C hil'
    have hab' : a'.block < C.next := by have := hult a' _ _ hlt rfl; have := hxC.next; omega
    obtain ⟨hnb, haf⟩ := htk i hil
    simp only [Tk.bad] at hnb
    obtain ⟨p1, p2, -⟩ := (fits_iff hil hil').1 (hfit i hil)
    have hw2 : IntKind.i64.wrap (r[i] + l[i].long) = r[i] + l[i].long := wrapI (by omega)
    simp only [↓R1, R2, R3, R4, TY, reduceIte, Nat.reduceEqDiff, Nat.reduceAdd, Nat.reduceMul, Nat.reduceLT, Nat.reduceLeDiff, reduceCtorEq, decide_true, decide_false, r0, r10, r11, r12, r13, r14, r42, r43, r44, r57, r58, r59, hil, hil', gs, hab, hab', hfl, g0, g1, g2, hr, hw2, if_max2, hj63]
    refine range_on r59 hil rfl ⟨by simp (maxDischargeDepth := 20) only [xt_push, xt_put, hxC, hxC.next], r0, r10, by simpa [upd, hr] using r11, r12, r13, ?_, r42, r43, r44, r57, r58, rfl⟩
    rw [endTo_at hil hil']; rfl
  · obtain rfl : i = l.length := by omega
    refine call_of (right_ok hsC hs3C) ?_
    simp only [↓R1, R2, R3, R4, TY, reduceIte, Nat.reduceEqDiff, Nat.reduceAdd, Nat.reduceMul, Nat.reduceLT, Nat.reduceLeDiff, reduceCtorEq, decide_true, decide_false, r0, r10, r11, r12, r13, r14, r42, r43, r44, r57, r58, r59]
    rw [show (decide (right l r) == decide (right l r)) = true by simp]
    simp only [↓R1, R2, R3, R4, TY, reduceIte, Nat.reduceEqDiff, Nat.reduceAdd, Nat.reduceMul, Nat.reduceLT, Nat.reduceLeDiff, reduceCtorEq, decide_true, decide_false, r0, r10, r11, r12, r13, r14, r42, r43, r44, r57, r58, r59]
    have e1 : (endR l r).1 = if right l r then endTo l r l.length else 0 := by rw [endR]; split <;> rfl
    refine ⟨fun _ => ?_, fun h => absurd e1 h⟩
    have hw1 : ((j : Int) + 1) = ((j + 1 : Nat) : Int) := by omega
    have hj63 : j < 9223372036854775807 := by omega
    by_cases hr : right l r
    · have e2 : (endR l r).2 = 0 := by rw [endR, if_pos hr]
      rw [show (decide ((endR l r).2 = 0) == decide (right l r)) = true by simp [e2, hr]]
      simp only [↓R1, R2, R3, R4, TY, reduceIte, Nat.reduceEqDiff, Nat.reduceAdd, Nat.reduceMul, Nat.reduceLT, Nat.reduceLeDiff, reduceCtorEq, decide_true, decide_false, r0, r10, r11, r12, r13, r14, r42, r43, r44, r57, r58, r59, hr, e2, hj63]
      exact range_on q44 hlt rfl ⟨hx.trans hxC, r0, r42, r43, rfl⟩
    · have e2 : (endR l r).2 = 1 := by rw [endR, if_neg hr]
      rw [show (decide ((endR l r).2 = 0) == decide (right l r)) = true by simp [e2, hr]]
      simp only [↓R1, R2, R3, R4, TY, reduceIte, Nat.reduceEqDiff, Nat.reduceAdd, Nat.reduceMul, Nat.reduceLT, Nat.reduceLeDiff, reduceCtorEq, decide_true, decide_false, r0, r10, r11, r12, r13, r14, r42, r43, r44, r57, r58, r59, hr, e2, hj63]
      exact range_on q44 hlt rfl ⟨hx.trans hxC, r0, r42, r43, rfl⟩
end
end Go.Proofs.Ytjohiapgancocaa.Ab
