/- Tools: End; slices of numbers compared. -/
import Derived.Test.YtjohiapgancocaaTpG
namespace Go.Proofs.Ytjohiapgancocaa.Ab
open Go.RowKit
set_option linter.unusedVariables false
set_option linter.unusedSimpArgs false
set_option maxRecDepth 100000

/-- When the first tasks have ended. -/
def endTo (l : List Tk) (s : List Int) (j : Nat) : Int := (List.range j).foldl (fun m k => max m (s.getD k 0 + (l.getD k tk0).long)) 0
theorem endTo_succ {l : List Tk} {s : List Int} {j : Nat} : endTo l s (j + 1) = max (endTo l s j) (s.getD j 0 + (l.getD j tk0).long) := by
  simp [endTo, List.range_succ]
theorem endTo_at {l : List Tk} {s : List Int} {j : Nat} (h : j < l.length) (h' : j < s.length) : endTo l s (j + 1) = max (endTo l s j) (s[j] + l[j].long) := by
  rw [endTo_succ]
  simp [List.getD_eq_getElem?_getD, List.getElem?_eq_getElem h, List.getElem?_eq_getElem h']
def endR (l : List Tk) (s : List Int) : Int × Int := if right l s then (endTo l s l.length, 0) else (0, 1)

section
variable {G : Gl} {fl : Nat} {A : Hp}

theorem end_ok {v w : Value} {l : List Tk} {s : List Int} (hs : Tks A v l) (hw : Sl A 1 w (s.map ic)) :
    Sound Try.prog G 24 [v, w] fl A (.tuple [Value.int .i64 (endR l s).1, .int .i64 (endR l s).2].toArray) A := by
  refine Sound.of mixed Try.func24 Try.ntmps24 Try.results24 (by kernel_rfl) rfl (by kernel_rfl) (by simp) fun hA => ?_
  have hres : ∀ (x y : Int) (B : Hp), Xt A.next A B → endR l s = (x, y) → Ended A (.tuple [Value.int .i64 x, .int .i64 y].toArray) B (.tuple [Value.int .i64 (endR l s).1, .int .i64 (endR l s).2].toArray) A := by
    intro x y B hx he
    rw [he]
    refine Ended.back hA hx rfl (RB.tuple fun w hw => ?_)
    simp only [List.mem_cons, List.not_mem_nil, or_false] at hw
    rcases hw with rfl | rfl <;> exact RB.int _ _
  simp only [↓R1, R2, R3, R4, TY, reduceIte, Nat.reduceEqDiff, Nat.reduceAdd, Nat.reduceMul, Nat.reduceLT, Nat.reduceLeDiff, reduceCtorEq, decide_true, decide_false]
  refine call_of (right_ok hs hw) ?_
  simp only [↓R1, R2, R3, R4, TY, reduceIte, Nat.reduceEqDiff, Nat.reduceAdd, Nat.reduceMul, Nat.reduceLT, Nat.reduceLeDiff, reduceCtorEq, decide_true, decide_false]
  refine ⟨fun hr => ?_, fun hr => hres _ _ _ (Xt.refl A) (by rw [endR, if_neg hr])⟩
  obtain ⟨he, hls, hfit, -⟩ := id hr
  obtain ⟨hsl, heach, hlen⟩ := hs
  obtain ⟨o, c, rfl⟩ := hsl.len
  obtain ⟨o', c', rfl⟩ := hw.len
  rw [List.length_map] at hsl hw ⊢
  rw [List.length_map]
  obtain ⟨hl60, htk⟩ := taskE_all he
  simp only [↓R1, R2, R3, R4, TY, reduceIte, Nat.reduceEqDiff, Nat.reduceAdd, Nat.reduceMul, Nat.reduceLT, Nat.reduceLeDiff, reduceCtorEq, decide_true, decide_false]
  refine range_of 15 l.length (fun j τ B => Xt A.next A B ∧ 0 ≤ endTo l s j ∧ endTo l s j ≤ 2000 ∧ τ 1 = some (.slice o' s.length c') ∧ τ 6 = some (.int .i64 (endTo l s j)) ∧ τ 13 = some (.slice o l.length c) ∧ τ 14 = some (.int .i64 l.length) ∧ τ 15 = some (.int .i64 j)) ?_ ?_
  · exact ⟨Xt.refl A, by simp [endTo], by simp [endTo], rfl, rfl, rfl, rfl, rfl⟩
  rintro j τ B hj ⟨hx, e1, e2, q1, q6, q13, q14, q15⟩
  simp only [↓R1, R2, R3, R4, TY, reduceIte, Nat.reduceEqDiff, Nat.reduceAdd, Nat.reduceMul, Nat.reduceLT, Nat.reduceLeDiff, reduceCtorEq, decide_true, decide_false, q1, q6, q13, q14, q15]
  refine ⟨fun hlt => ?_, fun hlt => ?_⟩
  rotate_left
  · obtain rfl : j = l.length := by omega
    exact hres _ _ _ hx (by rw [endR, if_pos hr])
  have hlt' : j < s.length := by omega
  obtain ⟨a, rfl, -⟩ := hsl.at (G := G) (i := j) (by simpa using hlt)
  obtain ⟨a', rfl, -⟩ := hw.at (G := G) (i := j) (by simpa using hlt')
  have hsB := hsl.xt hA hx
  have hwB := hw.xt hA hx
  have hab : a.block < B.next := Nat.lt_of_lt_of_le (hsl.lt hA) hx.next
  have hab' : a'.block < B.next := Nat.lt_of_lt_of_le (hw.lt hA) hx.next
  have hfl : fl ≤ B.next := Nat.le_trans hA.floor hx.next
  obtain ⟨g0, g1, g2⟩ := tk_get (G := G) hsB hlt
  have gs := int_get (G := G) hwB hlt'
  have hafter := heach l[j] (List.getElem_mem _)
  obtain ⟨o2, c2, hav⟩ := hafter.len
  rw [hav] at g2
  obtain ⟨hnb, haf⟩ := htk j hlt
  simp only [Tk.bad] at hnb
  obtain ⟨p1, p2, -⟩ := (fits_iff hlt hlt').1 (hfit j hlt)
  have hj63 : j < 9223372036854775807 := by omega
  have hw2 : IntKind.i64.wrap (s[j] + l[j].long) = s[j] + l[j].long := wrapI (by omega)
  simp only [↓R1, R2, R3, R4, TY, reduceIte, Nat.reduceEqDiff, Nat.reduceAdd, Nat.reduceMul, Nat.reduceLT, Nat.reduceLeDiff, reduceCtorEq, decide_true, decide_false, q1, q6, q13, q14, q15, hlt, hlt', hab, hab', hfl, g0, g1, g2, gs, hw2, if_max2, hj63]
  refine range_on q15 hlt rfl ⟨by simp (maxDischargeDepth := 20) only [xt_push, xt_put, hx, hx.next], ?_, ?_, q1, ?_, q13, q14, rfl⟩
  · rw [endTo_at hlt hlt']; omega
  · rw [endTo_at hlt hlt']; omega
  · rw [endTo_at hlt hlt']; rfl

theorem equalI_ok {v1 v2 : Value} {l1 l2 : List Int} (hl : l1.length < 9223372036854775807) (h1 : Sl A 1 v1 (l1.map ic)) (h2 : Sl A 1 v2 (l2.map ic)) : Sound Try.prog G 22 [v1, v2] fl A (.bool (decide (l1 = l2))) A := by
  refine Sound.of mixed Try.func22 Try.ntmps22 Try.results22 (by kernel_rfl) rfl (by kernel_rfl) (by simp) fun hA => ?_
  obtain ⟨o1, c1, rfl⟩ := h1.len
  obtain ⟨o2, c2, rfl⟩ := h2.len
  rw [List.length_map] at h1 h2 ⊢
  rw [List.length_map]
  simp only [↓R1, R2, R3, R4, TY, reduceIte, Nat.reduceEqDiff, Nat.reduceAdd, Nat.reduceMul, Nat.reduceLT, Nat.reduceLeDiff, reduceCtorEq, decide_true, decide_false]
  have hcast : ((l1.length : Int) = (l2.length : Int)) = (l1.length = l2.length) := propext Int.ofNat_inj
  simp only [hcast]
  refine ⟨fun he => ?_, fun he => ?_⟩
  rotate_left
  · exact Ended.back hA (Xt.refl A) (congrArg _ (dec_f fun h => he (by rw [h]))) (RB.bool _)
  refine range_of 13 l1.length (fun j τ B => B = A ∧ τ 0 = some (.slice o1 l1.length c1) ∧ τ 1 = some (.slice o2 l2.length c2) ∧ τ 12 = some (.int .i64 l1.length) ∧ τ 13 = some (.int .i64 j) ∧ l1.take j = l2.take j) ?_ ?_
  · exact ⟨rfl, rfl, rfl, rfl, rfl, rfl⟩
  rintro j τ B hj ⟨rfl, q0, q1, q12, q13, hpre⟩
  simp only [↓R1, R2, R3, R4, TY, reduceIte, Nat.reduceEqDiff, Nat.reduceAdd, Nat.reduceMul, Nat.reduceLT, Nat.reduceLeDiff, reduceCtorEq, decide_true, decide_false, q0, q1, q12, q13]
  refine ⟨fun hlt => ?_, fun hlt => ?_⟩
  rotate_left
  · refine Ended.back hA (Xt.refl _) (congrArg _ (dec_t ?_)) (RB.bool _)
    rwa [List.take_of_length_le (by omega), List.take_of_length_le (by omega)] at hpre
  have hlt2 : j < l2.length := by omega
  obtain ⟨a1, rfl, -⟩ := h1.at (G := G) (i := j) (by simpa using hlt)
  obtain ⟨a2, rfl, -⟩ := h2.at (G := G) (i := j) (by simpa using hlt2)
  have g0 := int_get (G := G) h1 hlt
  have k0 := int_get (G := G) h2 hlt2
  have hj63 : j < 9223372036854775807 := by omega
  simp only [↓R1, R2, R3, R4, TY, reduceIte, Nat.reduceEqDiff, Nat.reduceAdd, Nat.reduceMul, Nat.reduceLT, Nat.reduceLeDiff, reduceCtorEq, decide_true, decide_false, q0, q1, q12, q13, hlt, hlt2, g0, k0, hj63]
  refine ⟨fun hc => ?_, fun hc => ?_⟩
  · refine range_on q13 hlt rfl ⟨rfl, q0, q1, q12, rfl, ?_⟩
    rw [List.take_succ_eq_append_getElem hlt, List.take_succ_eq_append_getElem hlt2, hpre, hc]
  · refine Ended.back hA (Xt.refl _) (congrArg _ (dec_f fun h => hc ?_)) (RB.bool _)
    subst h; rfl
end
end Go.Proofs.Ytjohiapgancocaa.Ab
