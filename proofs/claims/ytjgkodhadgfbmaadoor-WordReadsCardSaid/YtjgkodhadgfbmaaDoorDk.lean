/- Words: the law of Read. -/
import Derived.Test.YtjgkodhadgfbmaaDoorDj
namespace Go.Proofs.YtjgkodhadgfbmaaDoor.Ab
open Go.RowKit
set_option linter.unusedVariables false
set_option linter.unusedSimpArgs false
set_option maxRecDepth 100000

section
variable {G : Gl} {fl : Nat} {A : Hp}
theorem word_get {B : Hp} {a : Addr} {n c : Nat} {l : List Wd} (h : Sl B 3 (.slice (some a) n c) (l.map wC)) {i : Nat} (hi : i < l.length) :
    B.get G (aadd a (i * 3)) = some (.int .i64 (l[i].kind : Int)) ∧ B.get G (aadd a (i * 3 + 1)) = some (.int .i64 (l[i].at_ : Int)) ∧ B.get G (aadd a (i * 3 + 2)) = some (.string (S l[i].text)) := by
  obtain ⟨a', h1, h2⟩ := h.at (G := G) (i := i) (by simpa using hi)
  cases h1
  simp only [List.getElem_map] at h2
  exact ⟨h2 0 _ rfl, h2 1 _ rfl, h2 2 _ rfl⟩
theorem equalW_ok {v1 v2 : Value} {l1 l2 : List Wd} (hl : l1.length < 9223372036854775807) (h1 : Sl A 3 v1 (l1.map wC)) (h2 : Sl A 3 v2 (l2.map wC)) : Sound Tryd.prog G 14 [v1, v2] fl A (.bool (decide (l1 = l2))) A := by
  refine Sound.of mixed Tryd.func14 Tryd.ntmps14 Tryd.results14 (by kernel_rfl) rfl (by kernel_rfl) (by kernel_rfl) fun hA => ?_
  obtain ⟨o1, c1, rfl⟩ := h1.len
  obtain ⟨o2, c2, rfl⟩ := h2.len
  rw [List.length_map] at h1 h2 ⊢
  rw [List.length_map]
  simp only [↓R1, R2, R3, R4, TY, reduceIte, Nat.reduceEqDiff, Nat.reduceAdd, Nat.reduceMul, Nat.reduceLT, Nat.reduceLeDiff, reduceCtorEq, decide_true, decide_false, Int.reduceLE, Int.reduceLT, Int.reduceToNat, Int.reduceAdd, Int.reduceSub, Int.reduceMul, Int.reduceEq]
  have hcast : ((l1.length : Int) = (l2.length : Int)) = (l1.length = l2.length) := propext Int.ofNat_inj
  simp only [hcast]
  refine ⟨fun he => ?_, fun he => ?_⟩
  rotate_left
  · exact Ended.back hA (Xt.refl A) (congrArg _ (dec_f fun h => he (by rw [h]))) (RB.bool _)
  refine range_of 13 l1.length (fun j τ B => B = A ∧ τ 0 = some (.slice o1 l1.length c1) ∧ τ 1 = some (.slice o2 l2.length c2) ∧ τ 12 = some (.int .i64 l1.length) ∧ τ 13 = some (.int .i64 j) ∧ l1.take j = l2.take j) ?_ ?_
  · exact ⟨rfl, rfl, rfl, rfl, rfl, rfl⟩
  rintro j τ B hj ⟨rfl, q0, q1, q12, q13, hpre⟩
  simp only [↓R1, R2, R3, R4, TY, reduceIte, Nat.reduceEqDiff, Nat.reduceAdd, Nat.reduceMul, Nat.reduceLT, Nat.reduceLeDiff, reduceCtorEq, decide_true, decide_false, Int.reduceLE, Int.reduceLT, Int.reduceToNat, Int.reduceAdd, Int.reduceSub, Int.reduceMul, Int.reduceEq, q0, q1, q12, q13]
  refine ⟨fun hlt => ?_, fun hlt => ?_⟩
  rotate_left
  · refine Ended.back hA (Xt.refl _) (congrArg _ (dec_t ?_)) (RB.bool _)
    rwa [List.take_of_length_le (by omega), List.take_of_length_le (by omega)] at hpre
  have hlt2 : j < l2.length := by omega
  obtain ⟨a1, rfl, -⟩ := h1.at (G := G) (i := j) (by simpa using hlt)
  obtain ⟨a2, rfl, -⟩ := h2.at (G := G) (i := j) (by simpa using hlt2)
  obtain ⟨g0, g1, g2⟩ := word_get (G := G) h1 hlt
  obtain ⟨k0, k1, k2⟩ := word_get (G := G) h2 hlt2
  have hj63 : j < 9223372036854775807 := by omega
  have hgt : Tryd.prog.eqGuardType Tryd.prog.depth 32 = false := by kernel_rfl
  have heq := eqD_word l1[j] l2[j]
  simp only [wC] at heq
  simp only [↓R1, R2, R3, R4, TY, reduceIte, Nat.reduceEqDiff, Nat.reduceAdd, Nat.reduceMul, Nat.reduceLT, Nat.reduceLeDiff, reduceCtorEq, decide_true, decide_false, Int.reduceLE, Int.reduceLT, Int.reduceToNat, Int.reduceAdd, Int.reduceSub, Int.reduceMul, Int.reduceEq, q0, q1, q12, q13, hlt, hlt2, g0, g1, g2, k0, k1, k2, hgt, heq, hj63]
  refine ⟨fun hc => ?_, fun hc => ?_⟩
  · refine range_on q13 hlt rfl ⟨rfl, q0, q1, q12, rfl, ?_⟩
    rw [List.take_succ_eq_append_getElem hlt, List.take_succ_eq_append_getElem hlt2, hpre, hc]
  · refine Ended.back hA (Xt.refl _) (congrArg _ (dec_f fun h => hc ?_)) (RB.bool _)
    subst h; rfl

theorem wordReads_calls {l1 : List UInt8} (h0 : l1.length ≤ 9223372036854775807) :
    ∀ (μ : Mu) (w : World) (args' : Array Value), HR G μ fl A w → fl ≤ A.next → VRa μ A [.string (S l1)].toArray args' →
    Calls Tryd.prog 4 args' w fun e w' => ∃ u, e = .returned u ∧ ∃ ν, VR ν A (.bool true) u ∧ HR G ν fl A w' ∧ Trans fl μ A w ν A w' := by
  generalize l1 = l at *
  refine calls_of mixed Tryd.func4 Tryd.ntmps4 Tryd.results4 (by kernel_rfl) rfl (by kernel_rfl) (by kernel_rfl) fun hA => ?_
  have fin : ∀ (b : Bool) (B : Hp), Xt A.next A B → b = true → Ended A (.bool b) B (.bool true) A := fun b B hx hb => Ended.back hA hx (congrArg _ hb) (RB.bool _)
  have h3 : ∀ c ∈ (readR l).1.map wC, c.length = 3 := fun c hc => by obtain ⟨x, _, rfl⟩ := List.mem_map.1 hc; rfl
  simp only [↓R1, R2, R3, R4, TY, reduceIte, Nat.reduceEqDiff, Nat.reduceAdd, Nat.reduceMul, Nat.reduceLT, Nat.reduceLeDiff, reduceCtorEq, decide_true, decide_false, Int.reduceLE, Int.reduceLT, Int.reduceToNat, Int.reduceAdd, Int.reduceSub, Int.reduceMul, Int.reduceEq, FE]
  refine call_of (read_ok l) ?_
  have hx1 := nlH_xt (A := A) (sz := 3) (css := (readR l).1.map wC)
  have hs1 := nl_sl (A := A) h3
  have hl1 := fun a n c => nl_lt (A := A) (sz := 3) (n := n) (c := c) (a := a) (css := (readR l).1.map wC)
  generalize nlV A ((readR l).1.map wC) = v1 at *
  generalize nlH A 3 ((readR l).1.map wC) = B at *
  simp only [↓R1, R2, R3, R4, TY, reduceIte, Nat.reduceEqDiff, Nat.reduceAdd, Nat.reduceMul, Nat.reduceLT, Nat.reduceLeDiff, reduceCtorEq, decide_true, decide_false, Int.reduceLE, Int.reduceLT, Int.reduceToNat, Int.reduceAdd, Int.reduceSub, Int.reduceMul, Int.reduceEq, FE]
  refine call_of (wordsOf_ok l) ?_
  have hx2 := nlH_xt (A := B) (sz := 3) (css := (readR l).1.map wC)
  have hs2 := nl_sl (A := B) h3
  have hs1' : Sl (nlH B 3 ((readR l).1.map wC)) 3 v1 ((readR l).1.map wC) := hs1.keep hx2.next fun a n c e => hx2.blk _ (hl1 a n c e)
  generalize nlV B ((readR l).1.map wC) = v2 at *
  generalize nlH B 3 ((readR l).1.map wC) = C at *
  have hxAC : Xt A.next A C := ⟨fun id hid => (hx2.blk id (by have := hx1.next; omega)).trans (hx1.blk id hid), by have := hx1.next; have := hx2.next; omega⟩
  simp only [↓R1, R2, R3, R4, TY, reduceIte, Nat.reduceEqDiff, Nat.reduceAdd, Nat.reduceMul, Nat.reduceLT, Nat.reduceLeDiff, reduceCtorEq, decide_true, decide_false, Int.reduceLE, Int.reduceLT, Int.reduceToNat, Int.reduceAdd, Int.reduceSub, Int.reduceMul, Int.reduceEq, FE]
  refine call_of worded_ok ?_
  simp only [↓R1, R2, R3, R4, TY, reduceIte, Nat.reduceEqDiff, Nat.reduceAdd, Nat.reduceMul, Nat.reduceLT, Nat.reduceLeDiff, reduceCtorEq, decide_true, decide_false, Int.reduceLE, Int.reduceLT, Int.reduceToNat, Int.reduceAdd, Int.reduceSub, Int.reduceMul, Int.reduceEq, FE]
  refine call_of (equalW_ok ?_ hs1' hs2) ?_
  · have := readR_len l
    omega
  simp only [↓R1, R2, R3, R4, TY, reduceIte, Nat.reduceEqDiff, Nat.reduceAdd, Nat.reduceMul, Nat.reduceLT, Nat.reduceLeDiff, reduceCtorEq, decide_true, decide_false, Int.reduceLE, Int.reduceLT, Int.reduceToNat, Int.reduceAdd, Int.reduceSub, Int.reduceMul, Int.reduceEq, FE]
  exact fin _ _ hxAC rfl
end
end Go.Proofs.YtjgkodhadgfbmaaDoor.Ab
