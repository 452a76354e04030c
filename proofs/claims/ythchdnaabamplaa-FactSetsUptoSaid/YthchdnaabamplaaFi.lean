/- Facts: the fact that opens the laws; FactClashes. -/
import Derived.Test.YthchdnaabamplaaFh
namespace Go.Proofs.Ythchdnaabamplaa.Ab
open Go.RowKit Go.Sort
set_option linter.unusedVariables false
set_option linter.unusedSimpArgs false
set_option maxRecDepth 100000

theorem fset_lit : fset [(5, 1, 0), (1, 0, 0), (1, 0, 0)] = [(1, 0, 0), (5, 1, 0)] := by
  have h1 : fvs [(5, 1, 0), (1, 0, 0), (1, 0, 0)] = [(5, 1, 0), (1, 0, 0), (1, 0, 0)] := by decide
  unfold fset
  rw [h1]
  have h2 : srt fcf [(5, 1, 0), (1, 0, 0), (1, 0, 0)] = [(1, 0, 0), (1, 0, 0), (5, 1, 0)] := by
    unfold srt
    have : ltOf fcf = fun x y => decide (flt x y) := by funext x y; exact ltFcf x y
    rw [this]
    simp [List.mergeSort, List.MergeSort.Internal.splitInTwo, flt]
  rw [h2]
  decide

section
variable {G : Gl} {fl : Nat} {A : Hp}

theorem fequal_ok {v1 v2 : Value} {l1 l2 : List Fa} (hl : l1.length < 9223372036854775807) (h1 : Sl A 3 v1 (l1.map fC)) (h2 : Sl A 3 v2 (l2.map fC)) : Sound Try.prog G 14 [v1, v2] fl A (.bool (decide (l1 = l2))) A := by
  refine Sound.of mixed Try.func14 Try.ntmps14 Try.results14 (by kernel_rfl) rfl (by kernel_rfl) (by kernel_rfl) fun hA => ?_
  obtain ⟨o1, c1, rfl⟩ := h1.len
  obtain ⟨o2, c2, rfl⟩ := h2.len
  rw [List.length_map] at h1 h2 ⊢
  rw [List.length_map]
  simp only [↓R1, R2, R3, R4, TY, reduceIte, Nat.reduceEqDiff, Nat.reduceAdd, Nat.reduceMul, Nat.reduceLT, Nat.reduceLeDiff, reduceCtorEq, decide_true, decide_false, Int.reduceLE, Int.reduceLT, Int.reduceToNat, Int.reduceAdd, Int.reduceSub, Int.reduceMul, Int.reduceEq, FE]
  have hcast : ((l1.length : Int) = (l2.length : Int)) = (l1.length = l2.length) := propext Int.ofNat_inj
  simp only [hcast]
  refine ⟨fun he => ?_, fun he => ?_⟩
  rotate_left
  · exact Ended.back hA (Xt.refl A) (congrArg _ (dec_f fun h => he (by rw [h]))) (RB.bool _)
  refine range_of 13 l1.length (fun j τ B => B = A ∧ τ 0 = some (.slice o1 l1.length c1) ∧ τ 1 = some (.slice o2 l2.length c2) ∧ τ 12 = some (.int .i64 l1.length) ∧ τ 13 = some (.int .i64 j) ∧ l1.take j = l2.take j) ?_ ?_
  · exact ⟨rfl, rfl, rfl, rfl, rfl, rfl⟩
  rintro j τ B hj ⟨rfl, q0, q1, q12, q13, hpre⟩
  simp only [↓R1, R2, R3, R4, TY, reduceIte, Nat.reduceEqDiff, Nat.reduceAdd, Nat.reduceMul, Nat.reduceLT, Nat.reduceLeDiff, reduceCtorEq, decide_true, decide_false, Int.reduceLE, Int.reduceLT, Int.reduceToNat, Int.reduceAdd, Int.reduceSub, Int.reduceMul, Int.reduceEq, FE, q0, q1, q12, q13]
  refine ⟨fun hlt => ?_, fun hlt => ?_⟩
  rotate_left
  · refine Ended.back hA (Xt.refl _) (congrArg _ (dec_t ?_)) (RB.bool _)
    rwa [List.take_of_length_le (by omega), List.take_of_length_le (by omega)] at hpre
  have hlt2 : j < l2.length := by omega
  obtain ⟨a1, rfl, -⟩ := h1.at (G := G) (i := j) (by simpa using hlt)
  obtain ⟨a2, rfl, -⟩ := h2.at (G := G) (i := j) (by simpa using hlt2)
  obtain ⟨g0, g1, g2⟩ := fa3_get (G := G) h1 hlt
  obtain ⟨k0, k1, k2⟩ := fa3_get (G := G) h2 hlt2
  have hj63 : j < 9223372036854775807 := by omega
  have hgt := guard_fact
  have heq := eqD_fact l1[j] l2[j]
  simp only [fV] at heq
  simp only [↓R1, R2, R3, R4, TY, reduceIte, Nat.reduceEqDiff, Nat.reduceAdd, Nat.reduceMul, Nat.reduceLT, Nat.reduceLeDiff, reduceCtorEq, decide_true, decide_false, Int.reduceLE, Int.reduceLT, Int.reduceToNat, Int.reduceAdd, Int.reduceSub, Int.reduceMul, Int.reduceEq, FE, q0, q1, q12, q13, hlt, hlt2, g0, g1, g2, k0, k1, k2, hgt, heq, hj63]
  refine ⟨fun hc => ?_, fun hc => ?_⟩
  · refine range_on q13 hlt rfl ⟨rfl, q0, q1, q12, rfl, ?_⟩
    rw [List.take_succ_eq_append_getElem hlt, List.take_succ_eq_append_getElem hlt2, hpre, hc]
  · refine Ended.back hA (Xt.refl _) (congrArg _ (dec_f fun h => hc ?_)) (RB.bool _)
    subst h; rfl

theorem zp9 : zl [Value.int .i64 0, Value.int .i64 0, Value.int .i64 0] 9 = List.replicate 9 (Value.int .i64 0) := rfl
theorem zp6 : zl [Value.int .i64 0, Value.int .i64 0, Value.int .i64 0] 6 = List.replicate 6 (Value.int .i64 0) := rfl
theorem row_sl {B : Hp} {id g n c : Nat} {l : List Fa} (hb : B.blk id = some (.row (l.map fC).flatten g 3)) (hn : n = l.length) : Sl B 3 (.slice (some ⟨id, 0, some g⟩) n c) (l.map fC) := by
  subst hn
  exact ⟨fc_len l, .inr (.inr ⟨_, _, _, g, _, rfl, by simp, rfl, hb, fun j x hj => by rw [Nat.zero_add]; exact hj⟩)⟩

set_option maxHeartbeats 4000000 in
theorem facted_ok : Sound Try.prog G 6 [] fl A (.bool true) A := by
  refine Sound.of mixed Try.func6 Try.ntmps6 Try.results6 (by kernel_rfl) rfl (by kernel_rfl) (by kernel_rfl) fun hA => ?_
  have hs : Sl (A.push (.row [.int .i64 5, .int .i64 1, .int .i64 0, .int .i64 1, .int .i64 0, .int .i64 0, .int .i64 1, .int .i64 0, .int .i64 0] 0 3)) 3 (.slice (some ⟨A.next, 0, some 0⟩) 3 3) (([(5, 1, 0), (1, 0, 0), (1, 0, 0)] : List Fa).map fC) :=
    row_sl (by simp [Hp.push_blk, fC]) rfl
  have of := fun fl => of_ok (G := G) (fl := fl) hs (by decide)
  rw [fset_lit] at of
  have hx := ((Xt.refl A).push (.row [.int .i64 5, .int .i64 1, .int .i64 0, .int .i64 1, .int .i64 0, .int .i64 0, .int .i64 1, .int .i64 0, .int .i64 0] 0 3)).trans (nlH_xt (sz := 3) (css := ([(1, 0, 0), (5, 1, 0)] : List Fa).map fC))
  have hs2 := nl_sl (A := A.push (.row [.int .i64 5, .int .i64 1, .int .i64 0, .int .i64 1, .int .i64 0, .int .i64 0, .int .i64 1, .int .i64 0, .int .i64 0] 0 3)) (sz := 3) (fc_len [(1, 0, 0), (5, 1, 0)])
  simp only [↓R1, R2, R3, R4, TY, reduceIte, Nat.reduceEqDiff, Nat.reduceAdd, Nat.reduceMul, Nat.reduceLT, Nat.reduceLeDiff, reduceCtorEq, decide_true, decide_false, Int.reduceLE, Int.reduceLT, Int.reduceToNat, Int.reduceAdd, Int.reduceSub, Int.reduceMul, Int.reduceEq, FE, zp9, List.replicate]
  refine call_of (of _) ?_
  simp only [↓R1, R2, R3, R4, TY, reduceIte, Nat.reduceEqDiff, Nat.reduceAdd, Nat.reduceMul, Nat.reduceLT, Nat.reduceLeDiff, reduceCtorEq, decide_true, decide_false, Int.reduceLE, Int.reduceLT, Int.reduceToNat, Int.reduceAdd, Int.reduceSub, Int.reduceMul, Int.reduceEq, FE, zp9, List.replicate]
  have hlt : ∀ a n c, nlV (A.push (.row [.int .i64 5, .int .i64 1, .int .i64 0, .int .i64 1, .int .i64 0, .int .i64 0, .int .i64 1, .int .i64 0, .int .i64 0] 0 3)) (([(1, 0, 0), (5, 1, 0)] : List Fa).map fC) = .slice (some a) n c → a.block < (nlH (A.push (.row [.int .i64 5, .int .i64 1, .int .i64 0, .int .i64 1, .int .i64 0, .int .i64 0, .int .i64 1, .int .i64 0, .int .i64 0] 0 3)) 3 (([(1, 0, 0), (5, 1, 0)] : List Fa).map fC)).next := fun a n c h => nl_lt h
  generalize nlH (A.push (.row [.int .i64 5, .int .i64 1, .int .i64 0, .int .i64 1, .int .i64 0, .int .i64 0, .int .i64 1, .int .i64 0, .int .i64 0] 0 3)) 3 (([(1, 0, 0), (5, 1, 0)] : List Fa).map fC) = B at *
  generalize nlV (A.push (.row [.int .i64 5, .int .i64 1, .int .i64 0, .int .i64 1, .int .i64 0, .int .i64 0, .int .i64 1, .int .i64 0, .int .i64 0] 0 3)) (([(1, 0, 0), (5, 1, 0)] : List Fa).map fC) = v at *
  have hx2 := (Xt.refl B).push (.row [.int .i64 1, .int .i64 0, .int .i64 0, .int .i64 5, .int .i64 1, .int .i64 0] 0 3)
  have hv : Sl (B.push (.row [.int .i64 1, .int .i64 0, .int .i64 0, .int .i64 5, .int .i64 1, .int .i64 0] 0 3)) 3 v (([(1, 0, 0), (5, 1, 0)] : List Fa).map fC) :=
    hs2.keep hx2.next fun a n c h => hx2.blk _ (hlt a n c h)
  have hv2 : Sl (B.push (.row [.int .i64 1, .int .i64 0, .int .i64 0, .int .i64 5, .int .i64 1, .int .i64 0] 0 3)) 3 (.slice (some ⟨B.next, 0, some 0⟩) 2 2) (([(1, 0, 0), (5, 1, 0)] : List Fa).map fC) :=
    row_sl (by simp [Hp.push_blk, fC]) rfl
  have eq := fun fl => fequal_ok (G := G) (fl := fl) (by decide) hv hv2
  simp only [decide_true] at eq
  simp only [↓R1, R2, R3, R4, TY, reduceIte, Nat.reduceEqDiff, Nat.reduceAdd, Nat.reduceMul, Nat.reduceLT, Nat.reduceLeDiff, reduceCtorEq, decide_true, decide_false, Int.reduceLE, Int.reduceLT, Int.reduceToNat, Int.reduceAdd, Int.reduceSub, Int.reduceMul, Int.reduceEq, FE, zp6, List.replicate]
  refine call_of (eq _) ?_
  simp only [↓R1, R2, R3, R4, TY, reduceIte, Nat.reduceEqDiff, Nat.reduceAdd, Nat.reduceMul, Nat.reduceLT, Nat.reduceLeDiff, reduceCtorEq, decide_true, decide_false, Int.reduceLE, Int.reduceLT, Int.reduceToNat, Int.reduceAdd, Int.reduceSub, Int.reduceMul, Int.reduceEq, FE, zp6, List.replicate]
  exact Ended.back hA (hx.trans hx2) rfl (RB.bool _)

set_option maxHeartbeats 4000000 in
theorem factClashes_calls {f g : Fa} {v : Value} {l : List Fa} (hs : Sl A 3 v (l.map fC)) (hl : l.length ≤ 9223372036854775807) :
    ∀ (μ : Mu) (w : World) (args' : Array Value), HR G μ fl A w → fl ≤ A.next → VRa μ A [fV f, fV g, v].toArray args' →
    Calls Try.prog 3 args' w fun e w' => ∃ u, e = .returned u ∧ ∃ ν, VR ν A (.bool true) u ∧ HR G ν fl A w' ∧ Trans fl μ A w ν A w' := by
  refine calls_of mixed Try.func3 Try.ntmps3 Try.results3 (by kernel_rfl) rfl (by kernel_rfl) (by kernel_rfl) fun hA => ?_
  obtain ⟨o, c, rfl⟩ := hs.len
  rw [List.length_map] at hs ⊢
  have x2 : Xt A.next A ((A.push (.row [Value.int .i64 f.1, .int .i64 f.2.1, .int .i64 f.2.2] 0 3)).push (.row [Value.int .i64 g.1, .int .i64 g.2.1, .int .i64 g.2.2] 0 3)) := ((Xt.refl A).push _).push _
  simp only [fV]
  simp only [↓R1, R2, R3, R4, TY, reduceIte, Nat.reduceEqDiff, Nat.reduceAdd, Nat.reduceMul, Nat.reduceLT, Nat.reduceLeDiff, reduceCtorEq, decide_true, decide_false, Int.reduceLE, Int.reduceLT, Int.reduceToNat, Int.reduceAdd, Int.reduceSub, Int.reduceMul, Int.reduceEq, FE]
  refine range_of 14 l.length (fun j τ B => Xt A.next A B ∧ A.next + 2 ≤ B.next ∧ B.blk A.next = some (.row [Value.int .i64 f.1, .int .i64 f.2.1, .int .i64 f.2.2] 0 3) ∧ B.blk (A.next + 1) = some (.row [Value.int .i64 g.1, .int .i64 g.2.1, .int .i64 g.2.2] 0 3) ∧
      τ 2 = some (.slice o l.length c) ∧ τ 3 = some (.pointer (some ⟨A.next, 0, some 0⟩)) ∧ τ 4 = some (.pointer (some ⟨A.next + 1, 0, some 0⟩)) ∧ τ 7 = some (.bool (decide (∀ i (h : i < l.length), i < j → ∀ y ∈ l.take i, ¬ fclash l[i] y))) ∧
      τ 12 = some (.slice o l.length c) ∧ τ 13 = some (.int .i64 l.length) ∧ τ 14 = some (.int .i64 j)) ?_ ?_
  · exact ⟨x2, by simp, by simp [Hp.push_blk], by simp [Hp.push_blk], rfl, rfl, rfl, congrArg some (congrArg Value.bool (dec_t fun i h h2 => absurd h2 (Nat.not_lt_zero _))), rfl, rfl, rfl⟩
  rintro j τ B hj ⟨hx, hn, c0, c1, q2, q3, q4, q7, q12, q13, q14⟩
  have g0 : ∀ i, B.get G ⟨A.next, i, some 0⟩ = ([Value.int .i64 f.1, .int .i64 f.2.1, .int .i64 f.2.2] : List Value)[i]? := fun i => by simp only [Hp.get, c0, if_true]
  have g1 : ∀ i, B.get G ⟨A.next + 1, i, some 0⟩ = ([Value.int .i64 g.1, .int .i64 g.2.1, .int .i64 g.2.2] : List Value)[i]? := fun i => by simp only [Hp.get, c1, if_true]
  have lt0 : A.next < B.next := by omega
  have lt1 : A.next + 1 < B.next := by omega
  simp only [↓R1, R2, R3, R4, TY, reduceIte, Nat.reduceEqDiff, Nat.reduceAdd, Nat.reduceMul, Nat.reduceLT, Nat.reduceLeDiff, reduceCtorEq, decide_true, decide_false, Int.reduceLE, Int.reduceLT, Int.reduceToNat, Int.reduceAdd, Int.reduceSub, Int.reduceMul, Int.reduceEq, FE, q2, q3, q4, q7, q12, q13, q14]
  refine ⟨fun hlt => ?_, fun hlt => ?_⟩
  rotate_left
  · have hsB := hs.xt hA hx
    have fa := fun fl A => facted_ok (G := G) (fl := fl) (A := A)
    have cl := fun fl A => fclash_ok (G := G) (fl := fl) (A := A) f g
    have fc := fun fl A => factsClash_ok (G := G) (fl := fl) (A := A) f g
    have so := fun fl => sound_ok (G := G) (fl := fl) (A := B) hsB hl
    simp only [fV] at cl fc
    have q7' : τ 7 = some (.bool (decide (∀ i (h : i < l.length), ∀ y ∈ l.take i, ¬ fclash l[i] y))) := by
      rw [q7]
      exact congrArg some (congrArg Value.bool (dec_i ⟨fun h i hi => h i hi (by omega), fun h i hi _ => h i hi⟩))
    refine call_of (fa _ _) ?_
    simp only [↓R1, R2, R3, R4, TY, reduceIte, Nat.reduceEqDiff, Nat.reduceAdd, Nat.reduceMul, Nat.reduceLT, Nat.reduceLeDiff, reduceCtorEq, decide_true, decide_false, Int.reduceLE, Int.reduceLT, Int.reduceToNat, Int.reduceAdd, Int.reduceSub, Int.reduceMul, Int.reduceEq, FE, q2, q3, q4, q7', q12, q13, q14, g0, g1, lt0, lt1, beq_self_eq_true]
    refine call_of (cl _ _) ?_
    simp only [↓R1, R2, R3, R4, TY, reduceIte, Nat.reduceEqDiff, Nat.reduceAdd, Nat.reduceMul, Nat.reduceLT, Nat.reduceLeDiff, reduceCtorEq, decide_true, decide_false, Int.reduceLE, Int.reduceLT, Int.reduceToNat, Int.reduceAdd, Int.reduceSub, Int.reduceMul, Int.reduceEq, FE, q2, q3, q4, q7', q12, q13, q14, g0, g1, lt0, lt1, beq_self_eq_true]
    refine call_of (fc _ _) ?_
    simp only [↓R1, R2, R3, R4, TY, reduceIte, Nat.reduceEqDiff, Nat.reduceAdd, Nat.reduceMul, Nat.reduceLT, Nat.reduceLeDiff, reduceCtorEq, decide_true, decide_false, Int.reduceLE, Int.reduceLT, Int.reduceToNat, Int.reduceAdd, Int.reduceSub, Int.reduceMul, Int.reduceEq, FE, q2, q3, q4, q7', q12, q13, q14, g0, g1, lt0, lt1, beq_self_eq_true]
    refine call_of (so _) ?_
    simp only [↓R1, R2, R3, R4, TY, reduceIte, Nat.reduceEqDiff, Nat.reduceAdd, Nat.reduceMul, Nat.reduceLT, Nat.reduceLeDiff, reduceCtorEq, decide_true, decide_false, Int.reduceLE, Int.reduceLT, Int.reduceToNat, Int.reduceAdd, Int.reduceSub, Int.reduceMul, Int.reduceEq, FE, q2, q3, q4, q7', q12, q13, q14, g0, g1, lt0, lt1, beq_self_eq_true]
    exact Ended.back hA hx rfl (RB.bool _)
  obtain ⟨a, rfl, -⟩ := hs.at (G := G) (i := j) (by simpa using hlt)
  have hsB := hs.xt hA hx
  have hab : a.block < B.next := Nat.lt_of_lt_of_le (hs.lt hA) hx.next
  have hflB : fl ≤ B.next := Nat.le_trans hA.floor hx.next
  obtain ⟨u0, u1, u2⟩ := fa3_get (G := G) hsB hlt
  have hj63 : j < 9223372036854775807 := by omega
  have hes := hsB.esz
  have hjl : j ≤ l.length := by omega
  have hn1 : ¬ a.block = B.next := by omega
  have hn1' := eq_false hn1
  have hes2 : eszOK ((B.push (.row [Value.int .i64 0, .int .i64 0, .int .i64 0] 0 3)).put B.next (.row [Value.int .i64 l[j].1, .int .i64 l[j].2.1, .int .i64 l[j].2.2] 0 3)) a.block 3 := by
    unfold eszOK; intro cs g e h
    rw [Hp.put_blk, if_neg hn1, Hp.push_blk, if_neg hn1] at h
    exact hes cs g e h
  simp only [↓R1, R2, R3, R4, TY, reduceIte, Nat.reduceEqDiff, Nat.reduceAdd, Nat.reduceMul, Nat.reduceLT, Nat.reduceLeDiff, reduceCtorEq, decide_true, decide_false, Int.reduceLE, Int.reduceLT, Int.reduceToNat, Int.reduceAdd, Int.reduceSub, Int.reduceMul, Int.reduceEq, FE, q2, q3, q4, q12, q13, q14, hlt, hab, hj63, u0, u1, u2, hflB, hjl, hn1', hes2]
  generalize hE0 : (B.push (.row [Value.int .i64 0, .int .i64 0, .int .i64 0] 0 3)).put B.next (.row [Value.int .i64 l[j].1, .int .i64 l[j].2.1, .int .i64 l[j].2.2] 0 3) = E0
  have e0n : E0.next = B.next + 1 := by rw [← hE0]; rfl
  have e0b : E0.blk B.next = some (.row [Value.int .i64 l[j].1, .int .i64 l[j].2.1, .int .i64 l[j].2.2] 0 3) := by rw [← hE0]; simp [Hp.put_blk]
  have hx0 : Xt B.next B E0 := by rw [← hE0]; simp only [xt_push, xt_put, xt_refl, Nat.le_refl]
  clear hE0 hes2
  refine range_of 23 j (fun i τ D => Xt E0.next E0 D ∧ τ 2 = some (.slice (some a) l.length c) ∧ τ 3 = some (.pointer (some ⟨A.next, 0, some 0⟩)) ∧ τ 4 = some (.pointer (some ⟨A.next + 1, 0, some 0⟩)) ∧
      τ 7 = some (.bool (decide ((∀ i (h : i < l.length), i < j → ∀ y ∈ l.take i, ¬ fclash l[i] y) ∧ ∀ y ∈ l.take i, ¬ fclash l[j] y))) ∧ τ 9 = some (.pointer (some ⟨B.next, 0, some 0⟩)) ∧
      τ 12 = some (.slice (some a) l.length c) ∧ τ 13 = some (.int .i64 l.length) ∧ τ 14 = some (.int .i64 j) ∧ τ 21 = some (.slice (some a) j c) ∧ τ 22 = some (.int .i64 j) ∧ τ 23 = some (.int .i64 i)) ?_ ?_
  · exact ⟨Xt.refl _, q2, q3, q4, q7.trans (congrArg some (congrArg Value.bool (dec_i ⟨fun h => ⟨h, by simp⟩, fun h => h.1⟩))), rfl, q12, q13, q14, rfl, rfl, rfl⟩
  rintro i τ D hi ⟨hxD, r2, r3, r4, r7, r9, r12, r13, r14, r21, r22, r23⟩
  have dn := hxD.next
  have d9 : D.blk B.next = some (.row [Value.int .i64 l[j].1, .int .i64 l[j].2.1, .int .i64 l[j].2.2] 0 3) := by rw [hxD.blk _ (by omega)]; exact e0b
  have g9 : ∀ i, D.get G ⟨B.next, i, some 0⟩ = ([Value.int .i64 l[j].1, .int .i64 l[j].2.1, .int .i64 l[j].2.2] : List Value)[i]? := fun i => by simp only [Hp.get, d9, if_true]
  have hxBD : Xt B.next B D := hx0.trans hxD
  have hxAD : Xt A.next A D := hx.trans hxBD
  have hsD := hs.xt hA hxAD
  have lt4 : B.next < D.next := by omega
  have lt5 : B.next < D.next + 1 := by omega
  have ne4 : (B.next = D.next) = False := eq_false (by omega)
  have hflD : fl ≤ D.next := by omega
  have habD : a.block < D.next := by omega
  simp only [↓R1, R2, R3, R4, TY, reduceIte, Nat.reduceEqDiff, Nat.reduceAdd, Nat.reduceMul, Nat.reduceLT, Nat.reduceLeDiff, reduceCtorEq, decide_true, decide_false, Int.reduceLE, Int.reduceLT, Int.reduceToNat, Int.reduceAdd, Int.reduceSub, Int.reduceMul, Int.reduceEq, FE, r2, r3, r4, r9, r12, r13, r14, r21, r22, r23]
  refine ⟨fun hlt2 => ?_, fun hlt2 => ?_⟩
  rotate_left
  · have hij : i = j := by omega
    subst hij
    simp only [↓R1, R2, R3, R4, TY, reduceIte, Nat.reduceEqDiff, Nat.reduceAdd, Nat.reduceMul, Nat.reduceLT, Nat.reduceLeDiff, reduceCtorEq, decide_true, decide_false, Int.reduceLE, Int.reduceLT, Int.reduceToNat, Int.reduceAdd, Int.reduceSub, Int.reduceMul, Int.reduceEq, FE, r2, r3, r4, r9, r12, r13, r14, r21, r22, r23, hj63]
    refine range_on q14 hlt rfl ⟨hxAD, by omega, by rw [hxBD.blk _ (by omega)]; exact c0, by rw [hxBD.blk _ (by omega)]; exact c1, r2, r3, r4, r7.trans (congrArg some (congrArg Value.bool (dec_i ⟨fun h i' h' hi' y hy => ?_, fun h => ⟨fun i' h' hi' => h i' h' (by omega), h i hlt (by omega)⟩⟩))), r12, r13, rfl⟩
    rcases Nat.lt_or_ge i' i with h1 | h1
    · exact h.1 i' h' h1 y hy
    · obtain rfl : i' = i := by omega
      exact h.2 y hy
  have hli : i < l.length := by omega
  obtain ⟨v0, v1, v2⟩ := fa3_get (G := G) hsD hli
  have hi63 : i < 9223372036854775807 := by omega
  have ht : l.take (i + 1) = l.take i ++ [l[i]] := List.take_succ_eq_append_getElem hli
  simp only [↓R1, R2, R3, R4, TY, reduceIte, Nat.reduceEqDiff, Nat.reduceAdd, Nat.reduceMul, Nat.reduceLT, Nat.reduceLeDiff, reduceCtorEq, decide_true, decide_false, Int.reduceLE, Int.reduceLT, Int.reduceToNat, Int.reduceAdd, Int.reduceSub, Int.reduceMul, Int.reduceEq, FE, r2, r3, r4, r7, r9, r12, r13, r14, r21, r22, r23, hi63, g9, lt4, lt5, ne4, hflD, hlt2, v0, v1, v2, habD]
  generalize hF : (D.push (.row [Value.int .i64 0, .int .i64 0, .int .i64 0] 0 3)).put D.next (.row [Value.int .i64 l[i].1, .int .i64 l[i].2.1, .int .i64 l[i].2.2] 0 3) = F0
  have hxF : Xt D.next D F0 := by rw [← hF]; simp only [xt_push, xt_put, xt_refl, Nat.le_refl]
  have cl := fun fl A => factsClash_ok (G := G) (fl := fl) (A := A) l[j] l[i]
  simp only [fV] at cl
  refine ⟨fun hP => ?_, fun hP => ?_⟩
  · skip
    refine call_of (cl _ _) ?_
    simp only [↓R1, R2, R3, R4, TY, reduceIte, Nat.reduceEqDiff, Nat.reduceAdd, Nat.reduceMul, Nat.reduceLT, Nat.reduceLeDiff, reduceCtorEq, decide_true, decide_false, Int.reduceLE, Int.reduceLT, Int.reduceToNat, Int.reduceAdd, Int.reduceSub, Int.reduceMul, Int.reduceEq, FE, r2, r3, r4, r9, r12, r13, r14, r21, r22, r23, hi63]
    refine range_on r23 hlt2 rfl ⟨hxD.trans hxF, r2, r3, r4, congrArg some (congrArg Value.bool ?_), r9, r12, r13, r14, r21, r22, rfl⟩
    by_cases hc : fclash l[j] l[i]
    · rw [decide_eq_true hc]
      exact dec_f fun h => h.2 l[i] (by rw [ht]; exact List.mem_append.2 (.inr (List.mem_singleton.2 rfl))) hc
    · rw [decide_eq_false hc]
      refine dec_t ⟨hP.1, fun y hy => ?_⟩
      rw [ht, List.mem_append] at hy
      rcases hy with hy | hy
      · exact hP.2 y hy
      · rw [List.mem_singleton] at hy; subst hy; exact hc
  · skip
    refine range_on r23 hlt2 rfl ⟨hxD.trans hxF, r2, r3, r4, congrArg some (congrArg Value.bool (dec_f fun h => hP ⟨h.1, fun y hy => h.2 y (by rw [ht]; exact List.mem_append.2 (.inl hy))⟩)), r9, r12, r13, r14, r21, r22, rfl⟩
end
end Go.Proofs.Ythchdnaabamplaa.Ab
