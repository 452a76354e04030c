/- Facts: the functions for sets. -/
import Derived.Test.YthchdnaabamplaaFl
namespace Go.Proofs.Ythchdnaabamplaa.Ab
open Go.RowKit Go.Sort
set_option linter.unusedVariables false
set_option linter.unusedSimpArgs false
set_option maxRecDepth 100000

theorem lsV_nl (A : Hp) (l : List Fa) : lsV A l = nlV A (l.map fC) := by
  unfold lsV nlV
  by_cases h : l = []
  · simp [h]
  · rw [if_neg h, if_neg (by simpa using h), List.length_map]
theorem lsH_nl (A : Hp) (l : List Fa) : lsH A l = nlH A 3 (l.map fC) := by
  unfold lsH nlH
  by_cases h : l = []
  · simp [h]
  · rw [if_neg h, if_neg (by simpa using h)]
/-- Sets as the law says it. -/
def isSet (l : List Fa) (j : Nat) : Prop := ∀ i (h : i < l.length), i < j → fOk l[i] ∧ (i = 0 ∨ flt (l.getD (i - 1) (0, 0, 0)) l[i])

instance (l : List Fa) (j : Nat) : Decidable (isSet l j) := by unfold isSet; infer_instance
section
variable {G : Gl} {fl : Nat} {A : Hp}
theorem Ended.nl {D : Hp} {css : List (List Value)} {sz : Nat} (hA : Hok fl A) (hx : Xt A.next A D) (hr : ∀ c ∈ css, ∀ u ∈ c, RB A.next u) : Ended A (nlV D css) (nlH D sz css) (nlV A css) (nlH A sz css) := by
  have x2 := hx.trans (nlH_xt (A := D) (sz := sz) (css := css))
  have hn := hx.next
  unfold nlV nlH at *
  by_cases h : css = []
  · simp only [h, if_true] at *
    exact Ended.back hA x2 rfl (RB.sl0 _ _)
  · simp only [if_neg h] at *
    exact Ended.new1 hA x2 hn (by simp [Hp.push_blk]) (fun u hu => by obtain ⟨c, hc, hu⟩ := List.mem_flatten.1 hu; exact hr c hc u hu) (Nat.le_refl _)

theorem fcompare_ok (x y : Fa) : Sound Try.prog G 12 [fV x, fV y] fl A (.int .i64 (fcf x y)) A := by
  refine Sound.of_scalar (fun u hu => ?_) rfl fun w => ?_
  · simp only [List.mem_cons, List.not_mem_nil, or_false] at hu
    rcases hu with rfl | rfl
    · exact ⟨rfl, fun μ A u' h => kflat_inv (kflat_fact _) h⟩
    · exact ⟨rfl, fun μ A u' h => kflat_inv (kflat_fact _) h⟩
  · refine .inl ⟨⟨_, Try.func12, by kernel_rfl, by kernel_rfl⟩, (fcompare_calls x y w).mono fun e w' h => ?_⟩
    obtain ⟨rfl, q, os, rfl⟩ := h
    refine ⟨_, rfl, rfl, ⟨rfl, rfl, rfl, by simp [Go.Sort.grow, World.drewN], fun i hi => ?_⟩⟩
    show (w.heap ++ os)[i]? = _
    rw [Array.getElem?_append_left hi]
theorem fcf_neg {x y : Fa} : fcf x y < 0 ↔ flt x y := by
  have h := ltFcf x y
  unfold ltOf at h
  rw [decide_eq_decide] at h
  exact h
theorem fcf_ge {x y : Fa} : 0 ≤ fcf x y ↔ ¬ flt x y := by rw [← fcf_neg]; omega

theorem has_ok {v : Value} {l : List Fa} (hs : Sl A 3 v (l.map fC)) (hl : l.length < 9223372036854775807) (x : Fa) : Sound Try.prog G 18 [v, fV x] fl A (.bool (decide (x ∈ l))) A := by
  refine Sound.of mixed Try.func18 Try.ntmps18 Try.results18 (by kernel_rfl) rfl (by kernel_rfl) (by kernel_rfl) fun hA => ?_
  have hx := (Xt.refl A).push (.row [Value.int .i64 x.1, .int .i64 x.2.1, .int .i64 x.2.2] 0 3)
  have ci := fun fl => fa3_contains (G := G) (fl := fl) (hs.xt hA hx) hl x
  simp only [fV] at ci ⊢
  simp only [↓R1, R2, R3, R4, TY, reduceIte, Nat.reduceEqDiff, Nat.reduceAdd, Nat.reduceMul, Nat.reduceLT, Nat.reduceLeDiff, reduceCtorEq, decide_true, decide_false, Int.reduceLE, Int.reduceLT, Int.reduceToNat, Int.reduceAdd, Int.reduceSub, Int.reduceMul, Int.reduceEq, FE]
  refine call_of (ci _) ?_
  simp only [↓R1, R2, R3, R4, TY, reduceIte, Nat.reduceEqDiff, Nat.reduceAdd, Nat.reduceMul, Nat.reduceLT, Nat.reduceLeDiff, reduceCtorEq, decide_true, decide_false, Int.reduceLE, Int.reduceLT, Int.reduceToNat, Int.reduceAdd, Int.reduceSub, Int.reduceMul, Int.reduceEq, FE]
  exact Ended.back hA hx rfl (RB.bool _)

set_option maxHeartbeats 4000000 in
theorem meet_ok {v u : Value} {a b : List Fa} (ha : Sl A 3 v (a.map fC)) (hb : Sl A 3 u (b.map fC)) (la : a.length ≤ 4000000) (lb : b.length ≤ 4000000) :
    Sound Try.prog G 21 [v, u] fl A (nlV A ((fset (a.filter fun x => decide (x ∈ b))).map fC)) (nlH A 3 ((fset (a.filter fun x => decide (x ∈ b))).map fC)) := by
  refine Sound.of mixed Try.func21 Try.ntmps21 Try.results21 (by kernel_rfl) rfl (by kernel_rfl) (by kernel_rfl) fun hA => ?_
  obtain ⟨o, c, rfl⟩ := ha.len
  rw [List.length_map] at ha ⊢
  simp only [↓R1, R2, R3, R4, TY, reduceIte, Nat.reduceEqDiff, Nat.reduceAdd, Nat.reduceMul, Nat.reduceLT, Nat.reduceLeDiff, reduceCtorEq, decide_true, decide_false, Int.reduceLE, Int.reduceLT, Int.reduceToNat, Int.reduceAdd, Int.reduceSub, Int.reduceMul, Int.reduceEq, FE]
  refine range_of 10 a.length (fun j τ B => ∃ so, Xt A.next A B ∧ Acn B A.next 3 so (((a.take j).filter fun x => decide (x ∈ b)).map fC) ∧ τ 1 = some u ∧ τ 5 = some so ∧ τ 8 = some (.slice o a.length c) ∧ τ 9 = some (.int .i64 a.length) ∧ τ 10 = some (.int .i64 j)) ?_ ?_
  · exact ⟨_, Xt.refl A, Acn.none, rfl, rfl, rfl, rfl, rfl⟩
  rintro j τ B hj ⟨so, hx, hac, q1, q5, q8, q9, q10⟩
  simp only [↓R1, R2, R3, R4, TY, reduceIte, Nat.reduceEqDiff, Nat.reduceAdd, Nat.reduceMul, Nat.reduceLT, Nat.reduceLeDiff, reduceCtorEq, decide_true, decide_false, Int.reduceLE, Int.reduceLT, Int.reduceToNat, Int.reduceAdd, Int.reduceSub, Int.reduceMul, Int.reduceEq, FE, q1, q5, q8, q9, q10]
  refine ⟨fun hlt => ?_, fun hlt => ?_⟩
  rotate_left
  · rw [List.take_of_length_le (by omega)] at hac
    have hfl := List.length_filter_le (fun x => decide (x ∈ b)) a
    have of := fun fl => of_ok (G := G) (fl := fl) (A := B) hac.sl (by omega)
    refine call_of (of _) ?_
    simp only [↓R1, R2, R3, R4, TY, reduceIte, Nat.reduceEqDiff, Nat.reduceAdd, Nat.reduceMul, Nat.reduceLT, Nat.reduceLeDiff, reduceCtorEq, decide_true, decide_false, Int.reduceLE, Int.reduceLT, Int.reduceToNat, Int.reduceAdd, Int.reduceSub, Int.reduceMul, Int.reduceEq, FE, q1, q5, q8, q9, q10]
    exact Ended.nl hA hx (fc_rb _)
  obtain ⟨p, rfl, -⟩ := ha.at (G := G) (i := j) (by simpa using hlt)
  have hsB := ha.xt hA hx
  have hab : p.block < B.next := Nat.lt_of_lt_of_le (ha.lt hA) hx.next
  have hflB : fl ≤ B.next := Nat.le_trans hA.floor hx.next
  obtain ⟨u0, u1, u2⟩ := fa3_get (G := G) hsB hlt
  have hj63 : j < 9223372036854775807 := by omega
  simp only [↓R1, R2, R3, R4, TY, reduceIte, Nat.reduceEqDiff, Nat.reduceAdd, Nat.reduceMul, Nat.reduceLT, Nat.reduceLeDiff, reduceCtorEq, decide_true, decide_false, Int.reduceLE, Int.reduceLT, Int.reduceToNat, Int.reduceAdd, Int.reduceSub, Int.reduceMul, Int.reduceEq, FE, q1, q5, q8, q9, q10, hlt, hab, hj63, u0, u1, u2, hflB]
  generalize hE0 : (B.push (.row [Value.int .i64 0, .int .i64 0, .int .i64 0] 0 3)).put B.next (.row [Value.int .i64 a[j].1, .int .i64 a[j].2.1, .int .i64 a[j].2.2] 0 3) = E0
  have e0n : E0.next = B.next + 1 := by rw [← hE0]; rfl
  have e0b : E0.blk B.next = some (.row [Value.int .i64 a[j].1, .int .i64 a[j].2.1, .int .i64 a[j].2.2] 0 3) := by rw [← hE0]; simp [Hp.put_blk]
  have hx0 : Xt B.next B E0 := by rw [← hE0]; simp only [xt_push, xt_put, xt_refl, Nat.le_refl]
  have g0 : ∀ i, E0.get G ⟨B.next, i, some 0⟩ = ([Value.int .i64 a[j].1, .int .i64 a[j].2.1, .int .i64 a[j].2.2] : List Value)[i]? := fun i => by simp only [Hp.get, e0b, if_true]
  clear hE0
  have hbE := hb.xt hA (hx.trans hx0)
  have hh := fun fl => has_ok (G := G) (fl := fl) hbE (by omega) a[j]
  simp only [fV] at hh
  have ht : a.take (j + 1) = a.take j ++ [a[j]] := List.take_succ_eq_append_getElem hlt
  refine call_of (hh _) ?_
  simp only [↓R1, R2, R3, R4, TY, reduceIte, Nat.reduceEqDiff, Nat.reduceAdd, Nat.reduceMul, Nat.reduceLT, Nat.reduceLeDiff, reduceCtorEq, decide_true, decide_false, Int.reduceLE, Int.reduceLT, Int.reduceToNat, Int.reduceAdd, Int.reduceSub, Int.reduceMul, Int.reduceEq, FE, q1, q5, q8, q9, q10, hj63, g0, zp3]
  refine ⟨fun hv => ?_, fun hv => ?_⟩
  rotate_left
  · refine range_on q10 hlt rfl ⟨so, hx.trans hx0, ?_, q1, q5, q8, q9, rfl⟩
    rw [ht, List.filter_append, List.filter_cons_of_neg (by simpa using hv), List.filter_nil, List.append_nil]; exact hac.xt hx0
  have hle := List.length_filter_le (fun x => decide (x ∈ b)) (a.take j)
  have htl : (a.take j).length ≤ j := by rw [List.length_take]; omega
  refine app1 (lo := A.next) (sz := 3) (cl := fC a[j]) ty24 rfl ty23 rfl (by omega) rfl (hac.xt hx0) hA.floor (by have := hx.next; omega) rfl (fc_ones _) (by simp; omega) (by simp; omega) ?_
  intro so' D hac' hxD hnD hfD hidD
  simp only [↓R1, R2, R3, R4, TY, reduceIte, Nat.reduceEqDiff, Nat.reduceAdd, Nat.reduceMul, Nat.reduceLT, Nat.reduceLeDiff, reduceCtorEq, decide_true, decide_false, Int.reduceLE, Int.reduceLT, Int.reduceToNat, Int.reduceAdd, Int.reduceSub, Int.reduceMul, Int.reduceEq, FE, q1, q5, q8, q9, q10, hj63]
  refine range_on q10 hlt rfl ⟨so', ⟨fun id hid => by rw [hxD.blk id hid, hx0.blk id (by have := hx.next; omega), hx.blk id hid], hxD.next⟩, ?_, q1, rfl, q8, q9, rfl⟩
  rw [ht, List.filter_append, List.filter_cons_of_pos (by simpa using hv), List.filter_nil, List.map_append]; exact hac'

set_option maxHeartbeats 4000000 in
theorem minus_ok {v u : Value} {a b : List Fa} (ha : Sl A 3 v (a.map fC)) (hb : Sl A 3 u (b.map fC)) (la : a.length ≤ 4000000) (lb : b.length ≤ 4000000) :
    Sound Try.prog G 22 [v, u] fl A (nlV A ((fset (a.filter fun x => !decide (x ∈ b))).map fC)) (nlH A 3 ((fset (a.filter fun x => !decide (x ∈ b))).map fC)) := by
  refine Sound.of mixed Try.func22 Try.ntmps22 Try.results22 (by kernel_rfl) rfl (by kernel_rfl) (by kernel_rfl) fun hA => ?_
  obtain ⟨o, c, rfl⟩ := ha.len
  rw [List.length_map] at ha ⊢
  simp only [↓R1, R2, R3, R4, TY, reduceIte, Nat.reduceEqDiff, Nat.reduceAdd, Nat.reduceMul, Nat.reduceLT, Nat.reduceLeDiff, reduceCtorEq, decide_true, decide_false, Int.reduceLE, Int.reduceLT, Int.reduceToNat, Int.reduceAdd, Int.reduceSub, Int.reduceMul, Int.reduceEq, FE]
  refine range_of 10 a.length (fun j τ B => ∃ so, Xt A.next A B ∧ Acn B A.next 3 so (((a.take j).filter fun x => !decide (x ∈ b)).map fC) ∧ τ 1 = some u ∧ τ 5 = some so ∧ τ 8 = some (.slice o a.length c) ∧ τ 9 = some (.int .i64 a.length) ∧ τ 10 = some (.int .i64 j)) ?_ ?_
  · exact ⟨_, Xt.refl A, Acn.none, rfl, rfl, rfl, rfl, rfl⟩
  rintro j τ B hj ⟨so, hx, hac, q1, q5, q8, q9, q10⟩
  simp only [↓R1, R2, R3, R4, TY, reduceIte, Nat.reduceEqDiff, Nat.reduceAdd, Nat.reduceMul, Nat.reduceLT, Nat.reduceLeDiff, reduceCtorEq, decide_true, decide_false, Int.reduceLE, Int.reduceLT, Int.reduceToNat, Int.reduceAdd, Int.reduceSub, Int.reduceMul, Int.reduceEq, FE, q1, q5, q8, q9, q10]
  refine ⟨fun hlt => ?_, fun hlt => ?_⟩
  rotate_left
  · rw [List.take_of_length_le (by omega)] at hac
    have hfl := List.length_filter_le (fun x => !decide (x ∈ b)) a
    have of := fun fl => of_ok (G := G) (fl := fl) (A := B) hac.sl (by omega)
    refine call_of (of _) ?_
    simp only [↓R1, R2, R3, R4, TY, reduceIte, Nat.reduceEqDiff, Nat.reduceAdd, Nat.reduceMul, Nat.reduceLT, Nat.reduceLeDiff, reduceCtorEq, decide_true, decide_false, Int.reduceLE, Int.reduceLT, Int.reduceToNat, Int.reduceAdd, Int.reduceSub, Int.reduceMul, Int.reduceEq, FE, q1, q5, q8, q9, q10]
    exact Ended.nl hA hx (fc_rb _)
  obtain ⟨p, rfl, -⟩ := ha.at (G := G) (i := j) (by simpa using hlt)
  have hsB := ha.xt hA hx
  have hab : p.block < B.next := Nat.lt_of_lt_of_le (ha.lt hA) hx.next
  have hflB : fl ≤ B.next := Nat.le_trans hA.floor hx.next
  obtain ⟨u0, u1, u2⟩ := fa3_get (G := G) hsB hlt
  have hj63 : j < 9223372036854775807 := by omega
  simp only [↓R1, R2, R3, R4, TY, reduceIte, Nat.reduceEqDiff, Nat.reduceAdd, Nat.reduceMul, Nat.reduceLT, Nat.reduceLeDiff, reduceCtorEq, decide_true, decide_false, Int.reduceLE, Int.reduceLT, Int.reduceToNat, Int.reduceAdd, Int.reduceSub, Int.reduceMul, Int.reduceEq, FE, q1, q5, q8, q9, q10, hlt, hab, hj63, u0, u1, u2, hflB]
  generalize hE0 : (B.push (.row [Value.int .i64 0, .int .i64 0, .int .i64 0] 0 3)).put B.next (.row [Value.int .i64 a[j].1, .int .i64 a[j].2.1, .int .i64 a[j].2.2] 0 3) = E0
  have e0n : E0.next = B.next + 1 := by rw [← hE0]; rfl
  have e0b : E0.blk B.next = some (.row [Value.int .i64 a[j].1, .int .i64 a[j].2.1, .int .i64 a[j].2.2] 0 3) := by rw [← hE0]; simp [Hp.put_blk]
  have hx0 : Xt B.next B E0 := by rw [← hE0]; simp only [xt_push, xt_put, xt_refl, Nat.le_refl]
  have g0 : ∀ i, E0.get G ⟨B.next, i, some 0⟩ = ([Value.int .i64 a[j].1, .int .i64 a[j].2.1, .int .i64 a[j].2.2] : List Value)[i]? := fun i => by simp only [Hp.get, e0b, if_true]
  clear hE0
  have hbE := hb.xt hA (hx.trans hx0)
  have hh := fun fl => has_ok (G := G) (fl := fl) hbE (by omega) a[j]
  simp only [fV] at hh
  have ht : a.take (j + 1) = a.take j ++ [a[j]] := List.take_succ_eq_append_getElem hlt
  refine call_of (hh _) ?_
  simp only [↓R1, R2, R3, R4, TY, reduceIte, Nat.reduceEqDiff, Nat.reduceAdd, Nat.reduceMul, Nat.reduceLT, Nat.reduceLeDiff, reduceCtorEq, decide_true, decide_false, Int.reduceLE, Int.reduceLT, Int.reduceToNat, Int.reduceAdd, Int.reduceSub, Int.reduceMul, Int.reduceEq, FE, q1, q5, q8, q9, q10, hj63, g0, zp3]
  refine ⟨fun hv => ?_, fun hv => ?_⟩
  · refine range_on q10 hlt rfl ⟨so, hx.trans hx0, ?_, q1, q5, q8, q9, rfl⟩
    rw [ht, List.filter_append, List.filter_cons_of_neg (by simpa using hv), List.filter_nil, List.append_nil]; exact hac.xt hx0
  have hle := List.length_filter_le (fun x => !decide (x ∈ b)) (a.take j)
  have htl : (a.take j).length ≤ j := by rw [List.length_take]; omega
  refine app1 (lo := A.next) (sz := 3) (cl := fC a[j]) ty24 rfl ty23 rfl (by omega) rfl (hac.xt hx0) hA.floor (by have := hx.next; omega) rfl (fc_ones _) (by simp; omega) (by simp; omega) ?_
  intro so' D hac' hxD hnD hfD hidD
  simp only [↓R1, R2, R3, R4, TY, reduceIte, Nat.reduceEqDiff, Nat.reduceAdd, Nat.reduceMul, Nat.reduceLT, Nat.reduceLeDiff, reduceCtorEq, decide_true, decide_false, Int.reduceLE, Int.reduceLT, Int.reduceToNat, Int.reduceAdd, Int.reduceSub, Int.reduceMul, Int.reduceEq, FE, q1, q5, q8, q9, q10, hj63]
  refine range_on q10 hlt rfl ⟨so', ⟨fun id hid => by rw [hxD.blk id hid, hx0.blk id (by have := hx.next; omega), hx.blk id hid], hxD.next⟩, ?_, q1, rfl, q8, q9, rfl⟩
  rw [ht, List.filter_append, List.filter_cons_of_pos (by simpa using hv), List.filter_nil, List.map_append]; exact hac'
end
end Go.Proofs.Ythchdnaabamplaa.Ab
