/- Facts: fact.Of, slices.Equal, the fact that opens the laws. -/
import Derived.Test.YthchdnaabamplaaFg
namespace Go.Proofs.Ythchdnaabamplaa.Ab
open Go.RowKit Go.Sort
set_option linter.unusedVariables false
set_option linter.unusedSimpArgs false
set_option maxRecDepth 100000

def fvs (l : List Fa) : List Fa := l.filter fun f => decide (fOk f)
/-- The set of the valid facts of a list. -/
def fset (l : List Fa) : List Fa := dn (srt fcf (fvs l)) (srt fcf (fvs l)).length
theorem fvs_snoc_t {l : List Fa} {x : Fa} (h : fOk x) : fvs (l ++ [x]) = fvs l ++ [x] := by simp [fvs, h]
theorem fvs_snoc_f {l : List Fa} {x : Fa} (h : ¬ fOk x) : fvs (l ++ [x]) = fvs l := by simp [fvs, h]
theorem fvs_le (l : List Fa) : (fvs l).length ≤ l.length := List.length_filter_le _ _

section
variable {G : Gl} {fl : Nat} {A : Hp}

theorem compact_nil : Sound Try.prog G 30 [.slice none 0 0] fl A (.slice none 0 0) A := by
  refine Sound.of mixed Try.func30 Try.ntmps30 Try.results30 (by kernel_rfl) rfl (by kernel_rfl) (by kernel_rfl) fun hA => ?_
  simp only [↓R1, R2, R3, R4, TY, reduceIte, Nat.reduceEqDiff, Nat.reduceAdd, Nat.reduceMul, Nat.reduceLT, Nat.reduceLeDiff, reduceCtorEq, decide_true, decide_false, Int.reduceLE, Int.reduceLT, Int.reduceToNat, Int.reduceAdd, Int.reduceSub, Int.reduceMul, Int.reduceEq, FE]
  exact Ended.back hA (Xt.refl A) rfl (RB.sl0 _ _)

theorem zp3 : zl [Value.int .i64 0, Value.int .i64 0, Value.int .i64 0] 3 = [Value.int .i64 0, Value.int .i64 0, Value.int .i64 0] := rfl
theorem fc_ones (x : Fa) : ∀ u ∈ fC x, u.oneCell' = true := fun u hu => fc_one [x] (fC x) (by simp) u hu

set_option maxHeartbeats 4000000 in
theorem of_ok {v : Value} {l : List Fa} (hs : Sl A 3 v (l.map fC)) (hl : l.length ≤ 4000000) : Sound Try.prog G 15 [v] fl A (nlV A ((fset l).map fC)) (nlH A 3 ((fset l).map fC)) := by
  refine Sound.of mixed Try.func15 Try.ntmps15 Try.results15 (by kernel_rfl) rfl (by kernel_rfl) (by kernel_rfl) fun hA => ?_
  obtain ⟨o, c, rfl⟩ := hs.len
  rw [List.length_map] at hs ⊢
  simp only [↓R1, R2, R3, R4, TY, reduceIte, Nat.reduceEqDiff, Nat.reduceAdd, Nat.reduceMul, Nat.reduceLT, Nat.reduceLeDiff, reduceCtorEq, decide_true, decide_false, Int.reduceLE, Int.reduceLT, Int.reduceToNat, Int.reduceAdd, Int.reduceSub, Int.reduceMul, Int.reduceEq, FE]
  refine range_of 8 l.length (fun j τ B => ∃ so, Xt A.next A B ∧ Acn B A.next 3 so ((fvs (l.take j)).map fC) ∧ τ 3 = some so ∧ τ 6 = some (.slice o l.length c) ∧ τ 7 = some (.int .i64 l.length) ∧ τ 8 = some (.int .i64 j)) ?_ ?_
  · exact ⟨_, Xt.refl A, Acn.none, rfl, rfl, rfl, rfl⟩
  rintro j τ B hj ⟨so, hx, hac, q3, q6, q7, q8⟩
  simp only [↓R1, R2, R3, R4, TY, reduceIte, Nat.reduceEqDiff, Nat.reduceAdd, Nat.reduceMul, Nat.reduceLT, Nat.reduceLeDiff, reduceCtorEq, decide_true, decide_false, Int.reduceLE, Int.reduceLT, Int.reduceToNat, Int.reduceAdd, Int.reduceSub, Int.reduceMul, Int.reduceEq, FE, q3, q6, q7, q8]
  refine ⟨fun hlt => ?_, fun hlt => ?_⟩
  rotate_left
  · rw [List.take_of_length_le (by omega)] at hac
    have hvl := fvs_le l
    unfold fset
    have hsl := srt_len fcf (fvs l)
    by_cases h0 : fvs l = []
    · have e1 : srt fcf (fvs l) = [] := List.length_eq_zero_iff.1 (by rw [hsl, h0]; rfl)
      have e2 := hac.nil (by rw [h0]; rfl)
      subst e2
      rw [e1]
      have fs := fun fl A => fsort_nil (G := G) (fl := fl) (A := A)
      have fc := fun fl A => compact_nil (G := G) (fl := fl) (A := A)
      refine call_of (fs _ _) ?_
      simp only [↓R1, R2, R3, R4, TY, reduceIte, Nat.reduceEqDiff, Nat.reduceAdd, Nat.reduceMul, Nat.reduceLT, Nat.reduceLeDiff, reduceCtorEq, decide_true, decide_false, Int.reduceLE, Int.reduceLT, Int.reduceToNat, Int.reduceAdd, Int.reduceSub, Int.reduceMul, Int.reduceEq, FE, q3, q6, q7, q8]
      refine call_of (fc _ _) ?_
      simp only [↓R1, R2, R3, R4, TY, reduceIte, Nat.reduceEqDiff, Nat.reduceAdd, Nat.reduceMul, Nat.reduceLT, Nat.reduceLeDiff, reduceCtorEq, decide_true, decide_false, Int.reduceLE, Int.reduceLT, Int.reduceToNat, Int.reduceAdd, Int.reduceSub, Int.reduceMul, Int.reduceEq, FE, q3, q6, q7, q8]
      exact Ended.back hA hx rfl (RB.sl0 _ _)
    · obtain ⟨id, g, c', rfl, h2, h3, h4, h5⟩ := hac.has (by simpa using h0)
      rw [List.length_map] at h2
      have fs := fun fl (h : fl ≤ id) => fsort_ok (G := G) (fl := fl) (A := B) (id := id) (l := fvs l) h h5 h0 h2 (by omega)
      rw [List.length_map] at *
      refine call_of (fs _ (Nat.le_trans hA.floor h3)) ?_
      simp only [↓R1, R2, R3, R4, TY, reduceIte, Nat.reduceEqDiff, Nat.reduceAdd, Nat.reduceMul, Nat.reduceLT, Nat.reduceLeDiff, reduceCtorEq, decide_true, decide_false, Int.reduceLE, Int.reduceLT, Int.reduceToNat, Int.reduceAdd, Int.reduceSub, Int.reduceMul, Int.reduceEq, FE, q3, q6, q7, q8]
      have fc := fun fl (h : fl ≤ id) => compact_ok (G := G) (fl := fl) (A := B.put id (.row ((srt fcf (fvs l)).map fC).flatten g 3)) (id := id) (g := g) (c := c') (l := srt fcf (fvs l)) h (by simpa using h4) (by simp [Hp.put_blk]) (by omega) (by omega)
      rw [hsl] at fc
      refine call_of (fc _ (Nat.le_trans hA.floor h3)) ?_
      simp only [↓R1, R2, R3, R4, TY, reduceIte, Nat.reduceEqDiff, Nat.reduceAdd, Nat.reduceMul, Nat.reduceLT, Nat.reduceLeDiff, reduceCtorEq, decide_true, decide_false, Int.reduceLE, Int.reduceLT, Int.reduceToNat, Int.reduceAdd, Int.reduceSub, Int.reduceMul, Int.reduceEq, FE, q3, q6, q7, q8]
      have hdl := dn_le (srt fcf (fvs l)) (fvs l).length
      have hd0 : (dn (srt fcf (fvs l)) (fvs l).length).map fC ≠ [] := by
        have := dn_pos (srt fcf (fvs l)) (fvs l).length (List.length_pos_iff.2 h0)
        intro h; rw [List.map_eq_nil_iff] at h; rw [h] at this; simp at this
      rw [hsl]
      unfold nlV nlH
      rw [if_neg hd0, if_neg hd0, List.length_map]
      refine Ended.pre hA ((hx.put h3 _).put h3 _) h3 (by rw [Hp.put_blk, if_pos rfl]) (fun u hu => ?_) (by omega)
      obtain ⟨c, hc, hu⟩ := List.mem_flatten.1 hu
      exact fc_rb _ c hc u hu
  obtain ⟨a, rfl, -⟩ := hs.at (G := G) (i := j) (by simpa using hlt)
  have hsB := hs.xt hA hx
  have hab : a.block < B.next := Nat.lt_of_lt_of_le (hs.lt hA) hx.next
  have hflB : fl ≤ B.next := Nat.le_trans hA.floor hx.next
  obtain ⟨u0, u1, u2⟩ := fa3_get (G := G) hsB hlt
  have hj63 : j < 9223372036854775807 := by omega
  simp only [↓R1, R2, R3, R4, TY, reduceIte, Nat.reduceEqDiff, Nat.reduceAdd, Nat.reduceMul, Nat.reduceLT, Nat.reduceLeDiff, reduceCtorEq, decide_true, decide_false, Int.reduceLE, Int.reduceLT, Int.reduceToNat, Int.reduceAdd, Int.reduceSub, Int.reduceMul, Int.reduceEq, FE, q3, q6, q7, q8, hlt, hab, hj63, u0, u1, u2, hflB]
  generalize hE0 : (B.push (.row [Value.int .i64 0, .int .i64 0, .int .i64 0] 0 3)).put B.next (.row [Value.int .i64 l[j].1, .int .i64 l[j].2.1, .int .i64 l[j].2.2] 0 3) = E0
  have e0n : E0.next = B.next + 1 := by rw [← hE0]; rfl
  have e0b : E0.blk B.next = some (.row [Value.int .i64 l[j].1, .int .i64 l[j].2.1, .int .i64 l[j].2.2] 0 3) := by rw [← hE0]; simp [Hp.put_blk]
  have hx0 : Xt B.next B E0 := by rw [← hE0]; simp only [xt_push, xt_put, xt_refl, Nat.le_refl]
  have g0 : ∀ i, E0.get G ⟨B.next, i, some 0⟩ = ([Value.int .i64 l[j].1, .int .i64 l[j].2.1, .int .i64 l[j].2.2] : List Value)[i]? := fun i => by simp only [Hp.get, e0b, if_true]
  clear hE0
  have hvd := fun fl A => fvalid_ok (G := G) (fl := fl) (A := A) l[j]
  simp only [fV] at hvd
  have ht : l.take (j + 1) = l.take j ++ [l[j]] := List.take_succ_eq_append_getElem hlt
  refine call_of (hvd _ _) ?_
  simp only [↓R1, R2, R3, R4, TY, reduceIte, Nat.reduceEqDiff, Nat.reduceAdd, Nat.reduceMul, Nat.reduceLT, Nat.reduceLeDiff, reduceCtorEq, decide_true, decide_false, Int.reduceLE, Int.reduceLT, Int.reduceToNat, Int.reduceAdd, Int.reduceSub, Int.reduceMul, Int.reduceEq, FE, q3, q6, q7, q8, hj63, g0, zp3]
  refine ⟨fun hv => ?_, fun hv => ?_⟩
  rotate_left
  · refine range_on q8 hlt rfl ⟨so, hx.trans hx0, ?_, q3, q6, q7, rfl⟩
    rw [ht, fvs_snoc_f hv]; exact hac.xt hx0
  have hle := fvs_le (l.take j)
  have htl : (l.take j).length ≤ j := by rw [List.length_take]; omega
  refine app1 (lo := A.next) (sz := 3) (cl := fC l[j]) ty24 rfl ty23 rfl (by omega) rfl (hac.xt hx0) hA.floor (by have := hx.next; omega) rfl (fc_ones _) (by simp; omega) (by simp; omega) ?_
  intro so' D hac' hxD hnD hfD hidD
  simp only [↓R1, R2, R3, R4, TY, reduceIte, Nat.reduceEqDiff, Nat.reduceAdd, Nat.reduceMul, Nat.reduceLT, Nat.reduceLeDiff, reduceCtorEq, decide_true, decide_false, Int.reduceLE, Int.reduceLT, Int.reduceToNat, Int.reduceAdd, Int.reduceSub, Int.reduceMul, Int.reduceEq, FE, q3, q6, q7, q8, hj63]
  refine range_on q8 hlt rfl ⟨so', ⟨fun id hid => by rw [hxD.blk id hid, hx0.blk id (by have := hx.next; omega), hx.blk id hid], hxD.next⟩, ?_, rfl, q6, q7, rfl⟩
  rw [ht, fvs_snoc_t hv, List.map_append]; exact hac'
end
end Go.Proofs.Ythchdnaabamplaa.Ab
