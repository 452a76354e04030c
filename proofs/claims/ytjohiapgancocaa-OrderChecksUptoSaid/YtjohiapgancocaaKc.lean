/- Orders: Times. -/
import Derived.Test.YtjohiapgancocaaKb
namespace Go.Proofs.Ytjohiapgancocaa.Ab
open Go.RowKit
set_option linter.unusedVariables false
set_option linter.unusedSimpArgs false
set_option maxRecDepth 100000

section
variable {G : Gl} {fl : Nat} {A : Hp}
theorem Ended.acnT {B : Hp} {sz : Nat} {v : Value} {us : List Value} {css : List (List Value)} (hA : Hok fl A) (x : Xt A.next A B) (h : Acn B A.next sz v css) (hr : ∀ c ∈ css, ∀ u ∈ c, RB A.next u) (hu : ∀ u ∈ us, RB A.next u) :
    Ended A (.tuple (v :: us).toArray) B (.tuple (nlV A css :: us).toArray) (nlH A sz css) := by
  unfold nlV nlH
  split
  · rename_i h0
    rw [h.nil h0]
    refine Ended.back hA x rfl (RB.tuple fun w hw => ?_)
    simp only [List.mem_cons] at hw
    rcases hw with rfl | hw
    · exact RB.sl0 _ _
    · exact hu w hw
  · rename_i h0
    obtain ⟨id, g, c, rfl, h2, h3, h4, h5⟩ := h.has h0
    refine ⟨_, told_one hA x h3 h5 (fun u hu => by obtain ⟨c, hc, hu⟩ := List.mem_flatten.1 hu; exact hr c hc u hu), .tuple (by simp) fun i hi hi' => ?_⟩
    cases i with
    | zero => exact rr_one h5 h2
    | succ i =>
      simp only [List.getElem_toArray, List.getElem_cons_succ]
      exact .same (hu _ (List.getElem_mem _))
end

/-- Durations that are let in. -/
structure TOk (ls : List (List Int)) (ts : List Int) : Prop where
  dag : Dag ls
  len : ts.length = ls.length
  t : ∀ k, 0 ≤ ts.getD k 0 ∧ ts.getD k 0 ≤ 2000
theorem timF_inv {ls : List (List Int)} {ts : List Int} (h : timF ls ts = 0) : befF ls = 0 ∧ TOk ls ts := by
  unfold timF at h
  by_cases h1 : befF ls ≠ 0
  · rw [if_pos h1] at h; exact absurd h h1
  rw [if_neg h1] at h
  have h0 : befF ls = 0 := by simpa using h1
  by_cases h2 : ts.length ≠ ls.length
  · rw [if_pos h2] at h; cases h
  rw [if_neg h2] at h
  by_cases h3 : ∃ t ∈ ts, t < 0 ∨ 2000 < t
  · rw [if_pos h3] at h; cases h
  refine ⟨h0, befF_dag h0, by omega, fun k => ?_⟩
  by_cases hk : k < ts.length
  · rw [getD_at hk]
    have : ¬ (ts[k] < 0 ∨ 2000 < ts[k]) := fun q => h3 ⟨_, List.getElem_mem hk, q⟩
    omega
  · simp [List.getD, List.getElem?_eq_none (show ts.length ≤ k by omega)]
theorem est_le {ls : List (List Int)} {ts : List Int} (hd : Dag ls) (ht : ∀ k, 0 ≤ ts.getD k 0 ∧ ts.getD k 0 ≤ 2000) : ∀ k, k < ls.length → est ls ts k ≤ 2000 * k := by
  intro k
  induction k using Nat.strongRecOn with
  | ind k ih =>
    intro hk
    rw [est_eq (hd.el k hk)]
    refine mx_le.2 ⟨by omega, fun x hx => ?_⟩
    have := hd.el k hk x hx
    have := ih x.toNat (by omega) (by omega)
    have := ht x.toNat
    omega
theorem tend_le {ls : List (List Int)} {ts : List Int} (hd : Dag ls) (ht : ∀ k, 0 ≤ ts.getD k 0 ∧ ts.getD k 0 ≤ 2000) {n : Nat} (hn : n ≤ ls.length) : 0 ≤ tend ls ts n ∧ tend ls ts n ≤ 2000 * n := by
  refine ⟨mx_ge0, mx_le.2 ⟨by omega, fun k hk => ?_⟩⟩
  have hk := List.mem_range.1 hk
  have := est_le hd ht k (by omega)
  have := ht k
  omega
theorem earl_succ {ls : List (List Int)} {ts : List Int} {k : Nat} (h : ∀ x ∈ ls.getD k [], 0 ≤ x ∧ x < k) : earl ls ts (k + 1) = earl ls ts k ++ [est ls ts k] := by
  rw [earl_eq, earl_eq, List.range_succ, List.map_append]
  rfl
/-- What Times returns. -/
def tmL (ls : List (List Int)) (ts : List Int) : List Int := if timF ls ts = 0 then earl ls ts ls.length else []
def tmE (ls : List (List Int)) (ts : List Int) : Int := if timF ls ts = 0 then tend ls ts ls.length else 0
theorem i_rb {n : Nat} (l : List Int) : ∀ c ∈ l.map iC, ∀ u ∈ c, RB n u := fun c hc u hu => by
  obtain ⟨x, -, rfl⟩ := List.mem_map.1 hc
  rw [iC, List.mem_singleton] at hu
  subst hu; exact RB.int _ _
theorem i_len (l : List Int) : ∀ c ∈ l.map iC, c.length = 1 := fun c hc => by
  obtain ⟨x, -, rfl⟩ := List.mem_map.1 hc
  rfl

section
variable {G : Gl} {fl : Nat} {A : Hp}
set_option maxHeartbeats 8000000 in
theorem times_ok {v u : Value} {ls : List (List Int)} {ts : List Int} (h : Nst A v ls) (hmx : ∀ k, k < ls.length → (ls.getD k []).length ≤ 9223372036854775807) (ht : Sl A 1 u (ts.map iC)) (hln : ts.length ≤ 9223372036854775807) :
    Sound Try.prog G 26 [v, u] fl A (.tuple [nlV A ((tmL ls ts).map iC), .int .i64 (tmE ls ts), .int .i64 (timF ls ts)].toArray) (nlH A 1 ((tmL ls ts).map iC)) := by
  refine Sound.of mixed Try.func26 Try.ntmps26 Try.results26 (by kernel_rfl) rfl (by kernel_rfl) (by kernel_rfl) fun hA => ?_
  have cc := fun fl => long_ok (G := G) (fl := fl) h hmx ht hln
  obtain ⟨vs, hs, hl, hr⟩ := h
  obtain ⟨o, c, rfl⟩ := hs.len
  rw [List.length_map, hl] at hs cc ⊢
  obtain ⟨o2, c2, rfl⟩ := ht.len
  rw [List.length_map] at ht cc ⊢
  simp only [↓R1, R2, R3, R4, TY, reduceIte, Nat.reduceEqDiff, Nat.reduceAdd, Nat.reduceMul, Nat.reduceLT, Nat.reduceLeDiff, reduceCtorEq, decide_true, decide_false, Int.reduceLE, Int.reduceLT, Int.reduceToNat, Int.reduceAdd, Int.reduceSub, Int.reduceMul, Int.reduceEq, FE]
  refine call_of (cc _) ?_
  simp only [↓R1, R2, R3, R4, TY, reduceIte, Nat.reduceEqDiff, Nat.reduceAdd, Nat.reduceMul, Nat.reduceLT, Nat.reduceLeDiff, reduceCtorEq, decide_true, decide_false, Int.reduceLE, Int.reduceLT, Int.reduceToNat, Int.reduceAdd, Int.reduceSub, Int.reduceMul, Int.reduceEq, FE]
  refine ⟨fun h1 => ?_, fun h1 => ?_⟩
  rotate_left
  · have e1 : tmL ls ts = [] := by unfold tmL; rw [if_neg h1]
    have e2 : tmE ls ts = 0 := by unfold tmE; rw [if_neg h1]
    rw [e1, e2]
    exact Ended.acnT hA (Xt.refl _) Acn.none (i_rb []) (fun u hu => by simp at hu; rcases hu with rfl | rfl <;> exact RB.int _ _)
  obtain ⟨hb0, hT⟩ := timF_inv h1
  have e1 : tmL ls ts = earl ls ts ls.length := by unfold tmL; rw [if_pos h1]
  have e2 : tmE ls ts = tend ls ts ls.length := by unfold tmE; rw [if_pos h1]
  have hn := hT.dag.len
  have hlen := hT.len
  rw [e1, e2, h1]
  refine range_of 23 ls.length (fun k τ B => ∃ sb, Xt A.next A B ∧ Acn B A.next 1 sb ((earl ls ts k).map iC) ∧ τ 1 = some (.slice o2 ts.length c2) ∧ τ 8 = some sb ∧ τ 9 = some (.int .i64 (tend ls ts k)) ∧
      τ 21 = some (.slice o ls.length c) ∧ τ 22 = some (.int .i64 ls.length) ∧ τ 23 = some (.int .i64 k)) ?_ ?_
  · exact ⟨_, Xt.refl A, Acn.none, rfl, rfl, rfl, rfl, rfl, rfl⟩
  rintro k τ B hk ⟨sb, hx, hac, q1, q8, q9, q21, q22, q23⟩
  simp only [↓R1, R2, R3, R4, TY, reduceIte, Nat.reduceEqDiff, Nat.reduceAdd, Nat.reduceMul, Nat.reduceLT, Nat.reduceLeDiff, reduceCtorEq, decide_true, decide_false, Int.reduceLE, Int.reduceLT, Int.reduceToNat, Int.reduceAdd, Int.reduceSub, Int.reduceMul, Int.reduceEq, FE, q1, q8, q9, q21, q22, q23]
  refine ⟨fun hlt => ?_, fun hlt => ?_⟩
  rotate_left
  · have e : k = ls.length := by omega
    subst e
    exact Ended.acnT hA hx hac (i_rb _) (fun u hu => by simp at hu; rcases hu with rfl | rfl <;> exact RB.int _ _)
  have hsB := hs.xt hA hx
  have htB := ht.xt hA hx
  obtain ⟨a, rfl, -⟩ := hs.at (G := G) (i := k) (by simpa [hl] using hlt)
  have hab : a.block < B.next := Nat.lt_of_lt_of_le (hs.lt hA) hx.next
  have u0 := row_get (G := G) hsB (i := k) (by omega)
  have hsr := (hr k (by omega) hlt).xt hA hx
  obtain ⟨o1, c1, e1⟩ := hsr.len
  rw [e1, List.length_map] at hsr
  rw [e1, List.length_map] at u0
  have hL := hmx k hlt
  have hdag := hT.dag.el k hlt
  rw [getD_row hlt] at hL hdag
  have hest : est ls ts k = mx (fun x => (earl ls ts k).getD x.toNat 0 + ts.getD x.toNat 0) ls[k] 0 := by
    rw [est_eq (hT.dag.el k hlt), getD_row hlt]
    exact mx_congr fun x hx => by have := hdag x hx; rw [earl_get (by omega)]
  generalize hrw : ls[k] = l at *
  have k23 := q23
  obtain ⟨a2, rfl, -⟩ := ht.at (G := G) (i := k) (by simp; omega)
  have hab2 : a2.block < B.next := Nat.lt_of_lt_of_le (ht.lt hA) hx.next
  simp only [↓R1, R2, R3, R4, TY, reduceIte, Nat.reduceEqDiff, Nat.reduceAdd, Nat.reduceMul, Nat.reduceLT, Nat.reduceLeDiff, reduceCtorEq, decide_true, decide_false, Int.reduceLE, Int.reduceLT, Int.reduceToNat, Int.reduceAdd, Int.reduceSub, Int.reduceMul, Int.reduceEq, FE, q1, q8, q9, q21, q22, q23, hlt, hab, u0, Nat.mul_one]
  refine range_of 30 l.length (fun i τ C => C = B ∧ τ 1 = some (.slice (some a2) ts.length c2) ∧ τ 8 = some sb ∧ τ 9 = some (.int .i64 (tend ls ts k)) ∧ τ 10 = some (.int .i64 k) ∧ τ 12 = some (.int .i64 (mx (fun x => (earl ls ts k).getD x.toNat 0 + ts.getD x.toNat 0) (l.take i) 0)) ∧
      τ 21 = some (.slice (some a) ls.length c) ∧ τ 22 = some (.int .i64 ls.length) ∧ τ 23 = some (.int .i64 k) ∧
      τ 28 = some (.slice o1 l.length c1) ∧ τ 29 = some (.int .i64 l.length) ∧ τ 30 = some (.int .i64 i)) ?_ ?_
  · exact ⟨rfl, q1, q8, q9, rfl, rfl, q21, q22, q23, rfl, rfl, rfl⟩
  rintro i τ C hi ⟨rfl, q1, q8, q9, q10, q12, q21, q22, q23, q28, q29, q30⟩
  simp only [↓R1, R2, R3, R4, TY, reduceIte, Nat.reduceEqDiff, Nat.reduceAdd, Nat.reduceMul, Nat.reduceLT, Nat.reduceLeDiff, reduceCtorEq, decide_true, decide_false, Int.reduceLE, Int.reduceLT, Int.reduceToNat, Int.reduceAdd, Int.reduceSub, Int.reduceMul, Int.reduceEq, FE, q1, q8, q9, q10, q12, q21, q22, q23, q28, q29, q30]
  have hk63 : k < 9223372036854775807 := by omega
  refine ⟨fun hli => ?_, fun hli => ?_⟩
  rotate_left
  · have e : i = l.length := by omega
    subst e
    have zs : (1 ≤ (zl [Value.int .i64 0] 1).length) = True := eq_true (by decide)
    have zw : zl [Value.int .i64 0] 1 = [Value.int .i64 0] := rfl
    have hT1 := hT.t k
    have hTk : ts.getD k 0 = ts[k]'(by omega) := getD_at (by omega)
    have u5 := int_get (G := G) htB (i := k) (by omega)
    have hE1 := est_le hT.dag hT.t k hlt
    have hE0 := est_ge (ts := ts) (hT.dag.el k hlt)
    rw [List.take_of_length_le (Nat.le_refl _), ← hest] at q12
    rw [List.take_of_length_le (Nat.le_refl _), ← hest]
    simp only [↓R1, R2, R3, R4, TY, reduceIte, Nat.reduceEqDiff, Nat.reduceAdd, Nat.reduceMul, Nat.reduceLT, Nat.reduceLeDiff, reduceCtorEq, decide_true, decide_false, Int.reduceLE, Int.reduceLT, Int.reduceToNat, Int.reduceAdd, Int.reduceSub, Int.reduceMul, Int.reduceEq, FE, q1, q8, q9, q10, q12, q21, q22, q23, q28, q29, q30, zw, zs]
    refine app1 (lo := A.next) (sz := 1) (cl := iC (est ls ts k)) ty40 rfl ty3 rfl (by omega) rfl hac (by have := hA.floor; omega) hx.next rfl (by simp [iC, Value.oneCell']) (by simp [earl_len]; omega) (by simp [earl_len]; omega) ?_
    intro sb' D hac' hxD hnD hfD hidD
    have hxAD : Xt A.next A D := ⟨fun id hid => (hxD.blk id hid).trans (hx.blk id hid), by have := hx.next; omega⟩
    have u6 := int_get (G := G) (ht.xt hA hxAD) (i := k) (by omega)
    rw [← getD_at] at u6
    have habD : a2.block < D.next := by omega
    have kt : ((k : Int) < (ts.length : Int)) = True := eq_true (by omega)
    have w6 : IntKind.i64.wrap (est ls ts k + ts.getD k 0) = est ls ts k + ts.getD k 0 := wrapI (by omega)
    simp only [↓R1, R2, R3, R4, TY, reduceIte, Nat.reduceEqDiff, Nat.reduceAdd, Nat.reduceMul, Nat.reduceLT, Nat.reduceLeDiff, reduceCtorEq, decide_true, decide_false, Int.reduceLE, Int.reduceLT, Int.reduceToNat, Int.reduceAdd, Int.reduceSub, Int.reduceMul, Int.reduceEq, FE, q1, q8, q9, q10, q12, q21, q22, q23, u6, habD, kt, w6, hk63, Nat.mul_one]
    refine range_on k23 hlt rfl ⟨sb', hxAD, ?_, q1, rfl, ?_, q21, q22, rfl⟩
    · rw [earl_succ (hT.dag.el k hlt), List.map_append]; exact hac'
    · have ht1 : tend ls ts (k + 1) = max (tend ls ts k) (est ls ts k + ts.getD k 0) := by
        rw [tend, List.range_succ, mx_snoc]
        rfl
      rw [ht1]
      refine congrArg some (congrArg (Value.int .i64) ?_)
      split <;> omega
  obtain ⟨a1, rfl, -⟩ := hsr.at (G := G) (i := i) (by simpa using hli)
  have hab1 : a1.block < C.next := by
    have := hr k (by omega) hlt
    rw [e1] at this
    exact Nat.lt_of_lt_of_le (this.lt hA) hx.next
  have u1 := int_get (G := G) hsr hli
  have hxm : l[i] ∈ l := List.getElem_mem hli
  have hx2 := hdag _ hxm
  have hxs : (earl ls ts (k)).getD l[i].toNat 0 = est ls ts l[i].toNat := earl_get (by omega)
  have tk : l.take (i + 1) = l.take i ++ [l[i]] := List.take_succ_eq_append_getElem hli
  generalize hxx : l[i] = x at *
  have hne : (earl ls ts k).map iC ≠ [] := fun h => by
    have := congrArg List.length h
    rw [List.length_map, earl_len] at this
    simp at this; omega
  obtain ⟨id8, g8, c8, rfl, hc8, hid8, hid8n, hb8⟩ := hac.has hne
  have k8 := q8
  have k30 := q30
  rw [List.length_map, earl_len] at q8 hc8
  have hac8 := hac.sl
  rw [List.length_map, earl_len] at hac8
  have u3 := int_get (G := G) hac8 (i := x.toNat) (by rw [earl_len]; omega)
  rw [← getD_at, hxs] at u3
  simp only [aadd, Nat.zero_add] at u3
  have u4 := int_get (G := G) htB (i := x.toNat) (by omega)
  rw [← getD_at] at u4
  have x0 : (0 ≤ x) = True := eq_true (by omega)
  have x1 : (x < (k : Int)) = True := eq_true (by omega)
  have x2 : (x < (ts.length : Int)) = True := eq_true (by omega)
  have hE1 := est_le hT.dag hT.t x.toNat (by omega)
  have hE0 := est_ge (ts := ts) (hT.dag.el x.toNat (by omega))
  have hT1 := hT.t x.toNat
  have w1 : IntKind.i64.wrap (est ls ts x.toNat + ts.getD x.toNat 0) = est ls ts x.toNat + ts.getD x.toNat 0 := wrapI (by omega)
  have hi63 : i < 9223372036854775807 := by omega
  simp only [↓R1, R2, R3, R4, TY, reduceIte, Nat.reduceEqDiff, Nat.reduceAdd, Nat.reduceMul, Nat.reduceLT, Nat.reduceLeDiff, reduceCtorEq, decide_true, decide_false, Int.reduceLE, Int.reduceLT, Int.reduceToNat, Int.reduceAdd, Int.reduceSub, Int.reduceMul, Int.reduceEq, FE, q1, q8, q9, q10, q12, q21, q22, q23, q28, q29, q30, hli, hab1, u1, Nat.mul_one, hid8n, x0, x1, x2, u3, u4, hab2, w1, hi63]
  refine range_on k30 hli rfl ⟨rfl, q1, k8, q9, q10, ?_, q21, q22, q23, q28, q29, rfl⟩
  rw [tk, mx_snoc, hxs]
  refine congrArg some (congrArg (Value.int .i64) ?_)
  split <;> omega
end
end Go.Proofs.Ytjohiapgancocaa.Ab
