/- Orders: Latest. -/
import Derived.Test.YtjohiapgancocaaKd
namespace Go.Proofs.Ytjohiapgancocaa.Ab
open Go.RowKit
set_option linter.unusedVariables false
set_option linter.unusedSimpArgs false
set_option maxRecDepth 100000

/-- A row of numbers. -/
def rI (l : List Int) : List Value := l.map (Value.int .i64)
theorem rI_flat : ∀ {l : List Int}, (l.map iC).flatten = rI l
  | [] => rfl
  | x :: l => by simp only [List.map_cons, List.flatten_cons, rI_flat, iC, rI, List.singleton_append]
theorem rI_set {l : List Int} {i : Nat} {v : Int} : (rI l).set i (.int .i64 v) = rI (l.set i v) := by simp [rI, List.map_set]
theorem rI_rb {n : Nat} {l : List Int} : ∀ u ∈ rI l, RB n u := fun u hu => by
  obtain ⟨x, -, rfl⟩ := List.mem_map.1 hu; exact RB.int _ _
theorem rI_get {l : List Int} {i : Nat} (h : i < l.length) : (rI l)[i]? = some (.int .i64 (l.getD i 0)) := by rw [getD_at h]; simp [rI, h]
theorem rI_len {l : List Int} : (rI l).length = l.length := by simp [rI]
theorem rI_sl {B : Hp} {id g n c : Nat} {l : List Int} (hb : B.blk id = some (.row (rI l) g 1)) (hn : n = l.length) : Sl B 1 (.slice (some ⟨id, 0, some g⟩) n c) (l.map iC) := by
  subst hn
  exact ⟨i_len l, .inr (.inr ⟨_, _, _, g, _, rfl, by simp, rfl, hb, fun j x hj => by rw [rI_flat] at hj; simpa using hj⟩)⟩
/-- The first latest starts, while they are made. -/
def lat0 (ls : List (List Int)) (ts : List Int) (j : Nat) : List Int := (List.range ls.length).map fun k => if k < j then tend ls ts ls.length - ts.getD k 0 else 0
theorem lat0_len {ls : List (List Int)} {ts : List Int} {j : Nat} : (lat0 ls ts j).length = ls.length := by simp [lat0]
theorem lat0_set {ls : List (List Int)} {ts : List Int} {j : Nat} : (lat0 ls ts j).set j (tend ls ts ls.length - ts.getD j 0) = lat0 ls ts (j + 1) := by
  refine List.ext_getElem (by simp [lat0]) fun i h1 h2 => ?_
  rw [List.getElem_set]
  simp only [lat0, List.getElem_map, List.getElem_range]
  by_cases h : j = i
  · subst h; simp
  · rw [if_neg h]
    by_cases h3 : i < j
    · rw [if_pos h3, if_pos (by omega)]
    · rw [if_neg h3, if_neg (by omega)]
theorem lat0_end {ls : List (List Int)} {ts : List Int} : lat0 ls ts ls.length = lats ls ts 0 := by
  unfold lat0 lats
  refine List.map_congr_left fun k hk => ?_
  rw [if_pos (List.mem_range.1 hk)]
theorem latRow_snoc {ts : List Int} {k : Nat} {l out : List Int} {x : Int} : latRow ts k (l ++ [x]) out = (latRow ts k l out).set x.toNat (min ((latRow ts k l out).getD x.toNat 0) ((latRow ts k l out).getD k 0 - ts.getD x.toNat 0)) := by simp [latRow, List.foldl_append]
theorem ow_ok {ls : List (List Int)} {ts : List Int} (hT : TOk ls ts) : ∀ k, 0 ≤ (ow ls ts).getD k 0 ∧ (ow ls ts).getD k 0 ≤ 2000 := fun k => by
  by_cases hk : k < ls.length
  · rw [ow_get hk]; exact hT.t _
  · have : ow ls ts = ow ls ts := rfl
    rw [show (ow ls ts).getD k 0 = 0 by simp only [List.getD]; rw [List.getElem?_eq_none (by simp [ow]; omega)]; rfl]
    omega
theorem lats_le {ls : List (List Int)} {ts : List Int} (hT : TOk ls ts) {m i : Nat} (hm : m ≤ ls.length) (hi : i < ls.length) : -200000 ≤ (lats ls ts m).getD i 0 ∧ (lats ls ts m).getD i 0 ≤ 200000 := by
  rw [lats_get hT.dag hm hi]
  have h1 := tend_le hT.dag hT.t (Nat.le_refl ls.length)
  have h2 := hT.t i
  have hn := hT.dag.len
  have h3 : mx (fun y => aft ls ts y + ts.getD y 0) ((List.range ls.length).filter fun y => decide (ls.length - m ≤ y ∧ (i : Int) ∈ ls.getD y [])) 0 ≤ 100000 := by
    refine mx_le.2 ⟨by omega, fun y hy => ?_⟩
    have hy := List.mem_range.1 (List.mem_filter.1 hy).1
    have := est_le (bk_dag hT.dag) (ow_ok hT) (ls.length - 1 - y) (by rw [bk_len]; omega)
    have := hT.t y
    unfold aft
    omega
  have h4 := mx_ge0 (f := fun y => aft ls ts y + ts.getD y 0) (l := (List.range ls.length).filter fun y => decide (ls.length - m ≤ y ∧ (i : Int) ∈ ls.getD y [])) (a := 0)
  omega

section
variable {G : Gl} {fl : Nat} {A : Hp}
theorem Ended.newT {B : Hp} {id g sz n c : Nat} {cells us : List Value} (hA : Hok fl A) (x : Xt A.next A B) (hid : A.next ≤ id) (hb : B.blk id = some (.row cells g sz)) (hr : ∀ u ∈ cells, RB A.next u) (hnc : n ≤ c) (hu : ∀ u ∈ us, RB A.next u) :
    Ended A (.tuple (.slice (some ⟨id, 0, some g⟩) n c :: us).toArray) B (.tuple (.slice (some ⟨A.next, 0, some 0⟩) n n :: us).toArray) (A.push (.row cells 0 sz)) := by
  refine ⟨_, told_one hA x hid hb hr, .tuple (by simp) fun i hi hi' => ?_⟩
  cases i with
  | zero => exact rr_one hb hnc
  | succ i =>
    simp only [List.getElem_toArray, List.getElem_cons_succ]
    exact .same (hu _ (List.getElem_mem _))
def ltV (A : Hp) (ls : List (List Int)) (ts : List Int) : Value := if timF ls ts = 0 then .slice (some ⟨A.next, 0, some 0⟩) ls.length ls.length else .slice none 0 0
def ltH (A : Hp) (ls : List (List Int)) (ts : List Int) : Hp := if timF ls ts = 0 then A.push (.row (rI (lats ls ts ls.length)) 0 1) else A

set_option maxHeartbeats 8000000 in
theorem latest_ok {v u : Value} {ls : List (List Int)} {ts : List Int} (h : Nst A v ls) (hmx : ∀ k, k < ls.length → (ls.getD k []).length ≤ 9223372036854775807) (ht : Sl A 1 u (ts.map iC)) (hln : ts.length ≤ 9223372036854775807) :
    Sound Try.prog G 27 [v, u] fl A (.tuple [ltV A ls ts, .int .i64 (timF ls ts)].toArray) (ltH A ls ts) := by
  refine Sound.of mixed Try.func27 Try.ntmps27 Try.results27 (by kernel_rfl) rfl (by kernel_rfl) (by kernel_rfl) fun hA => ?_
  have cc := fun fl => times_ok (G := G) (fl := fl) h hmx ht hln
  obtain ⟨vs, hs, hl, hr⟩ := h
  obtain ⟨o, c, rfl⟩ := hs.len
  rw [List.length_map, hl] at hs cc ⊢
  obtain ⟨o2, c2, rfl⟩ := ht.len
  rw [List.length_map] at ht cc ⊢
  have hx1 := nlH_xt (A := A) (sz := 1) (css := (tmL ls ts).map iC)
  generalize nlV A ((tmL ls ts).map iC) = r1 at cc
  generalize nlH A 1 ((tmL ls ts).map iC) = A1 at cc hx1
  simp only [↓R1, R2, R3, R4, TY, reduceIte, Nat.reduceEqDiff, Nat.reduceAdd, Nat.reduceMul, Nat.reduceLT, Nat.reduceLeDiff, reduceCtorEq, decide_true, decide_false, Int.reduceLE, Int.reduceLT, Int.reduceToNat, Int.reduceAdd, Int.reduceSub, Int.reduceMul, Int.reduceEq, FE]
  refine call_of (cc _) ?_
  simp only [↓R1, R2, R3, R4, TY, reduceIte, Nat.reduceEqDiff, Nat.reduceAdd, Nat.reduceMul, Nat.reduceLT, Nat.reduceLeDiff, reduceCtorEq, decide_true, decide_false, Int.reduceLE, Int.reduceLT, Int.reduceToNat, Int.reduceAdd, Int.reduceSub, Int.reduceMul, Int.reduceEq, FE]
  refine ⟨fun h1 => ?_, fun h1 => ?_⟩
  rotate_left
  · rw [ltV, ltH, if_neg h1, if_neg h1]
    exact Ended.back hA hx1 rfl (RB.tuple fun w hw => by simp at hw; rcases hw with rfl | rfl; exact RB.sl0 _ _; exact RB.int _ _)
  obtain ⟨hb0, hT⟩ := timF_inv h1
  have hn := hT.dag.len
  have hlen := hT.len
  have e2 : tmE ls ts = tend ls ts ls.length := by unfold tmE; rw [if_pos h1]
  rw [ltV, ltH, if_pos h1, if_pos h1, h1, e2]
  have n2 : (8 * (ls.length : Int) ≤ 281474976710656) = True := eq_true (by omega)
  have hz : zl [Value.int .i64 0] ls.length = rI (lat0 ls ts 0) := by
    simp only [zl, rI, lat0, List.map_map]
    refine List.map_congr_left fun j _ => ?_
    simp [Nat.mod_one]
  have n3 : ((ls.length : Int) ≤ 9223372036854775807) = True := eq_true (by omega)
  simp only [↓R1, R2, R3, R4, TY, reduceIte, Nat.reduceEqDiff, Nat.reduceAdd, Nat.reduceMul, Nat.reduceLT, Nat.reduceLeDiff, reduceCtorEq, decide_true, decide_false, Int.reduceLE, Int.reduceLT, Int.reduceToNat, Int.reduceAdd, Int.reduceSub, Int.reduceMul, Int.reduceEq, FE, n2, n3, hz]
  refine range_of 29 ls.length (fun j τ B => Xt A.next A B ∧ A1.next < B.next ∧ B.blk A1.next = some (.row (rI (lat0 ls ts j)) 0 1) ∧ τ 0 = some (.slice o ls.length c) ∧ τ 1 = some (.slice o2 ts.length c2) ∧ τ 7 = some (.int .i64 (tend ls ts ls.length)) ∧
      τ 9 = some (.slice (some ⟨A1.next, 0, some 0⟩) ls.length ls.length) ∧ τ 28 = some (.int .i64 ls.length) ∧ τ 29 = some (.int .i64 j)) ?_ ?_
  · exact ⟨hx1.push _, by simp, (by rw [Hp.push_blk, if_pos rfl]), rfl, rfl, rfl, rfl, rfl, rfl⟩
  rintro j τ B hj ⟨hx, hAB, hrow, q0, q1, q7, q9, q28, q29⟩
  have hfl1 : fl ≤ A1.next := Nat.le_trans hA.floor hx1.next
  simp only [↓R1, R2, R3, R4, TY, reduceIte, Nat.reduceEqDiff, Nat.reduceAdd, Nat.reduceMul, Nat.reduceLT, Nat.reduceLeDiff, reduceCtorEq, decide_true, decide_false, Int.reduceLE, Int.reduceLT, Int.reduceToNat, Int.reduceAdd, Int.reduceSub, Int.reduceMul, Int.reduceEq, FE, q0, q1, q7, q9, q28, q29]
  refine ⟨fun hlt => ?_, fun hlt => ?_⟩
  · obtain ⟨a2, rfl, -⟩ := ht.at (G := G) (i := j) (by simp; omega)
    have hab2 : a2.block < B.next := Nat.lt_of_lt_of_le (ht.lt hA) hx.next
    have u4 := int_get (G := G) (ht.xt hA hx) (i := j) (by omega)
    rw [← getD_at] at u4
    have jt : ((j : Int) < (ts.length : Int)) = True := eq_true (by omega)
    have jl : ((j : Int) < (ls.length : Int)) = True := eq_true (by omega)
    have hT1 := hT.t j
    have hte := tend_le hT.dag hT.t (Nat.le_refl ls.length)
    have w1 : IntKind.i64.wrap (tend ls ts ls.length - ts.getD j 0) = tend ls ts ls.length - ts.getD j 0 := wrapI (by omega)
    have hj63 : j < 9223372036854775807 := by omega
    have kk := q29
    have rl : (j + 1 ≤ (rI (lat0 ls ts j)).length) = True := eq_true (by rw [rI_len, lat0_len]; exact hlt)
    simp only [↓R1, R2, R3, R4, TY, reduceIte, Nat.reduceEqDiff, Nat.reduceAdd, Nat.reduceMul, Nat.reduceLT, Nat.reduceLeDiff, reduceCtorEq, decide_true, decide_false, Int.reduceLE, Int.reduceLT, Int.reduceToNat, Int.reduceAdd, Int.reduceSub, Int.reduceMul, Int.reduceEq, FE, q0, q1, q7, q9, q28, q29, hab2, u4, jt, jl, w1, hj63, Nat.mul_one, hAB, hfl1, hrow, rl]
    refine range_on kk hlt rfl ⟨hx.put hx1.next _, hAB, ?_, q0, q1, q7, q9, q28, rfl⟩
    rw [Hp.put_blk, if_pos rfl, rI_set, lat0_set]
  have e : j = ls.length := by omega
  subst e
  rw [lat0_end] at hrow
  have w2 : IntKind.i64.wrap ((ls.length : Int) - 1) = (ls.length : Int) - 1 := wrapI (by omega)
  simp only [↓R1, R2, R3, R4, TY, reduceIte, Nat.reduceEqDiff, Nat.reduceAdd, Nat.reduceMul, Nat.reduceLT, Nat.reduceLeDiff, reduceCtorEq, decide_true, decide_false, Int.reduceLE, Int.reduceLT, Int.reduceToNat, Int.reduceAdd, Int.reduceSub, Int.reduceMul, Int.reduceEq, FE, q0, q1, q7, q9, q28, q29, w2]
  refine loop_of (fun τ C => ∃ m, m ≤ ls.length ∧ Xt A.next A C ∧ A1.next < C.next ∧ C.blk A1.next = some (.row (rI (lats ls ts m)) 0 1) ∧ τ 0 = some (.slice o ls.length c) ∧ τ 1 = some (.slice o2 ts.length c2) ∧
      τ 9 = some (.slice (some ⟨A1.next, 0, some 0⟩) ls.length ls.length) ∧ τ 11 = some (.int .i64 ((ls.length : Int) - 1 - m))) (fun τ _ => match τ 11 with | some (.int _ x) => (x + 1).toNat | _ => 0) ?_ ?_
  · exact ⟨0, by omega, hx, hAB, hrow, q0, q1, q9, by rw [Int.natCast_zero, Int.sub_zero]; rfl⟩
  rintro τ C ⟨m, hm, hx, hAB, hrow, q0, q1, q9, q11⟩
  rcases Nat.lt_or_ge m ls.length with hlt | hge
  rotate_left
  · obtain rfl : m = ls.length := by omega
    have ng : (0 ≤ (ls.length : Int) - 1 - (ls.length : Int)) = False := eq_false (by omega)
    simp only [↓R1, R2, R3, R4, TY, reduceIte, Nat.reduceEqDiff, Nat.reduceAdd, Nat.reduceMul, Nat.reduceLT, Nat.reduceLeDiff, reduceCtorEq, decide_true, decide_false, Int.reduceLE, Int.reduceLT, Int.reduceToNat, Int.reduceAdd, Int.reduceSub, Int.reduceMul, Int.reduceEq, FE, q0, q1, q9, q11, ng]
    exact Ended.newT hA hx hx1.next hrow rI_rb (Nat.le_refl _) (fun u hu => by simp at hu; subst hu; exact RB.int _ _)
  obtain ⟨k, hk⟩ : ∃ k, k = ls.length - 1 - m := ⟨_, rfl⟩
  have ek : (ls.length : Int) - 1 - (m : Int) = (k : Int) := by omega
  rw [ek] at q11
  have k0 : (0 ≤ (k : Int)) = True := eq_true (by omega)
  have kl : ((k : Int) < (ls.length : Int)) = True := eq_true (by omega)
  have hkl : k < ls.length := by omega
  have k11 := q11
  obtain ⟨a, rfl, -⟩ := hs.at (G := G) (i := k) (by simpa [hl] using hkl)
  have hab : a.block < C.next := Nat.lt_of_lt_of_le (hs.lt hA) hx.next
  have u0 := row_get (G := G) (hs.xt hA hx) (i := k) (by omega)
  have hsr := hr k (by omega) hkl
  obtain ⟨o1, c1, e1⟩ := hsr.len
  rw [e1, List.length_map] at hsr
  rw [e1, List.length_map] at u0
  have hL := hmx k hkl
  have hdag := hT.dag.el k hkl
  have hlast : lats ls ts (m + 1) = latRow ts k (ls.getD k []) (lats ls ts m) := by rw [lats, ← hk]
  rw [getD_row hkl] at hL hdag hlast
  generalize hrw : ls[k] = l at *
  simp only [↓R1, R2, R3, R4, TY, reduceIte, Nat.reduceEqDiff, Nat.reduceAdd, Nat.reduceMul, Nat.reduceLT, Nat.reduceLeDiff, reduceCtorEq, decide_true, decide_false, Int.reduceLE, Int.reduceLT, Int.reduceToNat, Int.reduceAdd, Int.reduceSub, Int.reduceMul, Int.reduceEq, FE, q0, q1, q9, q11, k0, kl, hab, u0, Nat.mul_one]
  refine range_of 54 l.length (fun i τ D => Xt A.next A D ∧ A1.next < D.next ∧ D.blk A1.next = some (.row (rI (latRow ts k (l.take i) (lats ls ts m))) 0 1) ∧ τ 0 = some (.slice (some a) ls.length c) ∧ τ 1 = some (.slice o2 ts.length c2) ∧
      τ 9 = some (.slice (some ⟨A1.next, 0, some 0⟩) ls.length ls.length) ∧ τ 11 = some (.int .i64 k) ∧ τ 52 = some (.slice o1 l.length c1) ∧ τ 53 = some (.int .i64 l.length) ∧ τ 54 = some (.int .i64 i)) ?_ ?_
  · exact ⟨hx, hAB, hrow, q0, q1, q9, q11, rfl, rfl, rfl⟩
  rintro i τ D hi ⟨hx, hAB, hrow, q0, q1, q9, q11, q52, q53, q54⟩
  simp only [↓R1, R2, R3, R4, TY, reduceIte, Nat.reduceEqDiff, Nat.reduceAdd, Nat.reduceMul, Nat.reduceLT, Nat.reduceLeDiff, reduceCtorEq, decide_true, decide_false, Int.reduceLE, Int.reduceLT, Int.reduceToNat, Int.reduceAdd, Int.reduceSub, Int.reduceMul, Int.reduceEq, FE, q0, q1, q9, q11, q52, q53, q54]
  refine ⟨fun hli => ?_, fun hli => ?_⟩
  rotate_left
  · have e : i = l.length := by omega
    subst e
    rw [List.take_of_length_le (Nat.le_refl _), ← hlast] at hrow
    have w3 : IntKind.i64.wrap ((k : Int) - 1) = (k : Int) - 1 := wrapI (by omega)
    simp only [↓R1, R2, R3, R4, TY, reduceIte, Nat.reduceEqDiff, Nat.reduceAdd, Nat.reduceMul, Nat.reduceLT, Nat.reduceLeDiff, reduceCtorEq, decide_true, decide_false, Int.reduceLE, Int.reduceLT, Int.reduceToNat, Int.reduceAdd, Int.reduceSub, Int.reduceMul, Int.reduceEq, FE, q0, q1, q9, q11, q52, q53, q54, w3]
    refine loop_on ⟨m + 1, by omega, hx, hAB, hrow, q0, q1, q9, congrArg some (congrArg (Value.int .i64) (by omega))⟩ ?_
    simp only [k11]
    show ((k : Int) - 1 + 1).toNat < ((k : Int) + 1).toNat
    omega
  obtain ⟨a1, rfl, -⟩ := hsr.at (G := G) (i := i) (by simpa using hli)
  have hsrA := hr k (by omega) hkl
  rw [e1] at hsrA
  have hab1 : a1.block < D.next := Nat.lt_of_lt_of_le (hsrA.lt hA) hx.next
  have u1 := int_get (G := G) (hsrA.xt hA hx) (i := i) (by rw [hrw]; exact hli)
  simp only [hrw] at u1
  have hxm : l[i] ∈ l := List.getElem_mem hli
  have hx2 := hdag _ hxm
  have tk : l.take (i + 1) = l.take i ++ [l[i]] := List.take_succ_eq_append_getElem hli
  generalize hxx : l[i] = x at *
  have rlen : (latRow ts k (l.take i) (lats ls ts m)).length = ls.length := by rw [latRow_len, lats_len]
  have rk : (latRow ts k (l.take i) (lats ls ts m)).getD k 0 = (lats ls ts m).getD k 0 := by
    rw [latRow_get (fun y hy => hdag y (List.mem_of_mem_take hy)) (by rw [lats_len]; exact hkl), if_neg]
    intro hm
    have := hdag _ (List.mem_of_mem_take hm)
    omega
  have hbd := lats_le hT (Nat.le_of_lt hlt) hkl
  rw [← rk] at hbd
  have tk2 : rI (latRow ts k (l.take (i + 1)) (lats ls ts m)) = (rI (latRow ts k (l.take i) (lats ls ts m))).set x.toNat (.int .i64 (min ((latRow ts k (l.take i) (lats ls ts m)).getD x.toNat 0) ((latRow ts k (l.take i) (lats ls ts m)).getD k 0 - ts.getD x.toNat 0))) := by
    rw [tk, latRow_snoc, rI_set]
  generalize latRow ts k (l.take i) (lats ls ts m) = R at *
  have v1 : D.get G ⟨A1.next, x.toNat, some 0⟩ = some (.int .i64 (R.getD x.toNat 0)) := by simp only [Hp.get, hrow, if_true]; exact rI_get (by omega)
  have v2 : D.get G ⟨A1.next, k, some 0⟩ = some (.int .i64 (R.getD k 0)) := by simp only [Hp.get, hrow, if_true]; exact rI_get (by omega)
  obtain ⟨a2, rfl, -⟩ := ht.at (G := G) (i := k) (by simp; omega)
  have hab2 : a2.block < D.next := Nat.lt_of_lt_of_le (ht.lt hA) hx.next
  have u4 := int_get (G := G) (ht.xt hA hx) (i := x.toNat) (by omega)
  rw [← getD_at] at u4
  have x0 : (0 ≤ x) = True := eq_true (by omega)
  have x1 : (x < (ls.length : Int)) = True := eq_true (by omega)
  have x2 : (x < (ts.length : Int)) = True := eq_true (by omega)
  have hT1 := hT.t x.toNat
  have w4 : IntKind.i64.wrap (R.getD k 0 - ts.getD x.toNat 0) = R.getD k 0 - ts.getD x.toNat 0 := wrapI (by omega)
  have hi63 : i < 9223372036854775807 := by omega
  have k54 := q54
  have rl : (x.toNat + 1 ≤ (rI R).length) = True := eq_true (by rw [rI_len]; omega)
  simp only [↓R1, R2, R3, R4, TY, reduceIte, Nat.reduceEqDiff, Nat.reduceAdd, Nat.reduceMul, Nat.reduceLT, Nat.reduceLeDiff, reduceCtorEq, decide_true, decide_false, Int.reduceLE, Int.reduceLT, Int.reduceToNat, Int.reduceAdd, Int.reduceSub, Int.reduceMul, Int.reduceEq, FE, q0, q1, q9, q11, q52, q53, q54, hli, hab1, u1, Nat.mul_one, x0, x1, x2, u4, hab2, w4, hi63, hAB, hrow, v1, v2, kl, k0, hfl1, rl]
  rw [floOf_wr (by kernel_rfl)]
  simp only [↓R1, R2, R3, R4, TY, reduceIte, Nat.reduceEqDiff, Nat.reduceAdd, Nat.reduceMul, Nat.reduceLT, Nat.reduceLeDiff, reduceCtorEq, decide_true, decide_false, Int.reduceLE, Int.reduceLT, Int.reduceToNat, Int.reduceAdd, Int.reduceSub, Int.reduceMul, Int.reduceEq, FE, q0, q1, q9, q11, q52, q53, q54, hli, hab1, u1, Nat.mul_one, x0, x1, x2, u4, hab2, w4, hi63, hAB, hrow, v1, v2, kl, k0, hfl1, rl]
  refine range_on k54 hli rfl ⟨hx.put hx1.next _, hAB, ?_, q0, q1, q9, q11, q52, q53, rfl⟩
  rw [Hp.put_blk, if_pos rfl, tk2]
  have imin : ∀ a b : Int, (if b < a then b else a) = min a b := fun a b => by split <;> omega
  simp only [imin]
end
end Go.Proofs.Ytjohiapgancocaa.Ab
