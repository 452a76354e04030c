/- Polygons: frames of lists, Has, Area, Support; gantmake.Poly; the fact about package poly. -/
import Derived.Test.YthclikeipdplpaaDoorYd
namespace Go.Proofs.YthclikeipdplpaaDoor.Ab
open Go.RowKit
set_option linter.unusedVariables false
set_option linter.unusedSimpArgs false
set_option maxRecDepth 100000

theorem pr0_len : pr0.length = 6 := rfl
theorem vC_len (p : V2) : (vC p).length = 6 := rfl
theorem set_chunk (a b c d e f : Value) : ∀ (css : List (List Value)) (i : Nat), (∀ x ∈ css, x.length = 6) → i < css.length →
    (((((css.flatten.set (i * 6) a).set (i * 6 + 1) b).set (i * 6 + 2) c).set (i * 6 + 3) d).set (i * 6 + 4) e).set (i * 6 + 5) f = (css.set i [a, b, c, d, e, f]).flatten
  | [], i, _, hi => by simp at hi
  | x :: xs, i, hl, hi => by
    have hx : x.length = 6 := hl x (by simp)
    match x, hx with
    | [x0, x1, x2, x3, x4, x5], _ =>
      cases i with
      | zero => simp
      | succ i =>
        have ih := set_chunk a b c d e f xs i (fun y hy => hl y (by simp [hy])) (by simpa using hi)
        have h6 : ∀ j, (i + 1) * 6 + j = i * 6 + j + 1 + 1 + 1 + 1 + 1 + 1 := fun j => by omega
        rw [show (i + 1) * 6 = i * 6 + 1 + 1 + 1 + 1 + 1 + 1 by omega]
        simp only [List.flatten_cons, List.cons_append, List.nil_append, List.set_cons_succ, show i * 6 + 1 + 1 + 1 + 1 + 1 + 1 + 1 = i * 6 + 1 + 1 + 1 + 1 + 1 + 1 + 1 from rfl]
        rw [ih]
theorem flt_len {n : Nat} : ∀ {css : List (List Value)}, (∀ x ∈ css, x.length = n) → css.flatten.length = css.length * n
  | [], _ => by simp
  | x :: xs, h => by
    rw [List.flatten_cons, List.length_append, h x (by simp), flt_len fun y hy => h y (by simp [hy]), List.length_cons, Nat.succ_mul]; omega
/-- So many of the first ones done. -/
def part (n i : Nat) (f : Nat → List Value) : List (List Value) := (List.range n).map fun j => if j < i then f j else pr0
theorem part_length {n i : Nat} {f : Nat → List Value} : (part n i f).length = n := by simp [part]
theorem part_6 {n i : Nat} {f : Nat → List Value} (h : ∀ j, (f j).length = 6) : ∀ x ∈ part n i f, x.length = 6 := by
  intro x hx
  obtain ⟨j, _, rfl⟩ := List.mem_map.1 hx
  show (if j < i then f j else pr0).length = 6
  split
  · exact h j
  · rfl
theorem part_set {n i : Nat} {f : Nat → List Value} (hi : i < n) : (part n i f).set i (f i) = part n (i + 1) f := by
  apply List.ext_getElem?
  intro j
  rw [List.getElem?_set]
  by_cases hj : j < n
  · have e : ∀ m, (part n m f)[j]? = some (if j < m then f j else pr0) := fun m => by simp [part, hj]
    rw [e, e]
    by_cases hij : i = j
    · subst hij; rw [if_pos rfl, if_pos (by rw [part_length]; exact hi), if_pos (by omega)]
    · rw [if_neg hij]
      by_cases h2 : j < i
      · rw [if_pos h2, if_pos (by omega)]
      · rw [if_neg h2, if_neg (by omega)]
  · have e : ∀ m, (part n m f)[j]? = none := fun m => List.getElem?_eq_none (by rw [part_length]; omega)
    rw [e, e, if_neg (by omega)]
theorem part_all {l : List V2} {g : V2 → V2} : part l.length l.length (fun j => vC (g (pget l j))) = (l.map g).map vC := by
  apply List.ext_getElem?
  intro j
  by_cases hj : j < l.length
  · simp [part, hj, pget]
  · rw [List.getElem?_eq_none (by rw [part_length]; omega), List.getElem?_eq_none (by simp; omega)]
theorem zl_part {n : Nat} {f : Nat → List Value} : zl [Value.bool false, .string { data := #[] }, .string { data := #[] }, .bool false, .string { data := #[] }, .string { data := #[] }] (n * 6) = (part n 0 f).flatten := by
  apply List.ext_getElem?
  intro j
  have hl : ∀ x ∈ part n 0 f, x.length = 6 := by
    intro x hx
    obtain ⟨i, _, rfl⟩ := List.mem_map.1 hx
    rfl
  by_cases hj : j < n * 6
  · have e1 : (part n 0 f)[j / 6]? = some pr0 := by simp [part, show j / 6 < n by omega]
    have e2 : pr0[j % 6]? = some (pr0[j % 6]'(by rw [pr0_len]; omega)) := List.getElem?_eq_getElem _
    have := flatten_get hl e1 e2
    rw [show j / 6 * 6 + j % 6 = j by omega] at this
    rw [this]
    simp only [zl, List.getElem?_map, List.getElem?_range hj, Option.map_some]
    have hlen : ([Value.bool false, .string { data := #[] }, .string { data := #[] }, .bool false, .string { data := #[] }, .string { data := #[] }] : List Value).length = 6 := rfl
    rw [hlen]
    show some (pr0.getD (j % 6) default) = _
    rw [List.getD_eq_getElem?_getD, e2]
    rfl
  · rw [List.getElem?_eq_none (by simp [zl]; omega), List.getElem?_eq_none (by rw [flt_len hl, part_length]; omega)]
theorem vC_rb (n : Nat) (p : V2) : ∀ u ∈ vC p, RB n u := by
  intro u hu
  simp only [vC_def, List.mem_cons, List.not_mem_nil, or_false] at hu
  rcases hu with rfl | rfl | rfl | rfl | rfl | rfl <;> exact RB.zc rfl
theorem vCs_rb (n : Nat) (l : List V2) : ∀ u ∈ (l.map vC).flatten, RB n u := by
  intro u hu
  obtain ⟨c, hc, hu⟩ := List.mem_flatten.1 hu
  obtain ⟨p, _, rfl⟩ := List.mem_map.1 hc
  exact vC_rb n p u hu
def Fz (x y : Rat) (o : Option Rat) (j k : Nat) : Prop := Rz x j ∧ Rz y j ∧ Rz (o.getD 0) k

section
variable {G : Gl} {fl : Nat} {A : Hp}

set_option maxHeartbeats 4000000 in
theorem flistn {x y : Rat} {o : Option Rat} {j k m : Nat} {v : Value} {l : List V2} (hG : G 1 = some tabV) (hf : Fz x y o j k) (hz : Lz l m) (hs : Sl A 6 v (l.map vC)) (hn : l.length ≤ 100000) (hk : j + 2 * m + 8 * k ≤ 8000) :
    Sound Tryd.prog G 13 [frV x y o, v] fl A (.slice (some ⟨A.next, 0, some 0⟩) l.length l.length) (A.push (.row ((l.map (mv x y o)).map vC).flatten 0 6)) := by
  refine Sound.of mixed Tryd.func13 Tryd.ntmps13 Tryd.results13 (by kernel_rfl) rfl (by kernel_rfl) (by simp) fun hA => ?_
  obtain ⟨oo, c, rfl⟩ := hs.len
  rw [List.length_map] at hs ⊢
  have hfl : fl ≤ A.next := by have := hA.floor; omega
  have hfl1 : fl ≤ A.next + 1 := by have := hA.floor; omega
  have hfl2 : fl ≤ A.next + 2 := by have := hA.floor; omega
  have hfl3 : fl ≤ A.next + 3 := by have := hA.floor; omega
  have hfl4 : fl ≤ A.next + 4 := by have := hA.floor; omega
  have hfl5 : fl ≤ A.next + 5 := by have := hA.floor; omega
  have hfl6 : fl ≤ A.next + 6 := by have := hA.floor; omega
  have w4 : ((80 : Nat) : Int) * ((l.length : Nat) : Int) ≤ 281474976710656 := by omega
  have w5 : ((l.length : Nat) : Int) ≤ 281474976710656 := by omega
  have w6 : ((l.length : Nat) : Int) ≤ 9223372036854775807 := by omega
  have w7 : (0 : Int) ≤ ((l.length : Nat) : Int) := by omega
  simp only [frV_def]
  simp only [↓R1, R2, R3, R4, TY, reduceIte, Nat.reduceEqDiff, Nat.reduceAdd, Nat.reduceMul, Nat.reduceLT, Nat.reduceLeDiff, reduceCtorEq, decide_true, decide_false, Int.reduceLE, Int.reduceLT, Int.reduceToNat, Int.reduceAdd, Int.reduceSub, Int.reduceMul, Int.reduceEq, hfl, hfl1, hfl2, hfl3, hfl4, hfl5, hfl6, NE, NE9, Nat.add_assoc, w4, w5, w6, w7]
  refine range_of 13 l.length (fun i τ C => Xt A.next A C ∧ A.next + 1 < C.next ∧ C.blk A.next = some (.row [.bool (decide (x.num < 0)), .string (S (nb x.num.natAbs)), .string (S (nb x.den)), .bool (decide (y.num < 0)), .string (S (nb y.num.natAbs)), .string (S (nb y.den)), .bool o.isNone, .bool (decide ((o.getD 0).num < 0)), .string (S (nb (o.getD 0).num.natAbs)), .string (S (nb (o.getD 0).den))] 0 10) ∧ C.blk (A.next + 1) = some (.row (part l.length i (fun j => vC (mv x y o (pget l j)))).flatten 0 6) ∧
    τ 2 = some (.pointer (some ⟨A.next, 0, some 0⟩)) ∧ τ 5 = some (.slice (some ⟨A.next + 1, 0, some 0⟩) l.length l.length) ∧ τ 11 = some (.slice oo l.length c) ∧ τ 12 = some (.int .i64 (l.length : Nat)) ∧ τ 13 = some (.int .i64 (i : Nat))) ?_ ?_
  · exact ⟨((Xt.refl A).push _).push _, Nat.lt_succ_self _, by rw [Hp.push_blk, if_neg (by simp only [Hp.push_next]; omega)]; exact push_at rfl, (push_at rfl).trans (congrArg (fun c => some (Blk.row c 0 6)) zl_part), rfl, rfl, rfl, rfl, rfl⟩
  rintro i τ C hi ⟨hCx, hCn, hC0, hC1, q2, q5, q11, q12, q13⟩
  simp only [↓R1, R2, R3, R4, TY, reduceIte, Nat.reduceEqDiff, Nat.reduceAdd, Nat.reduceMul, Nat.reduceLT, Nat.reduceLeDiff, reduceCtorEq, decide_true, decide_false, Int.reduceLE, Int.reduceLT, Int.reduceToNat, Int.reduceAdd, Int.reduceSub, Int.reduceMul, Int.reduceEq, q2, q5, q11, q12, q13]
  refine ⟨fun hlt => ?_, fun hlt => ?_⟩
  rotate_left
  · have e : i = l.length := by omega
    subst e
    rw [part_all] at hC1
    exact Ended.one hA hCx (Nat.le_succ _) hC1 (Nat.le_refl _) (vCs_rb _ _)
  have hlt' : i < l.length := by omega
  obtain ⟨a, rfl, -⟩ := hs.at (G := G) (i := i) (by simpa using hlt')
  have hsC := hs.xt hA hCx
  have hac : a.block < C.next := Nat.lt_of_lt_of_le (hs.lt hA) hCx.next
  have hflC : fl ≤ C.next := Nat.le_trans hA.floor hCx.next
  obtain ⟨g0, g1, g2, g3, g4, g5⟩ := vec_get (G := G) hsC hlt'
  have gf : ∀ i, C.get G ⟨A.next, i, some 0⟩ = ([.bool (decide (x.num < 0)), .string (S (nb x.num.natAbs)), .string (S (nb x.den)), .bool (decide (y.num < 0)), .string (S (nb y.num.natAbs)), .string (S (nb y.den)), .bool o.isNone, .bool (decide ((o.getD 0).num < 0)), .string (S (nb (o.getD 0).num.natAbs)), .string (S (nb (o.getD 0).den))] : List Value)[i]? := fun i => by simp only [Hp.get, hC0, if_true]
  have p1 := fun fl A => fput (G := G) (fl := fl) (A := A) hG hf.1 hf.2.1 hf.2.2 (hz.at hlt').1 (hz.at hlt').2 hk
  simp only [prV_def, frV_def] at p1
  have hn0 : A.next < C.next := by omega
  have hb0 : A.next < C.next + 1 := by omega
  have hb1 : A.next + 1 < C.next + 1 := by omega
  have ne1 : (A.next + 1 = C.next) = False := eq_false (by omega)
  have ne2 : (A.next = C.next) = False := eq_false (by omega)
  have ne3 : (C.next = A.next + 1) = False := eq_false (by omega)
  have ne4 : (A.next = A.next + 1) = False := eq_false (by omega)
  have hlen : (part l.length i (fun j => vC (mv x y o (pget l j)))).flatten.length = l.length * 6 := by rw [flt_len (part_6 fun j => vC_len _), part_length]
  have hle : i * 6 + 6 ≤ l.length * 6 := by omega
  have hi63 : i < 9223372036854775807 := by omega
  simp only [↓R1, R2, R3, R4, TY, reduceIte, Nat.reduceEqDiff, Nat.reduceAdd, Nat.reduceMul, Nat.reduceLT, Nat.reduceLeDiff, reduceCtorEq, decide_true, decide_false, Int.reduceLE, Int.reduceLT, Int.reduceToNat, Int.reduceAdd, Int.reduceSub, Int.reduceMul, Int.reduceEq, q2, q5, q11, q12, q13, hlt, g0, g1, g2, g3, g4, g5, hac, hflC, gf, hn0, hb0, hb1, ne1, ne2, ne3, ne4, hC1, hlen, hle, hfl, hfl1, hfl2, hfl3, hfl4, hfl5, hfl6, NE, NE9, Nat.add_assoc]
  refine call_of (p1 _ _) ?_
  simp only [↓R1, R2, R3, R4, TY, reduceIte, Nat.reduceEqDiff, Nat.reduceAdd, Nat.reduceMul, Nat.reduceLT, Nat.reduceLeDiff, reduceCtorEq, decide_true, decide_false, Int.reduceLE, Int.reduceLT, Int.reduceToNat, Int.reduceAdd, Int.reduceSub, Int.reduceMul, Int.reduceEq, q2, q5, q11, q12, q13, hlt, g0, g1, g2, g3, g4, g5, hac, hflC, gf, hn0, hb0, hb1, ne1, ne2, ne3, ne4, hC1, hlen, hle, hfl, hfl1, hfl2, hfl3, hfl4, hfl5, hfl6, NE, NE9, Nat.add_assoc, hi63]
  refine range_on q13 hlt' rfl ⟨?_, ?_, ?_, ?_, q2, q5, q11, q12, rfl⟩
  · simp (maxDischargeDepth := 20) only [xt_push, xt_put, hCx, hCx.next, Nat.le_refl, Nat.le_add_right, Nat.add_assoc, Nat.reduceAdd]
  · simp only [Hp.put_next, Hp.push_next]; omega
  · simp only [Hp.put_blk, Hp.push_blk, ne1, ne2, ne3, ne4, if_false]; exact hC0
  · simp only [Hp.put_blk, if_true]
    refine congrArg (fun c => some (Blk.row c 0 6)) ((set_chunk _ _ _ _ _ _ _ i (part_6 fun j => vC_len _) (by rw [part_length]; exact hlt')).trans ?_)
    exact congrArg List.flatten (part_set (f := fun j => vC (mv x y o (pget l j))) hlt')
end
end Go.Proofs.YthclikeipdplpaaDoor.Ab
