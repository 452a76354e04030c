/- Distances of polygons: near, beyond, Meet. -/
import Derived.Test.YthclikeipdplpaaDoorYm
namespace Go.Proofs.YthclikeipdplpaaDoor.Ab
open Go.RowKit
set_option linter.unusedVariables false
set_option linter.unusedSimpArgs false
set_option maxRecDepth 100000

/-- The outward normal of an edge; are the first corners of another polygon beyond the edge? -/
def nrm (a : List V2) (i : Nat) : V2 := ((pget a ((i + 1) % a.length)).2 - (pget a i).2, -((pget a ((i + 1) % a.length)).1 - (pget a i).1))
def beyN (a b : List V2) (i : Nat) : Nat → Bool
  | 0 => true
  | j + 1 => beyN a b i j && decide (0 < (nrm a i).1 * ((pget b j).1 - (pget a i).1) + (nrm a i).2 * ((pget b j).2 - (pget a i).2))
theorem beyN_iff {a b : List V2} {i : Nat} : ∀ n, beyN a b i n = true ↔ ∀ j, j < n → crs (pget a i) (pget a ((i + 1) % a.length)) (pget b j) < 0
  | 0 => by simp [beyN]
  | n + 1 => by
    unfold beyN
    rw [Bool.and_eq_true, beyN_iff n, decide_eq_true_eq]
    have e : (nrm a i).1 * ((pget b n).1 - (pget a i).1) + (nrm a i).2 * ((pget b n).2 - (pget a i).2) = -crs (pget a i) (pget a ((i + 1) % a.length)) (pget b n) := by
      unfold nrm crs; simp only; grind
    rw [e]
    constructor
    · rintro ⟨h1, h2⟩ j hj
      by_cases h : j = n
      · subst h; grind
      · exact h1 j (by omega)
    · intro h
      exact ⟨fun j hj => h j (by omega), by have := h n (by omega); grind⟩
/-- The first edge beyond which another polygon lies. -/
def bidx (a b : List V2) : Option Nat := (List.range a.length).find? fun i => beyN a b i b.length
theorem bidx_some {a b : List V2} {i : Nat} (hi : i < a.length) (h : beyN a b i b.length = true) (hno : ∀ j, j < i → beyN a b j b.length = false) : bidx a b = some i := by
  unfold bidx
  rw [List.find?_range_eq_some]
  exact ⟨h, List.mem_range.2 hi, fun j hj => by rw [hno j hj]; rfl⟩
theorem bidx_none {a b : List V2} (h : ∀ i, i < a.length → beyN a b i b.length = false) : bidx a b = none := by
  unfold bidx
  rw [List.find?_eq_none]
  intro i hi
  rw [h i (List.mem_range.1 hi)]; decide
theorem bidx_spec {a b : List V2} {i : Nat} (h : bidx a b = some i) : i < a.length ∧ beyN a b i b.length = true := by
  unfold bidx at h
  rw [List.find?_range_eq_some] at h
  exact ⟨List.mem_range.1 h.2.1, h.1⟩
theorem bidx_bey {a b : List V2} : (bidx a b).isSome = true ↔ Bey a b := by
  constructor
  · intro h
    obtain ⟨i, hi⟩ := Option.isSome_iff_exists.1 h
    obtain ⟨h1, h2⟩ := bidx_spec hi
    exact ⟨i, h1, (beyN_iff _).1 h2⟩
  · rintro ⟨i, hi, h⟩
    cases hb : bidx a b with
    | some j => rfl
    | none =>
      exfalso
      unfold bidx at hb
      rw [List.find?_eq_none] at hb
      exact hb i (List.mem_range.2 hi) ((beyN_iff _).2 h)
def bvec (a b : List V2) : Value := match bidx a b with | some i => prV (nrm a i).1 (nrm a i).2 | none => vZ
theorem bvec_some {a b : List V2} {i : Nat} (h : bidx a b = some i) : bvec a b = prV (nrm a i).1 (nrm a i).2 := by unfold bvec; rw [h]
theorem bvec_none {a b : List V2} (h : bidx a b = none) : bvec a b = vZ := by unfold bvec; rw [h]
theorem bvec_form (a b : List V2) : ∃ c0 c1 c2 c3 c4 c5, bvec a b = .agg #[.bool c0, .string c1, .string c2, .bool c3, .string c4, .string c5] := by
  cases h : bidx a b with
  | some i => rw [bvec_some h]; exact ⟨_, _, _, _, _, _, prV_def _ _⟩
  | none => rw [bvec_none h]; exact ⟨_, _, _, _, _, _, vZ_def⟩
theorem rz_nrm {a : List V2} {k i : Nat} (hz : Lz a k) (hi : i < a.length) : Pz (nrm a i) (2 * k + 1) := by
  have h := (hz.at (mod_lt' hi (i + 1))).sub (hz.at hi)
  exact ⟨h.2, h.1.neg⟩
theorem tup_rb {m : Nat} {v w : Value} (hv : RB m v) (hw : RB m w) : RB m (.tuple [v, w].toArray) := by
  refine RB.tuple fun u hu => ?_
  simp only [List.mem_cons, List.not_mem_nil, or_false] at hu
  rcases hu with rfl | rfl
  · exact hv
  · exact hw
theorem vZ_rb (n : Nat) : RB n vZ := RB.agg fun v hv => by
  simp only [List.mem_cons, List.not_mem_nil, or_false] at hv
  rcases hv with rfl | rfl | rfl | rfl | rfl | rfl <;> exact RB.zc rfl
theorem bvec_rb (n : Nat) (a b : List V2) : RB n (bvec a b) := by
  unfold bvec
  split
  · exact prV_rb _ _ _
  · exact vZ_rb _

section
variable {G : Gl} {fl : Nat} {A : Hp}

set_option maxHeartbeats 8000000 in
theorem near_ok {v : Value} {l : List V2} {p : V2} {k : Nat} (hG : G 1 = some tabV) (hs : Sl A 6 v (l.map vC)) (hz : Lz l k) (hp : Pz p k) (hk : k ≤ 1000) (h2 : 2 ≤ l.length) (hl : l.length ≤ 100000) :
    Sound Tryd.prog G 66 [prV p.1 p.2, v] fl A (ratV (near p l l.length)) A := by
  refine Sound.of mixed Tryd.func66 Tryd.ntmps66 Tryd.results66 (by kernel_rfl) rfl (by kernel_rfl) (by simp) fun hA => ?_
  obtain ⟨o, c, rfl⟩ := hs.len
  rw [List.length_map] at hs ⊢
  have hfl : fl ≤ A.next := by have := hA.floor; omega
  have hfl1 : fl ≤ A.next + 1 := by have := hA.floor; omega
  have hfl2 : fl ≤ A.next + 2 := by have := hA.floor; omega
  have hfl3 : fl ≤ A.next + 3 := by have := hA.floor; omega
  have hfl4 : fl ≤ A.next + 4 := by have := hA.floor; omega
  have hfl5 : fl ≤ A.next + 5 := by have := hA.floor; omega
  have hfl6 : fl ≤ A.next + 6 := by have := hA.floor; omega
  have hrb := ratV_rb A.next (near p l l.length)
  have h0 : 0 < l.length := by omega
  have h1 : 1 < l.length := by omega
  obtain ⟨a, rfl, -⟩ := hs.at (G := G) (i := 0) (by simpa using h0)
  have t0 := fun fl A => te_ok (G := G) (fl := fl) (A := A) hG hp (hz.at h0) (hz.at h1) hk
  have e0 : te p (pget l 0) (pget l 1) = near p l 0 := rfl
  rw [e0] at t0
  have hab := hs.lt hA
  have hab1 : a.block < A.next + 1 := by omega
  have hab2 : a.block < A.next + 1 + 1 := by omega
  have nea : (a.block = A.next) = False := eq_false (by omega)
  obtain ⟨g0, g1, g2, g3, g4, g5⟩ := vec_get (G := G) hs h0
  obtain ⟨u0, u1, u2, u3, u4, u5⟩ := vec_get (G := G) hs h1
  simp only [Nat.zero_mul, Nat.zero_add, Nat.one_mul] at g0 g1 g2 g3 g4 g5 u0 u1 u2 u3 u4 u5
  have ga : aadd a 0 = a := rfl
  rw [ga] at g0
  have c0 : (0 : Int) < ((l.length : Nat) : Int) := by omega
  have c1 : (1 : Int) < ((l.length : Nat) : Int) := by omega
  have hp0 := prV_def p.1 p.2
  rw [hp0]
  simp only [prV_def] at t0
  simp only [ratV_def] at t0
  simp only [↓R1, R2, R3, R4, TY, reduceIte, Nat.reduceEqDiff, Nat.reduceAdd, Nat.reduceMul, Nat.reduceLT, Nat.reduceLeDiff, reduceCtorEq, decide_true, decide_false, Int.reduceLE, Int.reduceLT, Int.reduceToNat, Int.reduceAdd, Int.reduceSub, Int.reduceMul, Int.reduceEq, hfl, hfl1, hfl2, hfl3, hfl4, hfl5, hfl6, NE, NE9, Nat.add_assoc, c0, c1, g0, g1, g2, g3, g4, g5, u0, u1, u2, u3, u4, u5, ga, hab, hab1, hab2, nea]
  refine call_of (t0 _ _) ?_
  simp only [↓R1, R2, R3, R4, TY, reduceIte, Nat.reduceEqDiff, Nat.reduceAdd, Nat.reduceMul, Nat.reduceLT, Nat.reduceLeDiff, reduceCtorEq, decide_true, decide_false, Int.reduceLE, Int.reduceLT, Int.reduceToNat, Int.reduceAdd, Int.reduceSub, Int.reduceMul, Int.reduceEq, hfl, hfl1, hfl2, hfl3, hfl4, hfl5, hfl6, NE, NE9, Nat.add_assoc, c0, c1, g0, g1, g2, g3, g4, g5, u0, u1, u2, u3, u4, u5, ga, hab, hab1, hab2, nea]
  rw [floOf_wr (by kernel_rfl)]
  simp only [↓R1, R2, R3, R4, TY, reduceIte, Nat.reduceEqDiff, Nat.reduceAdd, Nat.reduceMul, Nat.reduceLT, Nat.reduceLeDiff, reduceCtorEq, decide_true, decide_false, Int.reduceLE, Int.reduceLT, Int.reduceToNat, Int.reduceAdd, Int.reduceSub, Int.reduceMul, Int.reduceEq, hfl, hfl1, hfl2, hfl3, hfl4, hfl5, hfl6, NE, NE9, Nat.add_assoc]
  generalize hD : Hp.put _ _ _ = D
  have hxD : Xt A.next A D := by
    rw [← hD]
    simp (maxDischargeDepth := 20) only [xt_push, xt_put, xt_refl, Nat.le_refl, Nat.le_add_right, Nat.add_assoc, Nat.reduceAdd]
  have hDn : D.next = A.next + 3 := by rw [← hD]; rfl
  have kp : ∀ j, D.get G ⟨A.next, j, some 0⟩ = (vC p)[j]? := fun j => by
    rw [← hD]; simp [Hp.get, Hp.put_blk, Hp.push_blk, vC_def]
    rw [if_neg (by omega)]; simp
  have hD1 : D.blk (A.next + 1) = some (.row [.bool false, .string (S []), .string (S [])] 0 3) := by
    rw [← hD]; simp only [Hp.put_blk, Hp.push_blk, Hp.push_next, Hp.put_next]
    repeat (first | rw [if_pos trivial] | rw [if_neg (by omega)])
  have hD2 : D.blk (A.next + 2) = some (.row [.bool (decide ((near p l 0).num < 0)), .string (S (nb (near p l 0).num.natAbs)), .string (S (nb (near p l 0).den))] 0 3) := by
    rw [← hD]; simp only [Hp.put_blk, if_true]
  clear hD
  refine range_of 18 l.length (fun i τ C => Xt A.next A C ∧ A.next + 2 < C.next ∧ (∀ j, C.get G ⟨A.next, j, some 0⟩ = (vC p)[j]?) ∧ C.blk (A.next + 1) = some (.row [.bool false, .string (S []), .string (S [])] 0 3) ∧
    C.blk (A.next + 2) = some (.row [.bool (decide ((near p l i).num < 0)), .string (S (nb (near p l i).num.natAbs)), .string (S (nb (near p l i).den))] 0 3) ∧
    τ 1 = some (.slice (some a) l.length c) ∧ τ 2 = some (.pointer (some ⟨A.next, 0, some 0⟩)) ∧ τ 4 = some (.pointer (some ⟨A.next + 1, 0, some 0⟩)) ∧ τ 5 = some (.pointer (some ⟨A.next + 2, 0, some 0⟩)) ∧ τ 16 = some (.slice (some a) l.length c) ∧ τ 17 = some (.int .i64 (l.length : Nat)) ∧ τ 18 = some (.int .i64 (i : Nat))) ?_ ?_
  · exact ⟨hxD, by omega, kp, hD1, hD2, rfl, rfl, rfl, rfl, rfl, rfl, rfl⟩
  rintro i τ C hi ⟨hx, hn, kp, hC1, hC2, q1, q2, q4, q5, q16, q17, q18⟩
  have hflC : fl ≤ C.next := Nat.le_trans hA.floor hx.next
  have hn0 : A.next < C.next := by omega
  have hn1 : A.next + 1 < C.next := by omega
  have hn3 : A.next + 2 < C.next + 1 := by omega
  have hn4 : A.next < C.next + 1 := by omega
  have ne0 : (A.next = C.next) = False := eq_false (by omega)
  have ne1 : (A.next + 1 = C.next) = False := eq_false (by omega)
  have ne2 : (A.next + 2 = C.next) = False := eq_false (by omega)
  have ne3 : (C.next = A.next + 2) = False := eq_false (by omega)
  have ne4 : (A.next + 1 = A.next + 2) = False := eq_false (by omega)
  have ne5 : (A.next = A.next + 2) = False := eq_false (by omega)
  have gN : ∀ j, C.get G ⟨A.next + 2, j, some 0⟩ = ([.bool (decide ((near p l i).num < 0)), .string (S (nb (near p l i).num.natAbs)), .string (S (nb (near p l i).den))] : List Value)[j]? := fun j => by simp only [Hp.get, hC2, if_true]
  simp only [↓R1, R2, R3, R4, TY, reduceIte, Nat.reduceEqDiff, Nat.reduceAdd, Nat.reduceMul, Nat.reduceLT, Nat.reduceLeDiff, reduceCtorEq, decide_true, decide_false, Int.reduceLE, Int.reduceLT, Int.reduceToNat, Int.reduceAdd, Int.reduceSub, Int.reduceMul, Int.reduceEq, q1, q2, q4, q5, q16, q17, q18]
  refine ⟨fun hlt => ?_, fun hlt => ?_⟩
  rotate_left
  · have e : i = l.length := by omega
    subst e
    simp only [↓R1, R2, R3, R4, TY, reduceIte, Nat.reduceEqDiff, Nat.reduceAdd, Nat.reduceMul, Nat.reduceLT, Nat.reduceLeDiff, reduceCtorEq, decide_true, decide_false, Int.reduceLE, Int.reduceLT, Int.reduceToNat, Int.reduceAdd, Int.reduceSub, Int.reduceMul, Int.reduceEq, q1, q2, q4, q5, q16, q17, q18, hflC, gN, hn, hC1, hfl, hfl1, hfl2, hfl3, hfl4, hfl5, hfl6, NE, NE9, Nat.add_assoc]
    refine Ended.back hA ?_ rfl hrb
    simp (maxDischargeDepth := 20) only [xt_push, xt_put, hx, hx.next, Nat.le_refl, Nat.le_add_right]
  have hlt' : i < l.length := by omega
  have hsC := hs.xt hA hx
  have hac : a.block < C.next := Nat.lt_of_lt_of_le hab hx.next
  have hac1 : a.block < C.next + 1 := Nat.lt_succ_of_lt hac
  have nec : (a.block = C.next) = False := eq_false (by omega)
  have l1 : (i + 1) % l.length < l.length := mod_lt' hlt' _
  obtain ⟨g0, g1, g2, g3, g4, g5⟩ := vec_get (G := G) hsC hlt'
  obtain ⟨u0, u1, u2, u3, u4, u5⟩ := vec_get (G := G) hsC l1
  have w1 : IntKind.i64.wrap (((i : Nat) : Int) + 1) = ((i + 1 : Nat) : Int) := wrapI (by omega)
  have n0 : (((l.length : Nat) : Int) = 0) = False := eq_false (by omega)
  have hi63 : i < 9223372036854775807 := by omega
  have t1 := fun fl A => te_ok (G := G) (fl := fl) (A := A) hG hp (hz.at hlt') (hz.at l1) hk
  have mn := fun fl A => qmin (G := G) (fl := fl) (A := A) hG (rz_near hp hz h2 i (by omega)) (rz_te hp (hz.at hlt') (hz.at l1)) (by omega)
  have en : rmin (near p l i) (te p (pget l i) (pget l ((i + 1) % l.length))) = near p l (i + 1) := rfl
  rw [en] at mn
  simp only [prV_def] at t1
  simp only [ratV_def] at t1 mn
  simp only [↓R1, R2, R3, R4, TY, reduceIte, Nat.reduceEqDiff, Nat.reduceAdd, Nat.reduceMul, Nat.reduceLT, Nat.reduceLeDiff, reduceCtorEq, decide_true, decide_false, Int.reduceLE, Int.reduceLT, Int.reduceToNat, Int.reduceAdd, Int.reduceSub, Int.reduceMul, Int.reduceEq, q1, q2, q4, q5, q16, q17, q18, hlt, g0, g1, g2, g3, g4, g5, u0, u1, u2, u3, u4, u5, hac, hac1, nec, hn, hn0, hn1, hn3, hn4, ne0, ne1, ne2, ne3, ne4, ne5, gN, kp, vC_def, hflC, w1, tmod_nat, n0, l1, NE]
  refine call_of (t1 _ _) ?_
  simp only [↓R1, R2, R3, R4, TY, reduceIte, Nat.reduceEqDiff, Nat.reduceAdd, Nat.reduceMul, Nat.reduceLT, Nat.reduceLeDiff, reduceCtorEq, decide_true, decide_false, Int.reduceLE, Int.reduceLT, Int.reduceToNat, Int.reduceAdd, Int.reduceSub, Int.reduceMul, Int.reduceEq, q1, q2, q4, q5, q16, q17, q18, hflC, gN, hn, hn0, hn1, hn3, hn4, ne0, ne1, ne2, ne3, ne4, ne5, hC2, hfl, hfl1, hfl2, hfl3, hfl4, hfl5, hfl6, NE, NE9, Nat.add_assoc]
  refine call_of (mn _ _) ?_
  simp only [↓R1, R2, R3, R4, TY, reduceIte, Nat.reduceEqDiff, Nat.reduceAdd, Nat.reduceMul, Nat.reduceLT, Nat.reduceLeDiff, reduceCtorEq, decide_true, decide_false, Int.reduceLE, Int.reduceLT, Int.reduceToNat, Int.reduceAdd, Int.reduceSub, Int.reduceMul, Int.reduceEq, q1, q2, q4, q5, q16, q17, q18, hflC, gN, hn, hn0, hn1, hn3, hn4, ne0, ne1, ne2, ne3, ne4, ne5, hC2, hfl, hfl1, hfl2, hfl3, hfl4, hfl5, hfl6, NE, NE9, Nat.add_assoc]
  rw [floOf_wr (by kernel_rfl)]
  simp only [↓R1, R2, R3, R4, TY, reduceIte, Nat.reduceEqDiff, Nat.reduceAdd, Nat.reduceMul, Nat.reduceLT, Nat.reduceLeDiff, reduceCtorEq, decide_true, decide_false, Int.reduceLE, Int.reduceLT, Int.reduceToNat, Int.reduceAdd, Int.reduceSub, Int.reduceMul, Int.reduceEq, q1, q2, q4, q5, q16, q17, q18, hflC, gN, hn, hn0, hn1, hn3, hn4, ne0, ne1, ne2, ne3, ne4, ne5, hC2, hi63, hfl, hfl1, hfl2, hfl3, hfl4, hfl5, hfl6, NE, NE9, Nat.add_assoc]
  refine range_on q18 hlt' rfl ⟨?_, ?_, fun j => ?_, ?_, ?_, q1, q2, q4, q5, q16, q17, rfl⟩
  · simp (maxDischargeDepth := 20) only [xt_push, xt_put, hx, hx.next, Nat.le_refl, Nat.le_add_right]
  · simp only [Hp.put_next, Hp.push_next]; omega
  · rw [get_put_other ne5, get_put_other ne0, get_push_old hn0]; exact kp j
  · simp only [Hp.put_blk, Hp.push_blk, ne1, ne4, if_false]; exact hC1
  · simp only [Hp.put_blk, if_true]

set_option maxHeartbeats 2000000 in
theorem both_ok {va vb : Value} {a b : List V2} {k : Nat} (hG : G 1 = some tabV) (ha : Sl A 6 va (a.map vC)) (hb : Sl A 6 vb (b.map vC)) (za : Lz a k) (zb : Lz b k) (hk : k ≤ 500) (ca : pchk a 64 = 0) (cb : pchk b 64 = 0) : Sound Tryd.prog G 64 [va, vb] fl A (.int .i64 0) A := by
  refine Sound.of mixed Tryd.func64 Tryd.ntmps64 Tryd.results64 (by kernel_rfl) rfl (by kernel_rfl) (by simp) fun hA => ?_
  have hfl : fl ≤ A.next := by have := hA.floor; omega
  have hfl1 : fl ≤ A.next + 1 := by have := hA.floor; omega
  have hfl2 : fl ≤ A.next + 2 := by have := hA.floor; omega
  have hfl3 : fl ≤ A.next + 3 := by have := hA.floor; omega
  have hfl4 : fl ≤ A.next + 4 := by have := hA.floor; omega
  have hfl5 : fl ≤ A.next + 5 := by have := hA.floor; omega
  have hfl6 : fl ≤ A.next + 6 := by have := hA.floor; omega
  have la := (pchk_ok.1 ca).2.1
  have lb := (pchk_ok.1 cb).2.1
  have c1 := fun fl (A : Hp) (hs : Sl A 6 va (a.map vC)) => pconvex (G := G) (fl := fl) (A := A) hG hs za (by omega) (by omega)
  have c2 := fun fl (A : Hp) (hs : Sl A 6 vb (b.map vC)) => pconvex (G := G) (fl := fl) (A := A) hG hs zb (by omega) (by omega)
  rw [ca] at c1
  rw [cb] at c2
  simp only [↓R1, R2, R3, R4, TY, reduceIte, Nat.reduceEqDiff, Nat.reduceAdd, Nat.reduceMul, Nat.reduceLT, Nat.reduceLeDiff, reduceCtorEq, decide_true, decide_false, Int.reduceLE, Int.reduceLT, Int.reduceToNat, Int.reduceAdd, Int.reduceSub, Int.reduceMul, Int.reduceEq, hfl, hfl1, hfl2, hfl3, hfl4, hfl5, hfl6, NE]
  refine call_of (c1 _ _ ha) ?_
  simp only [↓R1, R2, R3, R4, TY, reduceIte, Nat.reduceEqDiff, Nat.reduceAdd, Nat.reduceMul, Nat.reduceLT, Nat.reduceLeDiff, reduceCtorEq, decide_true, decide_false, Int.reduceLE, Int.reduceLT, Int.reduceToNat, Int.reduceAdd, Int.reduceSub, Int.reduceMul, Int.reduceEq, hfl, hfl1, hfl2, hfl3, hfl4, hfl5, hfl6, NE]
  refine call_of (c2 _ _ hb) ?_
  simp only [↓R1, R2, R3, R4, TY, reduceIte, Nat.reduceEqDiff, Nat.reduceAdd, Nat.reduceMul, Nat.reduceLT, Nat.reduceLeDiff, reduceCtorEq, decide_true, decide_false, Int.reduceLE, Int.reduceLT, Int.reduceToNat, Int.reduceAdd, Int.reduceSub, Int.reduceMul, Int.reduceEq, hfl, hfl1, hfl2, hfl3, hfl4, hfl5, hfl6, NE]
  refine Ended.back hA (Xt.refl _) rfl (RB.int _ _)


end
end Go.Proofs.YthclikeipdplpaaDoor.Ab
