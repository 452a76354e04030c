/- SeePoints runs, and returns true. -/
import Derived.Test.YtjkimjmocfjjnaaDoorHd
import Derived.Test.YtjkimjmocfjjnaaDoorGn
namespace Go.Proofs.YtjkimjmocfjjnaaDoor.Ab
open Go.RowKit
set_option linter.unusedVariables false
set_option linter.unusedSimpArgs false
set_option maxRecDepth 100000

section
variable {G : Gl} {fl : Nat} {A : Hp}

set_option maxHeartbeats 2000000 in
theorem wShapeNil {p0 : Bool} {p1 p2 : List UInt8} {q0 : Bool} {q1 q2 : List UInt8} {r0 : Bool} {r1 r2 : List UInt8} {s0 : Bool} {s1 s2 : List UInt8} {t0 : Bool} {t1 t2 : List UInt8} {u0 : Bool} {u1 u2 : List UInt8} {v : Value} (hG : G 1 = some tabV) (hs : Sl A 6 v []) : Sound Tryd.prog G 35 [.agg #[.bool p0, .string (S p1), .string (S p2), .bool q0, .string (S q1), .string (S q2), .bool r0, .string (S r1), .string (S r2), .bool s0, .string (S s1), .string (S s2), .bool t0, .string (S t1), .string (S t2), .bool u0, .string (S u1), .string (S u2)], v] fl A (.agg #[.bool false, .string { data := #[] }, .string { data := #[] }, .bool false, .string { data := #[] }, .string { data := #[] }, .bool false, .string { data := #[] }, .string { data := #[] }, .bool false, .string { data := #[] }, .string { data := #[] }]) A := by
  refine Sound.of mixed Tryd.func35 Tryd.ntmps35 Tryd.results35 (by kernel_rfl) rfl (by kernel_rfl) (by kernel_rfl) fun hA => ?_
  have hfl : fl ≤ A.next := by have := hA.floor; omega
  have hfl1 : fl ≤ A.next + 1 := by have := hA.floor; omega
  have hfl2 : fl ≤ A.next + 2 := by have := hA.floor; omega
  have hfl3 : fl ≤ A.next + 3 := by have := hA.floor; omega
  have hfl4 : fl ≤ A.next + 4 := by have := hA.floor; omega
  have hfl5 : fl ≤ A.next + 5 := by have := hA.floor; omega
  have hfl6 : fl ≤ A.next + 6 := by have := hA.floor; omega
  obtain ⟨o, c, rfl⟩ := hs.len
  have hrb : RB A.next (.agg #[.bool false, .string { data := #[] }, .string { data := #[] }, .bool false, .string { data := #[] }, .string { data := #[] }, .bool false, .string { data := #[] }, .string { data := #[] }, .bool false, .string { data := #[] }, .string { data := #[] }]) := RB.agg fun v hv => by
    simp only [List.mem_cons, List.not_mem_nil, or_false] at hv
    rcases hv with rfl | rfl | rfl | rfl | rfl | rfl | rfl | rfl | rfl | rfl | rfl | rfl <;> exact RB.zc rfl
  simp only [↓R1, R2, R3, R4, TY, reduceIte, Nat.reduceEqDiff, Nat.reduceAdd, Nat.reduceMul, Nat.reduceLT, Nat.reduceLeDiff, reduceCtorEq, decide_true, decide_false, Int.reduceLE, Int.reduceLT, Int.reduceToNat, Int.reduceAdd, Int.reduceSub, Int.reduceMul, Int.reduceEq, hfl, hfl1, hfl2, hfl3, hfl4, hfl5, hfl6, NE, NE9, Nat.add_assoc, rcmp_lt_iff, rcmp_gt_iff, rsign_gt_iff, rcmp_zero, ex9_0, ex9_1, ex9_2, w_1, w_2, w_3, w_4, n_2, n_3, n_4]
  have hz0 : ((0 : Int) < ((0 : Nat) : Int)) = False := eq_false (by decide)
  refine unroll_of [()] ?_
  simp only [↓R1, R2, R3, R4, TY, reduceIte, Nat.reduceEqDiff, Nat.reduceAdd, Nat.reduceMul, Nat.reduceLT, Nat.reduceLeDiff, reduceCtorEq, decide_true, decide_false, Int.reduceLE, Int.reduceLT, Int.reduceToNat, Int.reduceAdd, Int.reduceSub, Int.reduceMul, Int.reduceEq, hfl, hfl1, hfl2, hfl3, hfl4, hfl5, hfl6, NE, NE9, Nat.add_assoc, rcmp_lt_iff, rcmp_gt_iff, rsign_gt_iff, rcmp_zero, ex9_0, ex9_1, ex9_2, w_1, w_2, w_3, w_4, n_2, n_3, n_4, hz0]
  refine Ended.back hA ?_ rfl hrb
  simp (maxDischargeDepth := 20) only [xt_push, xt_put, xt_refl, Nat.le_refl, Nat.le_add_right, Nat.add_assoc, Nat.reduceAdd]

set_option maxHeartbeats 16000000 in
theorem seePoints_calls {p0 : Bool} {p1 p2 : List UInt8} {q0 : Bool} {q1 q2 : List UInt8} {r0 : Bool} {r1 r2 : List UInt8} {s0 : Bool} {s1 s2 : List UInt8} {t0 : Bool} {t1 t2 : List UInt8} {u0 : Bool} {u1 u2 : List UInt8} {P : Po} {k : Nat} {g0 : Bool} {g1 g2 : List UInt8} {h0 : Bool} {h1 h2 : List UInt8} {okg okh : Bool} {g h : Rat} {v : Value} {l : List Rv} (hG : G 1 = some tabV) (rp : RawP G p0 p1 p2 q0 q1 q2 r0 r1 r2 s0 s1 s2 t0 t1 t2 u0 u1 u2 P k) (rg : Raw G g0 g1 g2 okg g k) (rh : Raw G h0 h1 h2 okh h k) (hs : Sl A 6 v (l.map Rv.cells)) (hl : ∀ x ∈ l, RvOk G x k) (hlen : l.length < 4611686018427387904) (hk : 1000 * k + 1000 ≤ 5000000000) :
    ∀ (μ : Mu) (w : World) (args' : Array Value), HR G μ fl A w → fl ≤ A.next → VRa μ A [.agg #[.bool p0, .string (S p1), .string (S p2), .bool q0, .string (S q1), .string (S q2), .bool r0, .string (S r1), .string (S r2), .bool s0, .string (S s1), .string (S s2), .bool t0, .string (S t1), .string (S t2), .bool u0, .string (S u1), .string (S u2)], .agg #[.bool g0, .string (S g1), .string (S g2), .bool h0, .string (S h1), .string (S h2)], v].toArray args' →
    Calls Tryd.prog 4 args' w fun e w' => ∃ u, e = .returned u ∧ ∃ ν, VR ν A (.bool true) u ∧ HR G ν fl A w' ∧ Trans fl μ A w ν A w' := by
  refine calls_of mixed Tryd.func4 Tryd.ntmps4 Tryd.results4 (by kernel_rfl) rfl (by kernel_rfl) (by kernel_rfl) fun hA => ?_
  have hfl : fl ≤ A.next := by have := hA.floor; omega
  have hfl1 : fl ≤ A.next + 1 := by have := hA.floor; omega
  have hfl2 : fl ≤ A.next + 2 := by have := hA.floor; omega
  have hfl3 : fl ≤ A.next + 3 := by have := hA.floor; omega
  have hfl4 : fl ≤ A.next + 4 := by have := hA.floor; omega
  have hfl5 : fl ≤ A.next + 5 := by have := hA.floor; omega
  have hfl6 : fl ≤ A.next + 6 := by have := hA.floor; omega
  obtain ⟨o, c, rfl⟩ := hs.len
  rw [List.length_map] at hs ⊢
  have po := fun fl A => wPoseOf (G := G) (fl := fl) (A := A) hG rp
  have se := fun fl A => wseen (G := G) (fl := fl) (A := A) hG
  have pt := fun fl A => wPoint (G := G) (fl := fl) (A := A) hG rp rg rh (by omega)
  have pf := fun fl A => wPointOf (G := G) (fl := fl) (A := A) hG rp.ok rg rh (by omega)
  have bs := ptB_sz rp.ok rg.sz rh.sz
  have is1 := fun fl A => wIsB (G := G) (fl := fl) (A := A) hG bs (by omega)
  generalize ptB P g h = B0 at *
  simp only [poV_def, bxV_def, rnV_def] at po pt pf is1
  simp only [↓R1, R2, R3, R4, TY, reduceIte, Nat.reduceEqDiff, Nat.reduceAdd, Nat.reduceMul, Nat.reduceLT, Nat.reduceLeDiff, reduceCtorEq, decide_true, decide_false, Int.reduceLE, Int.reduceLT, Int.reduceToNat, Int.reduceAdd, Int.reduceSub, Int.reduceMul, Int.reduceEq, hfl, hfl1, hfl2, hfl3, hfl4, hfl5, hfl6, NE, NE9, Nat.add_assoc, rcmp_lt_iff, rcmp_gt_iff, rsign_gt_iff, rcmp_zero, ex9_0, ex9_1, ex9_2, w_1, w_2, w_3, w_4, n_2, n_3, n_4]
  refine call_of (po _ _) ?_
  simp only [↓R1, R2, R3, R4, TY, reduceIte, Nat.reduceEqDiff, Nat.reduceAdd, Nat.reduceMul, Nat.reduceLT, Nat.reduceLeDiff, reduceCtorEq, decide_true, decide_false, Int.reduceLE, Int.reduceLT, Int.reduceToNat, Int.reduceAdd, Int.reduceSub, Int.reduceMul, Int.reduceEq, hfl, hfl1, hfl2, hfl3, hfl4, hfl5, hfl6, NE, NE9, Nat.add_assoc, rcmp_lt_iff, rcmp_gt_iff, rsign_gt_iff, rcmp_zero, ex9_0, ex9_1, ex9_2, w_1, w_2, w_3, w_4, n_2, n_3, n_4]
  refine call_of (se _ _) ?_
  simp only [↓R1, R2, R3, R4, TY, reduceIte, Nat.reduceEqDiff, Nat.reduceAdd, Nat.reduceMul, Nat.reduceLT, Nat.reduceLeDiff, reduceCtorEq, decide_true, decide_false, Int.reduceLE, Int.reduceLT, Int.reduceToNat, Int.reduceAdd, Int.reduceSub, Int.reduceMul, Int.reduceEq, hfl, hfl1, hfl2, hfl3, hfl4, hfl5, hfl6, NE, NE9, Nat.add_assoc, rcmp_lt_iff, rcmp_gt_iff, rsign_gt_iff, rcmp_zero, ex9_0, ex9_1, ex9_2, w_1, w_2, w_3, w_4, n_2, n_3, n_4]
  refine call_of (pt _ _) ?_
  simp only [↓R1, R2, R3, R4, TY, reduceIte, Nat.reduceEqDiff, Nat.reduceAdd, Nat.reduceMul, Nat.reduceLT, Nat.reduceLeDiff, reduceCtorEq, decide_true, decide_false, Int.reduceLE, Int.reduceLT, Int.reduceToNat, Int.reduceAdd, Int.reduceSub, Int.reduceMul, Int.reduceEq, hfl, hfl1, hfl2, hfl3, hfl4, hfl5, hfl6, NE, NE9, Nat.add_assoc, rcmp_lt_iff, rcmp_gt_iff, rsign_gt_iff, rcmp_zero, ex9_0, ex9_1, ex9_2, w_1, w_2, w_3, w_4, n_2, n_3, n_4]
  refine call_of (pf _ _) ?_
  simp only [↓R1, R2, R3, R4, TY, reduceIte, Nat.reduceEqDiff, Nat.reduceAdd, Nat.reduceMul, Nat.reduceLT, Nat.reduceLeDiff, reduceCtorEq, decide_true, decide_false, Int.reduceLE, Int.reduceLT, Int.reduceToNat, Int.reduceAdd, Int.reduceSub, Int.reduceMul, Int.reduceEq, hfl, hfl1, hfl2, hfl3, hfl4, hfl5, hfl6, NE, NE9, Nat.add_assoc, rcmp_lt_iff, rcmp_gt_iff, rsign_gt_iff, rcmp_zero, ex9_0, ex9_1, ex9_2, w_1, w_2, w_3, w_4, n_2, n_3, n_4]
  refine call_of (is1 _ _) ?_
  simp only [↓R1, R2, R3, R4, TY, reduceIte, Nat.reduceEqDiff, Nat.reduceAdd, Nat.reduceMul, Nat.reduceLT, Nat.reduceLeDiff, reduceCtorEq, decide_true, decide_false, Int.reduceLE, Int.reduceLT, Int.reduceToNat, Int.reduceAdd, Int.reduceSub, Int.reduceMul, Int.reduceEq, hfl, hfl1, hfl2, hfl3, hfl4, hfl5, hfl6, NE, NE9, Nat.add_assoc, rcmp_lt_iff, rcmp_gt_iff, rsign_gt_iff, rcmp_zero, ex9_0, ex9_1, ex9_2, w_1, w_2, w_3, w_4, n_2, n_3, n_4]
  refine range_of 31 l.length (fun i τ C => Xt A.next A C ∧ A.next + 4 ≤ C.next ∧ C.blk A.next = some (.row [.bool p0, .string (S p1), .string (S p2), .bool q0, .string (S q1), .string (S q2), .bool r0, .string (S r1), .string (S r2), .bool s0, .string (S s1), .string (S s2), .bool t0, .string (S t1), .string (S t2), .bool u0, .string (S u1), .string (S u2)] 0 18) ∧ C.blk (A.next + 2) = some (.row [.bool (decide ((P.a).num < 0)), .string (S (nb (P.a).num.natAbs)), .string (S (nb (P.a).den)), .bool (decide ((P.b).num < 0)), .string (S (nb (P.b).num.natAbs)), .string (S (nb (P.b).den)), .bool (decide ((P.c).num < 0)), .string (S (nb (P.c).num.natAbs)), .string (S (nb (P.c).den)), .bool (decide ((P.d).num < 0)), .string (S (nb (P.d).num.natAbs)), .string (S (nb (P.d).den)), .bool (decide ((P.e).num < 0)), .string (S (nb (P.e).num.natAbs)), .string (S (nb (P.e).den)), .bool (decide ((P.f).num < 0)), .string (S (nb (P.f).num.natAbs)), .string (S (nb (P.f).den))] 0 6) ∧ C.blk (A.next + 3) = some (.row (acR P l i) 0 6) ∧ τ 2 = some (.slice o l.length c) ∧ τ 3 = some (.pointer (some ⟨A.next, 0, some 0⟩)) ∧ τ 7 = some (.pointer (some ⟨A.next + 2, 0, some 0⟩)) ∧ τ 8 = some (.func (.func 31) #[] #[]) ∧ τ 9 = some (.pointer (some ⟨A.next + 3, 0, some 0⟩)) ∧ τ 29 = some (.slice o l.length c) ∧ τ 30 = some (.int .i64 (l.length : Nat)) ∧ τ 31 = some (.int .i64 (i : Nat))) ⟨?_, ?_, ?_, ?_, ?_, rfl, rfl, rfl, rfl, rfl, rfl, rfl, rfl⟩ ?_
  · simp (maxDischargeDepth := 20) only [xt_push, xt_put, xt_refl, Nat.le_refl, Nat.le_add_right, Nat.add_assoc, Nat.reduceAdd]
  · simp
  · simp [Hp.put_blk, Hp.push_blk, Nat.add_assoc]
  · simp [Hp.put_blk, Hp.push_blk, Nat.add_assoc]
  · simp [Hp.put_blk, Hp.push_blk, Nat.add_assoc, acR]
  clear po se pt pf is1
  rintro i τ C hi ⟨hx, hn, c0, c2, c3, j2, j3, j7, j8, j9, j29, j30, j31⟩
  have hflC : fl ≤ C.next := Nat.le_trans hA.floor hx.next
  have hfl1C : fl ≤ C.next + 1 := by omega
  have le1C : A.next ≤ C.next + 1 := by omega
  have le2C : A.next ≤ C.next + 2 := by omega
  have g0 : ∀ j, C.get G ⟨A.next, j, some 0⟩ = ([.bool p0, .string (S p1), .string (S p2), .bool q0, .string (S q1), .string (S q2), .bool r0, .string (S r1), .string (S r2), .bool s0, .string (S s1), .string (S s2), .bool t0, .string (S t1), .string (S t2), .bool u0, .string (S u1), .string (S u2)] : List Value)[j]? := fun j => by simp only [Hp.get, c0, if_true]
  have g2 : ∀ j, C.get G ⟨A.next + 2, j, some 0⟩ = ([.bool (decide ((P.a).num < 0)), .string (S (nb (P.a).num.natAbs)), .string (S (nb (P.a).den)), .bool (decide ((P.b).num < 0)), .string (S (nb (P.b).num.natAbs)), .string (S (nb (P.b).den)), .bool (decide ((P.c).num < 0)), .string (S (nb (P.c).num.natAbs)), .string (S (nb (P.c).den)), .bool (decide ((P.d).num < 0)), .string (S (nb (P.d).num.natAbs)), .string (S (nb (P.d).den)), .bool (decide ((P.e).num < 0)), .string (S (nb (P.e).num.natAbs)), .string (S (nb (P.e).den)), .bool (decide ((P.f).num < 0)), .string (S (nb (P.f).num.natAbs)), .string (S (nb (P.f).den))] : List Value)[j]? := fun j => by simp only [Hp.get, c2, if_true]
  have g3 : ∀ j, C.get G ⟨A.next + 3, j, some 0⟩ = (acR P l i)[j]? := fun j => by simp only [Hp.get, c3, if_true]
  have ne0_0 : (A.next = C.next) = False := eq_false (by omega)
  have nf0_0 : (C.next = A.next) = False := eq_false (by omega)
  have lt0_0 : A.next < C.next := by omega
  have ne0_1 : (A.next = C.next + 1) = False := eq_false (by omega)
  have nf0_1 : (C.next + 1 = A.next) = False := eq_false (by omega)
  have lt0_1 : A.next < C.next + 1 := by omega
  have ne0_2 : (A.next = C.next + 2) = False := eq_false (by omega)
  have nf0_2 : (C.next + 2 = A.next) = False := eq_false (by omega)
  have lt0_2 : A.next < C.next + 2 := by omega
  have ne1_0 : (A.next + 1 = C.next) = False := eq_false (by omega)
  have nf1_0 : (C.next = A.next + 1) = False := eq_false (by omega)
  have lt1_0 : A.next + 1 < C.next := by omega
  have ne1_1 : (A.next + 1 = C.next + 1) = False := eq_false (by omega)
  have nf1_1 : (C.next + 1 = A.next + 1) = False := eq_false (by omega)
  have lt1_1 : A.next + 1 < C.next + 1 := by omega
  have ne1_2 : (A.next + 1 = C.next + 2) = False := eq_false (by omega)
  have nf1_2 : (C.next + 2 = A.next + 1) = False := eq_false (by omega)
  have lt1_2 : A.next + 1 < C.next + 2 := by omega
  have ne2_0 : (A.next + 2 = C.next) = False := eq_false (by omega)
  have nf2_0 : (C.next = A.next + 2) = False := eq_false (by omega)
  have lt2_0 : A.next + 2 < C.next := by omega
  have ne2_1 : (A.next + 2 = C.next + 1) = False := eq_false (by omega)
  have nf2_1 : (C.next + 1 = A.next + 2) = False := eq_false (by omega)
  have lt2_1 : A.next + 2 < C.next + 1 := by omega
  have ne2_2 : (A.next + 2 = C.next + 2) = False := eq_false (by omega)
  have nf2_2 : (C.next + 2 = A.next + 2) = False := eq_false (by omega)
  have lt2_2 : A.next + 2 < C.next + 2 := by omega
  have ne3_0 : (A.next + 3 = C.next) = False := eq_false (by omega)
  have nf3_0 : (C.next = A.next + 3) = False := eq_false (by omega)
  have lt3_0 : A.next + 3 < C.next := by omega
  have ne3_1 : (A.next + 3 = C.next + 1) = False := eq_false (by omega)
  have nf3_1 : (C.next + 1 = A.next + 3) = False := eq_false (by omega)
  have lt3_1 : A.next + 3 < C.next + 1 := by omega
  have ne3_2 : (A.next + 3 = C.next + 2) = False := eq_false (by omega)
  have nf3_2 : (C.next + 2 = A.next + 3) = False := eq_false (by omega)
  have lt3_2 : A.next + 3 < C.next + 2 := by omega
  have na1 : (A.next = A.next + 1) = False := eq_false (by omega)
  have na2 : (A.next = A.next + 2) = False := eq_false (by omega)
  have na3 : (A.next = A.next + 3) = False := eq_false (by omega)
  have hsC := hs.xt hA hx
  by_cases hlt : i < l.length
  case neg =>
    have e : i = l.length := by omega
    subst e
    have hlt0 : (l.length < l.length) = False := eq_false (by omega)
    by_cases hz : l.length = 0
    · have hnil : l = [] := List.length_eq_zero_iff.1 hz
      have sh := fun fl (X : Hp) (hX : Sl X 6 (.slice o l.length c) []) => wShapeNil (G := G) (fl := fl) (A := X) (p0 := p0) (p1 := p1) (p2 := p2) (q0 := q0) (q1 := q1) (q2 := q2) (r0 := r0) (r1 := r1) (r2 := r2) (s0 := s0) (s1 := s1) (s2 := s2) (t0 := t0) (t1 := t1) (t2 := t2) (u0 := u0) (u1 := u1) (u2 := u2) hG hX
      have zr := raw_zero (G := G) hG
      have is2 := fun fl A => wIs (G := G) (fl := fl) (A := A) hG zr zr zr zr zr zr zr zr (by decide)
      have e2 : acR P l l.length = [.bool false, .string { data := #[] }, .string { data := #[] }, .bool false, .string { data := #[] }, .string { data := #[] }, .bool false, .string { data := #[] }, .string { data := #[] }, .bool false, .string { data := #[] }, .string { data := #[] }] := by rw [hz]; rfl
      rw [e2] at c3 g3
      have hsN : Sl C 6 (.slice o l.length c) [] := by rw [hnil] at hsC ⊢; exact hsC
      simp only [↓R1, R2, R3, R4, TY, reduceIte, Nat.reduceEqDiff, Nat.reduceAdd, Nat.reduceMul, Nat.reduceLT, Nat.reduceLeDiff, reduceCtorEq, decide_true, decide_false, Int.reduceLE, Int.reduceLT, Int.reduceToNat, Int.reduceAdd, Int.reduceSub, Int.reduceMul, Int.reduceEq, j2, j3, j7, j8, j9, j29, j30, j31, hlt0, hflC, c0, c2, c3, g0, g2, g3, ne0_0, nf0_0, lt0_0, ne0_1, nf0_1, lt0_1, ne0_2, nf0_2, lt0_2, ne1_0, nf1_0, lt1_0, ne1_1, nf1_1, lt1_1, ne1_2, nf1_2, lt1_2, ne2_0, nf2_0, lt2_0, ne2_1, nf2_1, lt2_1, ne2_2, nf2_2, lt2_2, ne3_0, nf3_0, lt3_0, ne3_1, nf3_1, lt3_1, ne3_2, nf3_2, lt3_2, na1, na2, na3, hfl, hfl1, hfl2, hfl3, hfl4, hfl5, hfl6, NE, NE9, Nat.add_assoc]
      refine call_of (sh _ _ hsN) ?_
      simp only [↓R1, R2, R3, R4, TY, reduceIte, Nat.reduceEqDiff, Nat.reduceAdd, Nat.reduceMul, Nat.reduceLT, Nat.reduceLeDiff, reduceCtorEq, decide_true, decide_false, Int.reduceLE, Int.reduceLT, Int.reduceToNat, Int.reduceAdd, Int.reduceSub, Int.reduceMul, Int.reduceEq, j2, j3, j7, j8, j9, j29, j30, j31, hlt0, hflC, c0, c2, c3, g0, g2, g3, ne0_0, nf0_0, lt0_0, ne0_1, nf0_1, lt0_1, ne0_2, nf0_2, lt0_2, ne1_0, nf1_0, lt1_0, ne1_1, nf1_1, lt1_1, ne1_2, nf1_2, lt1_2, ne2_0, nf2_0, lt2_0, ne2_1, nf2_1, lt2_1, ne2_2, nf2_2, lt2_2, ne3_0, nf3_0, lt3_0, ne3_1, nf3_1, lt3_1, ne3_2, nf3_2, lt3_2, na1, na2, na3, hfl, hfl1, hfl2, hfl3, hfl4, hfl5, hfl6, NE, NE9, Nat.add_assoc]
      refine call_of (is2 _ _) ?_
      simp only [↓R1, R2, R3, R4, TY, reduceIte, Nat.reduceEqDiff, Nat.reduceAdd, Nat.reduceMul, Nat.reduceLT, Nat.reduceLeDiff, reduceCtorEq, decide_true, decide_false, Int.reduceLE, Int.reduceLT, Int.reduceToNat, Int.reduceAdd, Int.reduceSub, Int.reduceMul, Int.reduceEq, j2, j3, j7, j8, j9, j29, j30, j31, hlt0, hflC, c0, c2, c3, g0, g2, g3, ne0_0, nf0_0, lt0_0, ne0_1, nf0_1, lt0_1, ne0_2, nf0_2, lt0_2, ne1_0, nf1_0, lt1_0, ne1_1, nf1_1, lt1_1, ne1_2, nf1_2, lt1_2, ne2_0, nf2_0, lt2_0, ne2_1, nf2_1, lt2_1, ne2_2, nf2_2, lt2_2, ne3_0, nf3_0, lt3_0, ne3_1, nf3_1, lt3_1, ne3_2, nf3_2, lt3_2, na1, na2, na3, hfl, hfl1, hfl2, hfl3, hfl4, hfl5, hfl6, NE, NE9, Nat.add_assoc]
      refine Ended.back hA ?_ rfl (RB.bool _)
      simp (maxDischargeDepth := 20) only [xt_push, xt_put, hx, hx.next, le1C, le2C, Nat.le_refl, Nat.le_add_right]
    · have hS := shB_sz rp.ok hl (l.length - 1) (by omega)
      have is2 := fun fl A => wIsB (G := G) (fl := fl) (A := A) hG hS (by omega)
      have sh := fun fl => wShape (G := G) (fl := fl) (A := C) hG rp hsC hl hlen (by omega) (by omega)
      obtain ⟨n, hn'⟩ : ∃ n, l.length = n + 1 := ⟨l.length - 1, by omega⟩
      have e2 : acR P l l.length = rnC (shB P l (l.length - 1)) := by rw [hn']; rfl
      rw [e2, rnC_def] at c3 g3
      generalize shB P l (l.length - 1) = SB at *
      simp only [bxV_def, rnV_def] at sh is2
      simp only [↓R1, R2, R3, R4, TY, reduceIte, Nat.reduceEqDiff, Nat.reduceAdd, Nat.reduceMul, Nat.reduceLT, Nat.reduceLeDiff, reduceCtorEq, decide_true, decide_false, Int.reduceLE, Int.reduceLT, Int.reduceToNat, Int.reduceAdd, Int.reduceSub, Int.reduceMul, Int.reduceEq, j2, j3, j7, j8, j9, j29, j30, j31, hlt0, hflC, c0, c2, c3, g0, g2, g3, ne0_0, nf0_0, lt0_0, ne0_1, nf0_1, lt0_1, ne0_2, nf0_2, lt0_2, ne1_0, nf1_0, lt1_0, ne1_1, nf1_1, lt1_1, ne1_2, nf1_2, lt1_2, ne2_0, nf2_0, lt2_0, ne2_1, nf2_1, lt2_1, ne2_2, nf2_2, lt2_2, ne3_0, nf3_0, lt3_0, ne3_1, nf3_1, lt3_1, ne3_2, nf3_2, lt3_2, na1, na2, na3, hfl, hfl1, hfl2, hfl3, hfl4, hfl5, hfl6, NE, NE9, Nat.add_assoc]
      refine call_of (sh _) ?_
      simp only [↓R1, R2, R3, R4, TY, reduceIte, Nat.reduceEqDiff, Nat.reduceAdd, Nat.reduceMul, Nat.reduceLT, Nat.reduceLeDiff, reduceCtorEq, decide_true, decide_false, Int.reduceLE, Int.reduceLT, Int.reduceToNat, Int.reduceAdd, Int.reduceSub, Int.reduceMul, Int.reduceEq, j2, j3, j7, j8, j9, j29, j30, j31, hlt0, hflC, c0, c2, c3, g0, g2, g3, ne0_0, nf0_0, lt0_0, ne0_1, nf0_1, lt0_1, ne0_2, nf0_2, lt0_2, ne1_0, nf1_0, lt1_0, ne1_1, nf1_1, lt1_1, ne1_2, nf1_2, lt1_2, ne2_0, nf2_0, lt2_0, ne2_1, nf2_1, lt2_1, ne2_2, nf2_2, lt2_2, ne3_0, nf3_0, lt3_0, ne3_1, nf3_1, lt3_1, ne3_2, nf3_2, lt3_2, na1, na2, na3, hfl, hfl1, hfl2, hfl3, hfl4, hfl5, hfl6, NE, NE9, Nat.add_assoc]
      refine call_of (is2 _ _) ?_
      simp only [↓R1, R2, R3, R4, TY, reduceIte, Nat.reduceEqDiff, Nat.reduceAdd, Nat.reduceMul, Nat.reduceLT, Nat.reduceLeDiff, reduceCtorEq, decide_true, decide_false, Int.reduceLE, Int.reduceLT, Int.reduceToNat, Int.reduceAdd, Int.reduceSub, Int.reduceMul, Int.reduceEq, j2, j3, j7, j8, j9, j29, j30, j31, hlt0, hflC, c0, c2, c3, g0, g2, g3, ne0_0, nf0_0, lt0_0, ne0_1, nf0_1, lt0_1, ne0_2, nf0_2, lt0_2, ne1_0, nf1_0, lt1_0, ne1_1, nf1_1, lt1_1, ne1_2, nf1_2, lt1_2, ne2_0, nf2_0, lt2_0, ne2_1, nf2_1, lt2_1, ne2_2, nf2_2, lt2_2, ne3_0, nf3_0, lt3_0, ne3_1, nf3_1, lt3_1, ne3_2, nf3_2, lt3_2, na1, na2, na3, hfl, hfl1, hfl2, hfl3, hfl4, hfl5, hfl6, NE, NE9, Nat.add_assoc]
      refine Ended.back hA ?_ rfl (RB.bool _)
      simp (maxDischargeDepth := 20) only [xt_push, xt_put, hx, hx.next, le1C, le2C, Nat.le_refl, Nat.le_add_right]
  have hltT : (i < l.length) = True := eq_true hlt
  obtain ⟨a, rfl, -⟩ := hs.at (G := G) (i := i) (by simpa using hlt)
  have hab := hs.lt hA
  obtain ⟨u0', u1', u2', u3', u4', u5'⟩ := rvec_get (G := G) hsC hlt
  obtain ⟨⟨_, w1⟩, ⟨_, w2⟩⟩ := hl _ (List.getElem_mem hlt)
  have pp := fun fl A => wPointOf (G := G) (fl := fl) (A := A) hG rp.ok w1 w2 (by omega)
  have epv := pv_at (P := P) hlt
  rw [← epv] at pp
  have sB := pv_sz rp.ok hl hlt
  have hac : a.block < C.next := Nat.lt_of_lt_of_le hab hx.next
  have hac1 : a.block < C.next + 1 := Nat.lt_succ_of_lt hac
  have nec : (a.block = C.next) = False := eq_false (by omega)
  have hi63 : i < 9223372036854775807 := by omega
  have es : eszOK C a.block 6 := hsC.esz
  rcases i with _ | m
  · generalize hB : pv P l 0 = B at *
    have rm : ∀ x : Rat, rmin x x = x := fun x => by unfold rmin; split <;> rfl
    have rM : ∀ x : Rat, rmax x x = x := fun x => by unfold rmax; split <;> rfl
    have m1 := fun fl A => qmin (G := G) (fl := fl) (A := A) hG sB.x0 sB.x0 (by omega)
    have m2 := fun fl A => qmax (G := G) (fl := fl) (A := A) hG sB.x1 sB.x1 (by omega)
    have m3 := fun fl A => qmin (G := G) (fl := fl) (A := A) hG sB.y0 sB.y0 (by omega)
    have m4 := fun fl A => qmax (G := G) (fl := fl) (A := A) hG sB.y1 sB.y1 (by omega)
    rw [rm] at m1 m3
    rw [rM] at m2 m4
    have ez : acR P l (0 + 1) = rnC B := by show rnC (pv P l 0) = _; rw [hB]
    have e0 : acR P l 0 = [.bool false, .string { data := #[] }, .string { data := #[] }, .bool false, .string { data := #[] }, .string { data := #[] }, .bool false, .string { data := #[] }, .string { data := #[] }, .bool false, .string { data := #[] }, .string { data := #[] }] := rfl
    rw [e0] at c3 g3
    simp only [rnV_def] at pp
    simp only [ratV_def] at m1 m2 m3 m4
    simp only [Nat.zero_mul, Nat.zero_add] at u0' u1' u2' u3' u4' u5'
    have hm1 : (((0 : Nat) : Int) = 0) = True := eq_true rfl
    simp only [↓R1, R2, R3, R4, TY, reduceIte, Nat.reduceEqDiff, Nat.reduceAdd, Nat.reduceMul, Nat.reduceLT, Nat.reduceLeDiff, reduceCtorEq, decide_true, decide_false, Int.reduceLE, Int.reduceLT, Int.reduceToNat, Int.reduceAdd, Int.reduceSub, Int.reduceMul, Int.reduceEq, j2, j3, j7, j8, j9, j29, j30, j31, hltT, hac, hac1, nec, es, hflC, hfl1C, c0, c2, c3, g0, g2, g3, ne0_0, nf0_0, lt0_0, ne0_1, nf0_1, lt0_1, ne0_2, nf0_2, lt0_2, ne1_0, nf1_0, lt1_0, ne1_1, nf1_1, lt1_1, ne1_2, nf1_2, lt1_2, ne2_0, nf2_0, lt2_0, ne2_1, nf2_1, lt2_1, ne2_2, nf2_2, lt2_2, ne3_0, nf3_0, lt3_0, ne3_1, nf3_1, lt3_1, ne3_2, nf3_2, lt3_2, na1, na2, na3, hfl, hfl1, hfl2, hfl3, hfl4, hfl5, hfl6, NE, NE9, Nat.add_assoc, rcmp_lt_iff, rcmp_gt_iff, rsign_gt_iff, rcmp_zero, ex9_0, ex9_1, ex9_2, w_1, w_2, w_3, w_4, n_2, n_3, n_4, u0', u1', u2', u3', u4', u5']
    refine call_of (pp _ _) ?_
    simp only [↓R1, R2, R3, R4, TY, reduceIte, Nat.reduceEqDiff, Nat.reduceAdd, Nat.reduceMul, Nat.reduceLT, Nat.reduceLeDiff, reduceCtorEq, decide_true, decide_false, Int.reduceLE, Int.reduceLT, Int.reduceToNat, Int.reduceAdd, Int.reduceSub, Int.reduceMul, Int.reduceEq, j2, j3, j7, j8, j9, j29, j30, j31, hltT, hac, hac1, nec, es, hflC, hfl1C, c0, c2, c3, g0, g2, g3, ne0_0, nf0_0, lt0_0, ne0_1, nf0_1, lt0_1, ne0_2, nf0_2, lt0_2, ne1_0, nf1_0, lt1_0, ne1_1, nf1_1, lt1_1, ne1_2, nf1_2, lt1_2, ne2_0, nf2_0, lt2_0, ne2_1, nf2_1, lt2_1, ne2_2, nf2_2, lt2_2, ne3_0, nf3_0, lt3_0, ne3_1, nf3_1, lt3_1, ne3_2, nf3_2, lt3_2, na1, na2, na3, hfl, hfl1, hfl2, hfl3, hfl4, hfl5, hfl6, NE, NE9, Nat.add_assoc, rcmp_lt_iff, rcmp_gt_iff, rsign_gt_iff, rcmp_zero, ex9_0, ex9_1, ex9_2, w_1, w_2, w_3, w_4, n_2, n_3, n_4]
    refine unroll_of [(), (), ()] ?_
    simp only [↓R1, R2, R3, R4, TY, reduceIte, Nat.reduceEqDiff, Nat.reduceAdd, Nat.reduceMul, Nat.reduceLT, Nat.reduceLeDiff, reduceCtorEq, decide_true, decide_false, Int.reduceLE, Int.reduceLT, Int.reduceToNat, Int.reduceAdd, Int.reduceSub, Int.reduceMul, Int.reduceEq, j2, j3, j7, j8, j9, j29, j30, j31, hltT, hac, hac1, nec, es, hflC, hfl1C, c0, c2, c3, g0, g2, g3, ne0_0, nf0_0, lt0_0, ne0_1, nf0_1, lt0_1, ne0_2, nf0_2, lt0_2, ne1_0, nf1_0, lt1_0, ne1_1, nf1_1, lt1_1, ne1_2, nf1_2, lt1_2, ne2_0, nf2_0, lt2_0, ne2_1, nf2_1, lt2_1, ne2_2, nf2_2, lt2_2, ne3_0, nf3_0, lt3_0, ne3_1, nf3_1, lt3_1, ne3_2, nf3_2, lt3_2, na1, na2, na3, hfl, hfl1, hfl2, hfl3, hfl4, hfl5, hfl6, NE, NE9, Nat.add_assoc, rcmp_lt_iff, rcmp_gt_iff, rsign_gt_iff, rcmp_zero, ex9_0, ex9_1, ex9_2, w_1, w_2, w_3, w_4, n_2, n_3, n_4, hm1]
    refine call_of (m1 _ _) ?_
    simp only [↓R1, R2, R3, R4, TY, reduceIte, Nat.reduceEqDiff, Nat.reduceAdd, Nat.reduceMul, Nat.reduceLT, Nat.reduceLeDiff, reduceCtorEq, decide_true, decide_false, Int.reduceLE, Int.reduceLT, Int.reduceToNat, Int.reduceAdd, Int.reduceSub, Int.reduceMul, Int.reduceEq, j2, j3, j7, j8, j9, j29, j30, j31, hltT, hac, hac1, nec, es, hflC, hfl1C, c0, c2, c3, g0, g2, g3, ne0_0, nf0_0, lt0_0, ne0_1, nf0_1, lt0_1, ne0_2, nf0_2, lt0_2, ne1_0, nf1_0, lt1_0, ne1_1, nf1_1, lt1_1, ne1_2, nf1_2, lt1_2, ne2_0, nf2_0, lt2_0, ne2_1, nf2_1, lt2_1, ne2_2, nf2_2, lt2_2, ne3_0, nf3_0, lt3_0, ne3_1, nf3_1, lt3_1, ne3_2, nf3_2, lt3_2, na1, na2, na3, hfl, hfl1, hfl2, hfl3, hfl4, hfl5, hfl6, NE, NE9, Nat.add_assoc, rcmp_lt_iff, rcmp_gt_iff, rsign_gt_iff, rcmp_zero, ex9_0, ex9_1, ex9_2, w_1, w_2, w_3, w_4, n_2, n_3, n_4, hm1]
    refine call_of (m2 _ _) ?_
    simp only [↓R1, R2, R3, R4, TY, reduceIte, Nat.reduceEqDiff, Nat.reduceAdd, Nat.reduceMul, Nat.reduceLT, Nat.reduceLeDiff, reduceCtorEq, decide_true, decide_false, Int.reduceLE, Int.reduceLT, Int.reduceToNat, Int.reduceAdd, Int.reduceSub, Int.reduceMul, Int.reduceEq, j2, j3, j7, j8, j9, j29, j30, j31, hltT, hac, hac1, nec, es, hflC, hfl1C, c0, c2, c3, g0, g2, g3, ne0_0, nf0_0, lt0_0, ne0_1, nf0_1, lt0_1, ne0_2, nf0_2, lt0_2, ne1_0, nf1_0, lt1_0, ne1_1, nf1_1, lt1_1, ne1_2, nf1_2, lt1_2, ne2_0, nf2_0, lt2_0, ne2_1, nf2_1, lt2_1, ne2_2, nf2_2, lt2_2, ne3_0, nf3_0, lt3_0, ne3_1, nf3_1, lt3_1, ne3_2, nf3_2, lt3_2, na1, na2, na3, hfl, hfl1, hfl2, hfl3, hfl4, hfl5, hfl6, NE, NE9, Nat.add_assoc, rcmp_lt_iff, rcmp_gt_iff, rsign_gt_iff, rcmp_zero, ex9_0, ex9_1, ex9_2, w_1, w_2, w_3, w_4, n_2, n_3, n_4, hm1]
    rw [floOf_wr (by kernel_rfl)]
    simp only [↓R1, R2, R3, R4, TY, reduceIte, Nat.reduceEqDiff, Nat.reduceAdd, Nat.reduceMul, Nat.reduceLT, Nat.reduceLeDiff, reduceCtorEq, decide_true, decide_false, Int.reduceLE, Int.reduceLT, Int.reduceToNat, Int.reduceAdd, Int.reduceSub, Int.reduceMul, Int.reduceEq, j2, j3, j7, j8, j9, j29, j30, j31, hltT, hac, hac1, nec, es, hflC, hfl1C, c0, c2, c3, g0, g2, g3, ne0_0, nf0_0, lt0_0, ne0_1, nf0_1, lt0_1, ne0_2, nf0_2, lt0_2, ne1_0, nf1_0, lt1_0, ne1_1, nf1_1, lt1_1, ne1_2, nf1_2, lt1_2, ne2_0, nf2_0, lt2_0, ne2_1, nf2_1, lt2_1, ne2_2, nf2_2, lt2_2, ne3_0, nf3_0, lt3_0, ne3_1, nf3_1, lt3_1, ne3_2, nf3_2, lt3_2, na1, na2, na3, hfl, hfl1, hfl2, hfl3, hfl4, hfl5, hfl6, NE, NE9, Nat.add_assoc, rcmp_lt_iff, rcmp_gt_iff, rsign_gt_iff, rcmp_zero, ex9_0, ex9_1, ex9_2, w_1, w_2, w_3, w_4, n_2, n_3, n_4, hm1]
    refine call_of (m3 _ _) ?_
    simp only [↓R1, R2, R3, R4, TY, reduceIte, Nat.reduceEqDiff, Nat.reduceAdd, Nat.reduceMul, Nat.reduceLT, Nat.reduceLeDiff, reduceCtorEq, decide_true, decide_false, Int.reduceLE, Int.reduceLT, Int.reduceToNat, Int.reduceAdd, Int.reduceSub, Int.reduceMul, Int.reduceEq, j2, j3, j7, j8, j9, j29, j30, j31, hltT, hac, hac1, nec, es, hflC, hfl1C, c0, c2, c3, g0, g2, g3, ne0_0, nf0_0, lt0_0, ne0_1, nf0_1, lt0_1, ne0_2, nf0_2, lt0_2, ne1_0, nf1_0, lt1_0, ne1_1, nf1_1, lt1_1, ne1_2, nf1_2, lt1_2, ne2_0, nf2_0, lt2_0, ne2_1, nf2_1, lt2_1, ne2_2, nf2_2, lt2_2, ne3_0, nf3_0, lt3_0, ne3_1, nf3_1, lt3_1, ne3_2, nf3_2, lt3_2, na1, na2, na3, hfl, hfl1, hfl2, hfl3, hfl4, hfl5, hfl6, NE, NE9, Nat.add_assoc, rcmp_lt_iff, rcmp_gt_iff, rsign_gt_iff, rcmp_zero, ex9_0, ex9_1, ex9_2, w_1, w_2, w_3, w_4, n_2, n_3, n_4, hm1]
    refine call_of (m4 _ _) ?_
    simp only [↓R1, R2, R3, R4, TY, reduceIte, Nat.reduceEqDiff, Nat.reduceAdd, Nat.reduceMul, Nat.reduceLT, Nat.reduceLeDiff, reduceCtorEq, decide_true, decide_false, Int.reduceLE, Int.reduceLT, Int.reduceToNat, Int.reduceAdd, Int.reduceSub, Int.reduceMul, Int.reduceEq, j2, j3, j7, j8, j9, j29, j30, j31, hltT, hac, hac1, nec, es, hflC, hfl1C, c0, c2, c3, g0, g2, g3, ne0_0, nf0_0, lt0_0, ne0_1, nf0_1, lt0_1, ne0_2, nf0_2, lt0_2, ne1_0, nf1_0, lt1_0, ne1_1, nf1_1, lt1_1, ne1_2, nf1_2, lt1_2, ne2_0, nf2_0, lt2_0, ne2_1, nf2_1, lt2_1, ne2_2, nf2_2, lt2_2, ne3_0, nf3_0, lt3_0, ne3_1, nf3_1, lt3_1, ne3_2, nf3_2, lt3_2, na1, na2, na3, hfl, hfl1, hfl2, hfl3, hfl4, hfl5, hfl6, NE, NE9, Nat.add_assoc, rcmp_lt_iff, rcmp_gt_iff, rsign_gt_iff, rcmp_zero, ex9_0, ex9_1, ex9_2, w_1, w_2, w_3, w_4, n_2, n_3, n_4, hm1]
    rw [floOf_wr (by kernel_rfl)]
    simp only [↓R1, R2, R3, R4, TY, reduceIte, Nat.reduceEqDiff, Nat.reduceAdd, Nat.reduceMul, Nat.reduceLT, Nat.reduceLeDiff, reduceCtorEq, decide_true, decide_false, Int.reduceLE, Int.reduceLT, Int.reduceToNat, Int.reduceAdd, Int.reduceSub, Int.reduceMul, Int.reduceEq, j2, j3, j7, j8, j9, j29, j30, j31, hltT, hac, hac1, nec, es, hflC, hfl1C, c0, c2, c3, g0, g2, g3, ne0_0, nf0_0, lt0_0, ne0_1, nf0_1, lt0_1, ne0_2, nf0_2, lt0_2, ne1_0, nf1_0, lt1_0, ne1_1, nf1_1, lt1_1, ne1_2, nf1_2, lt1_2, ne2_0, nf2_0, lt2_0, ne2_1, nf2_1, lt2_1, ne2_2, nf2_2, lt2_2, ne3_0, nf3_0, lt3_0, ne3_1, nf3_1, lt3_1, ne3_2, nf3_2, lt3_2, na1, na2, na3, hfl, hfl1, hfl2, hfl3, hfl4, hfl5, hfl6, NE, NE9, Nat.add_assoc, rcmp_lt_iff, rcmp_gt_iff, rsign_gt_iff, rcmp_zero, ex9_0, ex9_1, ex9_2, w_1, w_2, w_3, w_4, n_2, n_3, n_4, hm1, hi63]
    refine range_on j31 hlt rfl ⟨?_, ?_, ?_, ?_, ?_, j2, j3, j7, j8, j9, j29, j30, rfl⟩
    · simp (maxDischargeDepth := 20) only [xt_push, xt_put, hx, hx.next, le1C, le2C, Nat.le_refl, Nat.le_add_right]
    · simp only [Hp.put_next, Hp.push_next]; omega
    · simp only [Hp.put_blk, Hp.push_blk, Hp.put_next, Hp.push_next, ne0_0, nf0_0, lt0_0, ne0_1, nf0_1, lt0_1, ne0_2, nf0_2, lt0_2, ne1_0, nf1_0, lt1_0, ne1_1, nf1_1, lt1_1, ne1_2, nf1_2, lt1_2, ne2_0, nf2_0, lt2_0, ne2_1, nf2_1, lt2_1, ne2_2, nf2_2, lt2_2, ne3_0, nf3_0, lt3_0, ne3_1, nf3_1, lt3_1, ne3_2, nf3_2, lt3_2, na1, na2, na3, if_false, NE9, Nat.add_left_cancel_iff, Nat.reduceEqDiff, reduceIte]; exact c0
    · simp only [Hp.put_blk, Hp.push_blk, Hp.put_next, Hp.push_next, ne0_0, nf0_0, lt0_0, ne0_1, nf0_1, lt0_1, ne0_2, nf0_2, lt0_2, ne1_0, nf1_0, lt1_0, ne1_1, nf1_1, lt1_1, ne1_2, nf1_2, lt1_2, ne2_0, nf2_0, lt2_0, ne2_1, nf2_1, lt2_1, ne2_2, nf2_2, lt2_2, ne3_0, nf3_0, lt3_0, ne3_1, nf3_1, lt3_1, ne3_2, nf3_2, lt3_2, na1, na2, na3, if_false, NE9, Nat.add_left_cancel_iff, Nat.reduceEqDiff, reduceIte]; exact c2
    · simp only [Hp.put_blk, if_true, ez, rnC_def]
  · have sS := shB_sz rp.ok hl m (by omega)
    have m1 := fun fl A => qmin (G := G) (fl := fl) (A := A) hG sS.x0 sB.x0 (by omega)
    have m2 := fun fl A => qmax (G := G) (fl := fl) (A := A) hG sS.x1 sB.x1 (by omega)
    have m3 := fun fl A => qmin (G := G) (fl := fl) (A := A) hG sS.y0 sB.y0 (by omega)
    have m4 := fun fl A => qmax (G := G) (fl := fl) (A := A) hG sS.y1 sB.y1 (by omega)
    rw [show rmin (shB P l m).x0 (pv P l (m + 1)).x0 = (shB P l (m + 1)).x0 from rfl] at m1
    rw [show rmax (shB P l m).x1 (pv P l (m + 1)).x1 = (shB P l (m + 1)).x1 from rfl] at m2
    rw [show rmin (shB P l m).y0 (pv P l (m + 1)).y0 = (shB P l (m + 1)).y0 from rfl] at m3
    rw [show rmax (shB P l m).y1 (pv P l (m + 1)).y1 = (shB P l (m + 1)).y1 from rfl] at m4
    have e1 : acR P l (m + 1) = rnC (shB P l m) := rfl
    have ez : acR P l (m + 1 + 1) = rnC (shB P l (m + 1)) := rfl
    rw [e1, rnC_def] at c3 g3
    generalize shB P l (m + 1) = W at *
    generalize shB P l m = V at *
    generalize pv P l (m + 1) = B at *
    simp only [rnV_def] at pp
    simp only [ratV_def] at m1 m2 m3 m4
    have hm1 : (((m + 1 : Nat) : Int) = 0) = False := eq_false (by omega)
    simp only [↓R1, R2, R3, R4, TY, reduceIte, Nat.reduceEqDiff, Nat.reduceAdd, Nat.reduceMul, Nat.reduceLT, Nat.reduceLeDiff, reduceCtorEq, decide_true, decide_false, Int.reduceLE, Int.reduceLT, Int.reduceToNat, Int.reduceAdd, Int.reduceSub, Int.reduceMul, Int.reduceEq, j2, j3, j7, j8, j9, j29, j30, j31, hltT, hac, hac1, nec, es, hflC, hfl1C, c0, c2, c3, g0, g2, g3, ne0_0, nf0_0, lt0_0, ne0_1, nf0_1, lt0_1, ne0_2, nf0_2, lt0_2, ne1_0, nf1_0, lt1_0, ne1_1, nf1_1, lt1_1, ne1_2, nf1_2, lt1_2, ne2_0, nf2_0, lt2_0, ne2_1, nf2_1, lt2_1, ne2_2, nf2_2, lt2_2, ne3_0, nf3_0, lt3_0, ne3_1, nf3_1, lt3_1, ne3_2, nf3_2, lt3_2, na1, na2, na3, hfl, hfl1, hfl2, hfl3, hfl4, hfl5, hfl6, NE, NE9, Nat.add_assoc, rcmp_lt_iff, rcmp_gt_iff, rsign_gt_iff, rcmp_zero, ex9_0, ex9_1, ex9_2, w_1, w_2, w_3, w_4, n_2, n_3, n_4, u0', u1', u2', u3', u4', u5']
    refine call_of (pp _ _) ?_
    simp only [↓R1, R2, R3, R4, TY, reduceIte, Nat.reduceEqDiff, Nat.reduceAdd, Nat.reduceMul, Nat.reduceLT, Nat.reduceLeDiff, reduceCtorEq, decide_true, decide_false, Int.reduceLE, Int.reduceLT, Int.reduceToNat, Int.reduceAdd, Int.reduceSub, Int.reduceMul, Int.reduceEq, j2, j3, j7, j8, j9, j29, j30, j31, hltT, hac, hac1, nec, es, hflC, hfl1C, c0, c2, c3, g0, g2, g3, ne0_0, nf0_0, lt0_0, ne0_1, nf0_1, lt0_1, ne0_2, nf0_2, lt0_2, ne1_0, nf1_0, lt1_0, ne1_1, nf1_1, lt1_1, ne1_2, nf1_2, lt1_2, ne2_0, nf2_0, lt2_0, ne2_1, nf2_1, lt2_1, ne2_2, nf2_2, lt2_2, ne3_0, nf3_0, lt3_0, ne3_1, nf3_1, lt3_1, ne3_2, nf3_2, lt3_2, na1, na2, na3, hfl, hfl1, hfl2, hfl3, hfl4, hfl5, hfl6, NE, NE9, Nat.add_assoc, rcmp_lt_iff, rcmp_gt_iff, rsign_gt_iff, rcmp_zero, ex9_0, ex9_1, ex9_2, w_1, w_2, w_3, w_4, n_2, n_3, n_4]
    refine unroll_of [(), (), ()] ?_
    simp only [↓R1, R2, R3, R4, TY, reduceIte, Nat.reduceEqDiff, Nat.reduceAdd, Nat.reduceMul, Nat.reduceLT, Nat.reduceLeDiff, reduceCtorEq, decide_true, decide_false, Int.reduceLE, Int.reduceLT, Int.reduceToNat, Int.reduceAdd, Int.reduceSub, Int.reduceMul, Int.reduceEq, j2, j3, j7, j8, j9, j29, j30, j31, hltT, hac, hac1, nec, es, hflC, hfl1C, c0, c2, c3, g0, g2, g3, ne0_0, nf0_0, lt0_0, ne0_1, nf0_1, lt0_1, ne0_2, nf0_2, lt0_2, ne1_0, nf1_0, lt1_0, ne1_1, nf1_1, lt1_1, ne1_2, nf1_2, lt1_2, ne2_0, nf2_0, lt2_0, ne2_1, nf2_1, lt2_1, ne2_2, nf2_2, lt2_2, ne3_0, nf3_0, lt3_0, ne3_1, nf3_1, lt3_1, ne3_2, nf3_2, lt3_2, na1, na2, na3, hfl, hfl1, hfl2, hfl3, hfl4, hfl5, hfl6, NE, NE9, Nat.add_assoc, rcmp_lt_iff, rcmp_gt_iff, rsign_gt_iff, rcmp_zero, ex9_0, ex9_1, ex9_2, w_1, w_2, w_3, w_4, n_2, n_3, n_4, hm1]
    refine call_of (m1 _ _) ?_
    simp only [↓R1, R2, R3, R4, TY, reduceIte, Nat.reduceEqDiff, Nat.reduceAdd, Nat.reduceMul, Nat.reduceLT, Nat.reduceLeDiff, reduceCtorEq, decide_true, decide_false, Int.reduceLE, Int.reduceLT, Int.reduceToNat, Int.reduceAdd, Int.reduceSub, Int.reduceMul, Int.reduceEq, j2, j3, j7, j8, j9, j29, j30, j31, hltT, hac, hac1, nec, es, hflC, hfl1C, c0, c2, c3, g0, g2, g3, ne0_0, nf0_0, lt0_0, ne0_1, nf0_1, lt0_1, ne0_2, nf0_2, lt0_2, ne1_0, nf1_0, lt1_0, ne1_1, nf1_1, lt1_1, ne1_2, nf1_2, lt1_2, ne2_0, nf2_0, lt2_0, ne2_1, nf2_1, lt2_1, ne2_2, nf2_2, lt2_2, ne3_0, nf3_0, lt3_0, ne3_1, nf3_1, lt3_1, ne3_2, nf3_2, lt3_2, na1, na2, na3, hfl, hfl1, hfl2, hfl3, hfl4, hfl5, hfl6, NE, NE9, Nat.add_assoc, rcmp_lt_iff, rcmp_gt_iff, rsign_gt_iff, rcmp_zero, ex9_0, ex9_1, ex9_2, w_1, w_2, w_3, w_4, n_2, n_3, n_4, hm1]
    refine call_of (m2 _ _) ?_
    simp only [↓R1, R2, R3, R4, TY, reduceIte, Nat.reduceEqDiff, Nat.reduceAdd, Nat.reduceMul, Nat.reduceLT, Nat.reduceLeDiff, reduceCtorEq, decide_true, decide_false, Int.reduceLE, Int.reduceLT, Int.reduceToNat, Int.reduceAdd, Int.reduceSub, Int.reduceMul, Int.reduceEq, j2, j3, j7, j8, j9, j29, j30, j31, hltT, hac, hac1, nec, es, hflC, hfl1C, c0, c2, c3, g0, g2, g3, ne0_0, nf0_0, lt0_0, ne0_1, nf0_1, lt0_1, ne0_2, nf0_2, lt0_2, ne1_0, nf1_0, lt1_0, ne1_1, nf1_1, lt1_1, ne1_2, nf1_2, lt1_2, ne2_0, nf2_0, lt2_0, ne2_1, nf2_1, lt2_1, ne2_2, nf2_2, lt2_2, ne3_0, nf3_0, lt3_0, ne3_1, nf3_1, lt3_1, ne3_2, nf3_2, lt3_2, na1, na2, na3, hfl, hfl1, hfl2, hfl3, hfl4, hfl5, hfl6, NE, NE9, Nat.add_assoc, rcmp_lt_iff, rcmp_gt_iff, rsign_gt_iff, rcmp_zero, ex9_0, ex9_1, ex9_2, w_1, w_2, w_3, w_4, n_2, n_3, n_4, hm1]
    rw [floOf_wr (by kernel_rfl)]
    simp only [↓R1, R2, R3, R4, TY, reduceIte, Nat.reduceEqDiff, Nat.reduceAdd, Nat.reduceMul, Nat.reduceLT, Nat.reduceLeDiff, reduceCtorEq, decide_true, decide_false, Int.reduceLE, Int.reduceLT, Int.reduceToNat, Int.reduceAdd, Int.reduceSub, Int.reduceMul, Int.reduceEq, j2, j3, j7, j8, j9, j29, j30, j31, hltT, hac, hac1, nec, es, hflC, hfl1C, c0, c2, c3, g0, g2, g3, ne0_0, nf0_0, lt0_0, ne0_1, nf0_1, lt0_1, ne0_2, nf0_2, lt0_2, ne1_0, nf1_0, lt1_0, ne1_1, nf1_1, lt1_1, ne1_2, nf1_2, lt1_2, ne2_0, nf2_0, lt2_0, ne2_1, nf2_1, lt2_1, ne2_2, nf2_2, lt2_2, ne3_0, nf3_0, lt3_0, ne3_1, nf3_1, lt3_1, ne3_2, nf3_2, lt3_2, na1, na2, na3, hfl, hfl1, hfl2, hfl3, hfl4, hfl5, hfl6, NE, NE9, Nat.add_assoc, rcmp_lt_iff, rcmp_gt_iff, rsign_gt_iff, rcmp_zero, ex9_0, ex9_1, ex9_2, w_1, w_2, w_3, w_4, n_2, n_3, n_4, hm1]
    refine call_of (m3 _ _) ?_
    simp only [↓R1, R2, R3, R4, TY, reduceIte, Nat.reduceEqDiff, Nat.reduceAdd, Nat.reduceMul, Nat.reduceLT, Nat.reduceLeDiff, reduceCtorEq, decide_true, decide_false, Int.reduceLE, Int.reduceLT, Int.reduceToNat, Int.reduceAdd, Int.reduceSub, Int.reduceMul, Int.reduceEq, j2, j3, j7, j8, j9, j29, j30, j31, hltT, hac, hac1, nec, es, hflC, hfl1C, c0, c2, c3, g0, g2, g3, ne0_0, nf0_0, lt0_0, ne0_1, nf0_1, lt0_1, ne0_2, nf0_2, lt0_2, ne1_0, nf1_0, lt1_0, ne1_1, nf1_1, lt1_1, ne1_2, nf1_2, lt1_2, ne2_0, nf2_0, lt2_0, ne2_1, nf2_1, lt2_1, ne2_2, nf2_2, lt2_2, ne3_0, nf3_0, lt3_0, ne3_1, nf3_1, lt3_1, ne3_2, nf3_2, lt3_2, na1, na2, na3, hfl, hfl1, hfl2, hfl3, hfl4, hfl5, hfl6, NE, NE9, Nat.add_assoc, rcmp_lt_iff, rcmp_gt_iff, rsign_gt_iff, rcmp_zero, ex9_0, ex9_1, ex9_2, w_1, w_2, w_3, w_4, n_2, n_3, n_4, hm1]
    refine call_of (m4 _ _) ?_
    simp only [↓R1, R2, R3, R4, TY, reduceIte, Nat.reduceEqDiff, Nat.reduceAdd, Nat.reduceMul, Nat.reduceLT, Nat.reduceLeDiff, reduceCtorEq, decide_true, decide_false, Int.reduceLE, Int.reduceLT, Int.reduceToNat, Int.reduceAdd, Int.reduceSub, Int.reduceMul, Int.reduceEq, j2, j3, j7, j8, j9, j29, j30, j31, hltT, hac, hac1, nec, es, hflC, hfl1C, c0, c2, c3, g0, g2, g3, ne0_0, nf0_0, lt0_0, ne0_1, nf0_1, lt0_1, ne0_2, nf0_2, lt0_2, ne1_0, nf1_0, lt1_0, ne1_1, nf1_1, lt1_1, ne1_2, nf1_2, lt1_2, ne2_0, nf2_0, lt2_0, ne2_1, nf2_1, lt2_1, ne2_2, nf2_2, lt2_2, ne3_0, nf3_0, lt3_0, ne3_1, nf3_1, lt3_1, ne3_2, nf3_2, lt3_2, na1, na2, na3, hfl, hfl1, hfl2, hfl3, hfl4, hfl5, hfl6, NE, NE9, Nat.add_assoc, rcmp_lt_iff, rcmp_gt_iff, rsign_gt_iff, rcmp_zero, ex9_0, ex9_1, ex9_2, w_1, w_2, w_3, w_4, n_2, n_3, n_4, hm1]
    rw [floOf_wr (by kernel_rfl)]
    simp only [↓R1, R2, R3, R4, TY, reduceIte, Nat.reduceEqDiff, Nat.reduceAdd, Nat.reduceMul, Nat.reduceLT, Nat.reduceLeDiff, reduceCtorEq, decide_true, decide_false, Int.reduceLE, Int.reduceLT, Int.reduceToNat, Int.reduceAdd, Int.reduceSub, Int.reduceMul, Int.reduceEq, j2, j3, j7, j8, j9, j29, j30, j31, hltT, hac, hac1, nec, es, hflC, hfl1C, c0, c2, c3, g0, g2, g3, ne0_0, nf0_0, lt0_0, ne0_1, nf0_1, lt0_1, ne0_2, nf0_2, lt0_2, ne1_0, nf1_0, lt1_0, ne1_1, nf1_1, lt1_1, ne1_2, nf1_2, lt1_2, ne2_0, nf2_0, lt2_0, ne2_1, nf2_1, lt2_1, ne2_2, nf2_2, lt2_2, ne3_0, nf3_0, lt3_0, ne3_1, nf3_1, lt3_1, ne3_2, nf3_2, lt3_2, na1, na2, na3, hfl, hfl1, hfl2, hfl3, hfl4, hfl5, hfl6, NE, NE9, Nat.add_assoc, rcmp_lt_iff, rcmp_gt_iff, rsign_gt_iff, rcmp_zero, ex9_0, ex9_1, ex9_2, w_1, w_2, w_3, w_4, n_2, n_3, n_4, hm1, hi63]
    refine range_on j31 hlt rfl ⟨?_, ?_, ?_, ?_, ?_, j2, j3, j7, j8, j9, j29, j30, rfl⟩
    · simp (maxDischargeDepth := 20) only [xt_push, xt_put, hx, hx.next, le1C, le2C, Nat.le_refl, Nat.le_add_right]
    · simp only [Hp.put_next, Hp.push_next]; omega
    · simp only [Hp.put_blk, Hp.push_blk, Hp.put_next, Hp.push_next, ne0_0, nf0_0, lt0_0, ne0_1, nf0_1, lt0_1, ne0_2, nf0_2, lt0_2, ne1_0, nf1_0, lt1_0, ne1_1, nf1_1, lt1_1, ne1_2, nf1_2, lt1_2, ne2_0, nf2_0, lt2_0, ne2_1, nf2_1, lt2_1, ne2_2, nf2_2, lt2_2, ne3_0, nf3_0, lt3_0, ne3_1, nf3_1, lt3_1, ne3_2, nf3_2, lt3_2, na1, na2, na3, if_false, NE9, Nat.add_left_cancel_iff, Nat.reduceEqDiff, reduceIte]; exact c0
    · simp only [Hp.put_blk, Hp.push_blk, Hp.put_next, Hp.push_next, ne0_0, nf0_0, lt0_0, ne0_1, nf0_1, lt0_1, ne0_2, nf0_2, lt0_2, ne1_0, nf1_0, lt1_0, ne1_1, nf1_1, lt1_1, ne1_2, nf1_2, lt1_2, ne2_0, nf2_0, lt2_0, ne2_1, nf2_1, lt2_1, ne2_2, nf2_2, lt2_2, ne3_0, nf3_0, lt3_0, ne3_1, nf3_1, lt3_1, ne3_2, nf3_2, lt3_2, na1, na2, na3, if_false, NE9, Nat.add_left_cancel_iff, Nat.reduceEqDiff, reduceIte]; exact c2
    · simp only [Hp.put_blk, if_true, ez, rnC_def]

end
end Go.Proofs.YtjkimjmocfjjnaaDoor.Ab
