/- The box of many points. -/
import Derived.Test.YtjkimjmocfjjnaaDoorHc
namespace Go.Proofs.YtjkimjmocfjjnaaDoor.Ab
open Go.RowKit
set_option linter.unusedVariables false
set_option linter.unusedSimpArgs false
set_option maxRecDepth 100000

/-- A point of any bytes, with its numbers. -/
structure Rv where
  (g0 : Bool) (g1 g2 : List UInt8) (h0 : Bool) (h1 h2 : List UInt8) (g h : Rat)
def Rv.cells (x : Rv) : List Value := [.bool x.g0, .string (S x.g1), .string (S x.g2), .bool x.h0, .string (S x.h1), .string (S x.h2)]
def RvOk (G : Gl) (x : Rv) (k : Nat) : Prop := (∃ ok, Raw G x.g0 x.g1 x.g2 ok x.g k) ∧ ∃ ok, Raw G x.h0 x.h1 x.h2 ok x.h k
def joinB (B C : Bx) : Bx := ⟨rmin B.x0 C.x0, rmin B.y0 C.y0, rmax B.x1 C.x1, rmax B.y1 C.y1⟩
def pv (P : Po) (l : List Rv) (i : Nat) : Bx := match l[i]? with | some x => ptB P x.g x.h | none => ⟨0, 0, 0, 0⟩
def shB (P : Po) (l : List Rv) : Nat → Bx
  | 0 => pv P l 0
  | j + 1 => joinB (shB P l j) (pv P l (j + 1))
def bxC (B : Bx) : List Value := [.bool (decide ((B.x0).num < 0)), .string (S (nb (B.x0).num.natAbs)), .string (S (nb (B.x0).den)), .bool (decide ((B.y0).num < 0)), .string (S (nb (B.y0).num.natAbs)), .string (S (nb (B.y0).den)), .bool (decide ((B.x1).num < 0)), .string (S (nb (B.x1).num.natAbs)), .string (S (nb (B.x1).den)), .bool (decide ((B.y1).num < 0)), .string (S (nb (B.y1).num.natAbs)), .string (S (nb (B.y1).den))]
theorem bxC_def (B : Bx) : bxC B = [.bool (decide ((B.x0).num < 0)), .string (S (nb (B.x0).num.natAbs)), .string (S (nb (B.x0).den)), .bool (decide ((B.y0).num < 0)), .string (S (nb (B.y0).num.natAbs)), .string (S (nb (B.y0).den)), .bool (decide ((B.x1).num < 0)), .string (S (nb (B.x1).num.natAbs)), .string (S (nb (B.x1).den)), .bool (decide ((B.y1).num < 0)), .string (S (nb (B.y1).num.natAbs)), .string (S (nb (B.y1).den))] := rfl
def rnC (B : Bx) : List Value := [.bool (decide ((B.x0).num < 0)), .string (S (nb (B.x0).num.natAbs)), .string (S (nb (B.x0).den)), .bool (decide ((B.x1).num < 0)), .string (S (nb (B.x1).num.natAbs)), .string (S (nb (B.x1).den)), .bool (decide ((B.y0).num < 0)), .string (S (nb (B.y0).num.natAbs)), .string (S (nb (B.y0).den)), .bool (decide ((B.y1).num < 0)), .string (S (nb (B.y1).num.natAbs)), .string (S (nb (B.y1).den))]
theorem rnC_def (B : Bx) : rnC B = [.bool (decide ((B.x0).num < 0)), .string (S (nb (B.x0).num.natAbs)), .string (S (nb (B.x0).den)), .bool (decide ((B.x1).num < 0)), .string (S (nb (B.x1).num.natAbs)), .string (S (nb (B.x1).den)), .bool (decide ((B.y0).num < 0)), .string (S (nb (B.y0).num.natAbs)), .string (S (nb (B.y0).den)), .bool (decide ((B.y1).num < 0)), .string (S (nb (B.y1).num.natAbs)), .string (S (nb (B.y1).den))] := rfl
def acB (P : Po) (l : List Rv) : Nat → List Value
  | 0 => [.bool false, .string { data := #[] }, .string { data := #[] }, .bool false, .string { data := #[] }, .string { data := #[] }, .bool false, .string { data := #[] }, .string { data := #[] }, .bool false, .string { data := #[] }, .string { data := #[] }]
  | i + 1 => bxC (shB P l i)
def acR (P : Po) (l : List Rv) : Nat → List Value
  | 0 => [.bool false, .string { data := #[] }, .string { data := #[] }, .bool false, .string { data := #[] }, .string { data := #[] }, .bool false, .string { data := #[] }, .string { data := #[] }, .bool false, .string { data := #[] }, .string { data := #[] }]
  | i + 1 => rnC (shB P l i)
theorem pv_at {P : Po} {l : List Rv} {i : Nat} (h : i < l.length) : pv P l i = ptB P l[i].g l[i].h := by simp [pv, h]
theorem pv_sz {G : Gl} {P : Po} {l : List Rv} {k : Nat} (hp : P.ok k) (hl : ∀ x ∈ l, RvOk G x k) {i : Nat} (h : i < l.length) : (pv P l i).sz (20 * k + 20) := by
  rw [pv_at h]
  obtain ⟨⟨_, r1⟩, ⟨_, r2⟩⟩ := hl _ (List.getElem_mem h)
  exact ptB_sz hp r1.sz r2.sz
theorem shB_sz {G : Gl} {P : Po} {l : List Rv} {k : Nat} (hp : P.ok k) (hl : ∀ x ∈ l, RvOk G x k) : ∀ i, i < l.length → (shB P l i).sz (20 * k + 20)
  | 0, h => pv_sz hp hl h
  | i + 1, h => by
    have a := shB_sz hp hl i (by omega)
    have b := pv_sz hp hl h
    exact ⟨a.x0.min b.x0, a.y0.min b.y0, a.x1.max b.x1, a.y1.max b.y1⟩
theorem rvec_get {G : Gl} {B : Hp} {a : Addr} {n c : Nat} {l : List Rv} (h : Sl B 6 (.slice (some a) n c) (l.map Rv.cells)) {i : Nat} (hi : i < l.length) :
    B.get G (aadd a (i * 6)) = some (.bool l[i].g0) ∧ B.get G (aadd a (i * 6 + 1)) = some (.string (S l[i].g1)) ∧ B.get G (aadd a (i * 6 + 2)) = some (.string (S l[i].g2)) ∧
    B.get G (aadd a (i * 6 + 3)) = some (.bool l[i].h0) ∧ B.get G (aadd a (i * 6 + 4)) = some (.string (S l[i].h1)) ∧ B.get G (aadd a (i * 6 + 5)) = some (.string (S l[i].h2)) := by
  obtain ⟨a', h1, h2⟩ := h.at (G := G) (i := i) (by simpa using hi)
  cases h1
  simp only [List.getElem_map] at h2
  exact ⟨h2 0 _ rfl, h2 1 _ rfl, h2 2 _ rfl, h2 3 _ rfl, h2 4 _ rfl, h2 5 _ rfl⟩

section
variable {G : Gl} {fl : Nat} {A : Hp}

set_option maxHeartbeats 8000000 in
theorem wShape {p0 : Bool} {p1 p2 : List UInt8} {q0 : Bool} {q1 q2 : List UInt8} {r0 : Bool} {r1 r2 : List UInt8} {s0 : Bool} {s1 s2 : List UInt8} {t0 : Bool} {t1 t2 : List UInt8} {u0 : Bool} {u1 u2 : List UInt8} {P : Po} {k : Nat} {v : Value} {l : List Rv} (hG : G 1 = some tabV) (rp : RawP G p0 p1 p2 q0 q1 q2 r0 r1 r2 s0 s1 s2 t0 t1 t2 u0 u1 u2 P k) (hs : Sl A 6 v (l.map Rv.cells)) (hl : ∀ x ∈ l, RvOk G x k) (hlen : l.length < 4611686018427387904) (h0 : 0 < l.length) (hk : 1000 * k + 1000 ≤ 5000000000) : Sound Tryd.prog G 35 [.agg #[.bool p0, .string (S p1), .string (S p2), .bool q0, .string (S q1), .string (S q2), .bool r0, .string (S r1), .string (S r2), .bool s0, .string (S s1), .string (S s2), .bool t0, .string (S t1), .string (S t2), .bool u0, .string (S u1), .string (S u2)], v] fl A (bxV (shB P l (l.length - 1))) A := by
  refine Sound.of mixed Tryd.func35 Tryd.ntmps35 Tryd.results35 (by kernel_rfl) rfl (by kernel_rfl) (by kernel_rfl) fun hA => ?_
  have hfl : fl ≤ A.next := by have := hA.floor; omega
  have hfl1 : fl ≤ A.next + 1 := by have := hA.floor; omega
  have hfl2 : fl ≤ A.next + 2 := by have := hA.floor; omega
  have hfl3 : fl ≤ A.next + 3 := by have := hA.floor; omega
  have hfl4 : fl ≤ A.next + 4 := by have := hA.floor; omega
  have hfl5 : fl ≤ A.next + 5 := by have := hA.floor; omega
  have hfl6 : fl ≤ A.next + 6 := by have := hA.floor; omega
  obtain ⟨o, c, rfl⟩ := hs.len
  rw [List.length_map] at hs ⊢
  obtain ⟨a, rfl, -⟩ := hs.at (G := G) (i := 0) (by simpa using h0)
  have hrb := bxV_rb A.next (shB P l (l.length - 1))
  have hab := hs.lt hA
  simp only [↓R1, R2, R3, R4, TY, reduceIte, Nat.reduceEqDiff, Nat.reduceAdd, Nat.reduceMul, Nat.reduceLT, Nat.reduceLeDiff, reduceCtorEq, decide_true, decide_false, Int.reduceLE, Int.reduceLT, Int.reduceToNat, Int.reduceAdd, Int.reduceSub, Int.reduceMul, Int.reduceEq, hfl, hfl1, hfl2, hfl3, hfl4, hfl5, hfl6, NE, NE9, Nat.add_assoc, rcmp_lt_iff, rcmp_gt_iff, rsign_gt_iff, rcmp_zero, ex9_0, ex9_1, ex9_2, w_1, w_2, w_3, w_4, n_2, n_3, n_4]
  refine range_of 11 l.length (fun i τ C => Xt A.next A C ∧ A.next + 3 ≤ C.next ∧ C.blk A.next = some (.row [.bool p0, .string (S p1), .string (S p2), .bool q0, .string (S q1), .string (S q2), .bool r0, .string (S r1), .string (S r2), .bool s0, .string (S s1), .string (S s2), .bool t0, .string (S t1), .string (S t2), .bool u0, .string (S u1), .string (S u2)] 0 18) ∧ C.blk (A.next + 1) = some (.row [.bool false, .string { data := #[] }, .string { data := #[] }, .bool false, .string { data := #[] }, .string { data := #[] }, .bool false, .string { data := #[] }, .string { data := #[] }, .bool false, .string { data := #[] }, .string { data := #[] }] 0 12) ∧ C.blk (A.next + 2) = some (.row (acB P l i) 0 12) ∧ τ 2 = some (.pointer (some ⟨A.next, 0, some 0⟩)) ∧ τ 4 = some (.pointer (some ⟨A.next + 1, 0, some 0⟩)) ∧ τ 5 = some (.pointer (some ⟨A.next + 2, 0, some 0⟩)) ∧ τ 9 = some (.slice (some a) l.length c) ∧ τ 10 = some (.int .i64 (l.length : Nat)) ∧ τ 11 = some (.int .i64 (i : Nat))) ⟨?_, ?_, ?_, ?_, ?_, rfl, rfl, rfl, rfl, rfl, rfl⟩ ?_
  · simp (maxDischargeDepth := 20) only [xt_push, xt_put, xt_refl, Nat.le_refl, Nat.le_add_right, Nat.add_assoc, Nat.reduceAdd]
  · simp
  · simp [Hp.put_blk, Hp.push_blk, Nat.add_assoc]
  · simp [Hp.put_blk, Hp.push_blk, Nat.add_assoc]
  · simp [Hp.put_blk, Hp.push_blk, Nat.add_assoc, acB]
  rintro i τ C hi ⟨hx, hn, c0, c1, c2, j2, j4, j5, j9, j10, j11⟩
  have hflC : fl ≤ C.next := Nat.le_trans hA.floor hx.next
  have hfl1C : fl ≤ C.next + 1 := by omega
  have le1C : A.next ≤ C.next + 1 := by omega
  have le2C : A.next ≤ C.next + 2 := by omega
  have g0 : ∀ j, C.get G ⟨A.next, j, some 0⟩ = ([.bool p0, .string (S p1), .string (S p2), .bool q0, .string (S q1), .string (S q2), .bool r0, .string (S r1), .string (S r2), .bool s0, .string (S s1), .string (S s2), .bool t0, .string (S t1), .string (S t2), .bool u0, .string (S u1), .string (S u2)] : List Value)[j]? := fun j => by simp only [Hp.get, c0, if_true]
  have g1 : ∀ j, C.get G ⟨A.next + 1, j, some 0⟩ = ([.bool false, .string { data := #[] }, .string { data := #[] }, .bool false, .string { data := #[] }, .string { data := #[] }, .bool false, .string { data := #[] }, .string { data := #[] }, .bool false, .string { data := #[] }, .string { data := #[] }] : List Value)[j]? := fun j => by simp only [Hp.get, c1, if_true]
  have g2 : ∀ j, C.get G ⟨A.next + 2, j, some 0⟩ = (acB P l i)[j]? := fun j => by simp only [Hp.get, c2, if_true]
  have ne0_0 : (A.next = C.next) = False := eq_false (by omega)
  have nf0_0 : (C.next = A.next) = False := eq_false (by omega)
  have lt0_0 : A.next < C.next := by omega
  have ne0_1 : (A.next = C.next + 1) = False := eq_false (by omega)
  have nf0_1 : (C.next + 1 = A.next) = False := eq_false (by omega)
  have lt0_1 : A.next < C.next + 1 := by omega
  have ne0_2 : (A.next = C.next + 2) = False := eq_false (by omega)
  have nf0_2 : (C.next + 2 = A.next) = False := eq_false (by omega)
  have lt0_2 : A.next < C.next + 2 := by omega
  have ne1_0 : (A.next + 1 = C.next) = False := eq_false (by omega)
  have nf1_0 : (C.next = A.next + 1) = False := eq_false (by omega)
  have lt1_0 : A.next + 1 < C.next := by omega
  have ne1_1 : (A.next + 1 = C.next + 1) = False := eq_false (by omega)
  have nf1_1 : (C.next + 1 = A.next + 1) = False := eq_false (by omega)
  have lt1_1 : A.next + 1 < C.next + 1 := by omega
  have ne1_2 : (A.next + 1 = C.next + 2) = False := eq_false (by omega)
  have nf1_2 : (C.next + 2 = A.next + 1) = False := eq_false (by omega)
  have lt1_2 : A.next + 1 < C.next + 2 := by omega
  have ne2_0 : (A.next + 2 = C.next) = False := eq_false (by omega)
  have nf2_0 : (C.next = A.next + 2) = False := eq_false (by omega)
  have lt2_0 : A.next + 2 < C.next := by omega
  have ne2_1 : (A.next + 2 = C.next + 1) = False := eq_false (by omega)
  have nf2_1 : (C.next + 1 = A.next + 2) = False := eq_false (by omega)
  have lt2_1 : A.next + 2 < C.next + 1 := by omega
  have ne2_2 : (A.next + 2 = C.next + 2) = False := eq_false (by omega)
  have nf2_2 : (C.next + 2 = A.next + 2) = False := eq_false (by omega)
  have lt2_2 : A.next + 2 < C.next + 2 := by omega
  have na1 : (A.next = A.next + 1) = False := eq_false (by omega)
  have na2 : (A.next = A.next + 2) = False := eq_false (by omega)
  by_cases hlt : i < l.length
  case neg =>
    have e : i = l.length := by omega
    subst e
    have hlt0 : (l.length < l.length) = False := eq_false (by omega)
    obtain ⟨n, hn'⟩ : ∃ n, l.length = n + 1 := ⟨l.length - 1, by omega⟩
    have e2 : acB P l l.length = bxC (shB P l (l.length - 1)) := by rw [hn']; rfl
    rw [e2, bxC_def] at c2 g2
    simp only [↓R1, R2, R3, R4, TY, reduceIte, Nat.reduceEqDiff, Nat.reduceAdd, Nat.reduceMul, Nat.reduceLT, Nat.reduceLeDiff, reduceCtorEq, decide_true, decide_false, Int.reduceLE, Int.reduceLT, Int.reduceToNat, Int.reduceAdd, Int.reduceSub, Int.reduceMul, Int.reduceEq, j2, j4, j5, j9, j10, j11, hlt0, hflC, c0, c1, c2, g0, g1, g2, ne0_0, nf0_0, lt0_0, ne0_1, nf0_1, lt0_1, ne0_2, nf0_2, lt0_2, ne1_0, nf1_0, lt1_0, ne1_1, nf1_1, lt1_1, ne1_2, nf1_2, lt1_2, ne2_0, nf2_0, lt2_0, ne2_1, nf2_1, lt2_1, ne2_2, nf2_2, lt2_2, na1, na2, hfl, hfl1, hfl2, hfl3, hfl4, hfl5, hfl6, NE, NE9, Nat.add_assoc]
    refine Ended.back hA ?_ rfl hrb
    simp (maxDischargeDepth := 20) only [xt_push, xt_put, hx, hx.next, le1C, le2C, Nat.le_refl, Nat.le_add_right]
  have hltT : (i < l.length) = True := eq_true hlt
  have hsC := hs.xt hA hx
  obtain ⟨u0, u1, u2, u3, u4, u5⟩ := rvec_get (G := G) hsC hlt
  obtain ⟨⟨_, r1⟩, ⟨_, r2⟩⟩ := hl _ (List.getElem_mem hlt)
  have pp := fun fl A => wPoint (G := G) (fl := fl) (A := A) hG rp r1 r2 (by omega)
  have epv := pv_at (P := P) hlt
  rw [← epv] at pp
  have hac : a.block < C.next := Nat.lt_of_lt_of_le hab hx.next
  have hac1 : a.block < C.next + 1 := Nat.lt_succ_of_lt hac
  have nec : (a.block = C.next) = False := eq_false (by omega)
  have hi63 : i < 9223372036854775807 := by omega
  have es : eszOK C a.block 6 := hsC.esz
  rcases i with _ | m
  · have sB := pv_sz rp.ok hl hlt
    generalize hB : pv P l 0 = B at *
    simp only [bxV_def] at pp
    have ez : acB P l 1 = bxC B := by show bxC (pv P l 0) = _; rw [hB]
    have e0 : acB P l 0 = [.bool false, .string { data := #[] }, .string { data := #[] }, .bool false, .string { data := #[] }, .string { data := #[] }, .bool false, .string { data := #[] }, .string { data := #[] }, .bool false, .string { data := #[] }, .string { data := #[] }] := rfl
    rw [e0] at c2 g2
    simp only [Nat.zero_mul, Nat.zero_add] at u0 u1 u2 u3 u4 u5
    have hz0 : (((0 : Nat) : Int) = 0) = True := eq_true rfl
    simp only [↓R1, R2, R3, R4, TY, reduceIte, Nat.reduceEqDiff, Nat.reduceAdd, Nat.reduceMul, Nat.reduceLT, Nat.reduceLeDiff, reduceCtorEq, decide_true, decide_false, Int.reduceLE, Int.reduceLT, Int.reduceToNat, Int.reduceAdd, Int.reduceSub, Int.reduceMul, Int.reduceEq, j2, j4, j5, j9, j10, j11, hltT, u0, u1, u2, u3, u4, u5, hac, hac1, nec, es, hflC, hfl1C, c0, c1, c2, g0, g1, g2, ne0_0, nf0_0, lt0_0, ne0_1, nf0_1, lt0_1, ne0_2, nf0_2, lt0_2, ne1_0, nf1_0, lt1_0, ne1_1, nf1_1, lt1_1, ne1_2, nf1_2, lt1_2, ne2_0, nf2_0, lt2_0, ne2_1, nf2_1, lt2_1, ne2_2, nf2_2, lt2_2, na1, na2, hfl, hfl1, hfl2, hfl3, hfl4, hfl5, hfl6, NE, NE9, Nat.add_assoc, rcmp_lt_iff, rcmp_gt_iff, rsign_gt_iff, rcmp_zero, ex9_0, ex9_1, ex9_2, w_1, w_2, w_3, w_4, n_2, n_3, n_4]
    refine call_of (pp _ _) ?_
    simp only [↓R1, R2, R3, R4, TY, reduceIte, Nat.reduceEqDiff, Nat.reduceAdd, Nat.reduceMul, Nat.reduceLT, Nat.reduceLeDiff, reduceCtorEq, decide_true, decide_false, Int.reduceLE, Int.reduceLT, Int.reduceToNat, Int.reduceAdd, Int.reduceSub, Int.reduceMul, Int.reduceEq, j2, j4, j5, j9, j10, j11, hltT, hac, hac1, nec, es, hflC, hfl1C, c0, c1, c2, g0, g1, g2, ne0_0, nf0_0, lt0_0, ne0_1, nf0_1, lt0_1, ne0_2, nf0_2, lt0_2, ne1_0, nf1_0, lt1_0, ne1_1, nf1_1, lt1_1, ne1_2, nf1_2, lt1_2, ne2_0, nf2_0, lt2_0, ne2_1, nf2_1, lt2_1, ne2_2, nf2_2, lt2_2, na1, na2, hi63, hz0, hfl, hfl1, hfl2, hfl3, hfl4, hfl5, hfl6, NE, NE9, Nat.add_assoc, rcmp_lt_iff, rcmp_gt_iff, rsign_gt_iff, rcmp_zero, ex9_0, ex9_1, ex9_2, w_1, w_2, w_3, w_4, n_2, n_3, n_4]
    refine range_on j11 hlt rfl ⟨?_, ?_, ?_, ?_, ?_, j2, j4, j5, j9, j10, rfl⟩
    · simp (maxDischargeDepth := 20) only [xt_push, xt_put, hx, hx.next, le1C, le2C, Nat.le_refl, Nat.le_add_right]
    · simp only [Hp.put_next, Hp.push_next]; omega
    · simp only [Hp.put_blk, Hp.push_blk, Hp.put_next, Hp.push_next, ne0_0, nf0_0, lt0_0, ne0_1, nf0_1, lt0_1, ne0_2, nf0_2, lt0_2, ne1_0, nf1_0, lt1_0, ne1_1, nf1_1, lt1_1, ne1_2, nf1_2, lt1_2, ne2_0, nf2_0, lt2_0, ne2_1, nf2_1, lt2_1, ne2_2, nf2_2, lt2_2, na1, na2, if_false, NE9, Nat.add_left_cancel_iff, Nat.reduceEqDiff, reduceIte]; exact c0
    · simp only [Hp.put_blk, Hp.push_blk, Hp.put_next, Hp.push_next, ne0_0, nf0_0, lt0_0, ne0_1, nf0_1, lt0_1, ne0_2, nf0_2, lt0_2, ne1_0, nf1_0, lt1_0, ne1_1, nf1_1, lt1_1, ne1_2, nf1_2, lt1_2, ne2_0, nf2_0, lt2_0, ne2_1, nf2_1, lt2_1, ne2_2, nf2_2, lt2_2, na1, na2, if_false, NE9, Nat.add_left_cancel_iff, Nat.reduceEqDiff, reduceIte]; exact c1
    · simp only [Hp.put_blk, if_true, ez, bxC_def]
  · have sB := pv_sz rp.ok hl hlt
    have sS := shB_sz rp.ok hl m (by omega)
    have m1 := fun fl A => qmin (G := G) (fl := fl) (A := A) hG sS.x0 sB.x0 (by omega)
    have m2 := fun fl A => qmin (G := G) (fl := fl) (A := A) hG sS.y0 sB.y0 (by omega)
    have m3 := fun fl A => qmax (G := G) (fl := fl) (A := A) hG sS.x1 sB.x1 (by omega)
    have m4 := fun fl A => qmax (G := G) (fl := fl) (A := A) hG sS.y1 sB.y1 (by omega)
    rw [show rmin (shB P l m).x0 (pv P l (m + 1)).x0 = (shB P l (m + 1)).x0 from rfl] at m1
    rw [show rmin (shB P l m).y0 (pv P l (m + 1)).y0 = (shB P l (m + 1)).y0 from rfl] at m2
    rw [show rmax (shB P l m).x1 (pv P l (m + 1)).x1 = (shB P l (m + 1)).x1 from rfl] at m3
    rw [show rmax (shB P l m).y1 (pv P l (m + 1)).y1 = (shB P l (m + 1)).y1 from rfl] at m4
    have e1 : acB P l (m + 1) = bxC (shB P l m) := rfl
    have e2 : acB P l (m + 1 + 1) = bxC (shB P l (m + 1)) := rfl
    rw [e1, bxC_def] at c2 g2
    generalize shB P l (m + 1) = W at *
    generalize shB P l m = V at *
    generalize pv P l (m + 1) = B at *
    simp only [bxV_def] at pp
    simp only [ratV_def] at m1 m2 m3 m4
    have hm1 : (((m + 1 : Nat) : Int) = 0) = False := eq_false (by omega)
    simp only [↓R1, R2, R3, R4, TY, reduceIte, Nat.reduceEqDiff, Nat.reduceAdd, Nat.reduceMul, Nat.reduceLT, Nat.reduceLeDiff, reduceCtorEq, decide_true, decide_false, Int.reduceLE, Int.reduceLT, Int.reduceToNat, Int.reduceAdd, Int.reduceSub, Int.reduceMul, Int.reduceEq, j2, j4, j5, j9, j10, j11, hltT, hac, hac1, nec, es, hflC, hfl1C, c0, c1, c2, g0, g1, g2, ne0_0, nf0_0, lt0_0, ne0_1, nf0_1, lt0_1, ne0_2, nf0_2, lt0_2, ne1_0, nf1_0, lt1_0, ne1_1, nf1_1, lt1_1, ne1_2, nf1_2, lt1_2, ne2_0, nf2_0, lt2_0, ne2_1, nf2_1, lt2_1, ne2_2, nf2_2, lt2_2, na1, na2, hfl, hfl1, hfl2, hfl3, hfl4, hfl5, hfl6, NE, NE9, Nat.add_assoc, rcmp_lt_iff, rcmp_gt_iff, rsign_gt_iff, rcmp_zero, ex9_0, ex9_1, ex9_2, w_1, w_2, w_3, w_4, n_2, n_3, n_4, u0, u1, u2, u3, u4, u5]
    refine call_of (pp _ _) ?_
    simp only [↓R1, R2, R3, R4, TY, reduceIte, Nat.reduceEqDiff, Nat.reduceAdd, Nat.reduceMul, Nat.reduceLT, Nat.reduceLeDiff, reduceCtorEq, decide_true, decide_false, Int.reduceLE, Int.reduceLT, Int.reduceToNat, Int.reduceAdd, Int.reduceSub, Int.reduceMul, Int.reduceEq, j2, j4, j5, j9, j10, j11, hltT, hac, hac1, nec, es, hflC, hfl1C, c0, c1, c2, g0, g1, g2, ne0_0, nf0_0, lt0_0, ne0_1, nf0_1, lt0_1, ne0_2, nf0_2, lt0_2, ne1_0, nf1_0, lt1_0, ne1_1, nf1_1, lt1_1, ne1_2, nf1_2, lt1_2, ne2_0, nf2_0, lt2_0, ne2_1, nf2_1, lt2_1, ne2_2, nf2_2, lt2_2, na1, na2, hfl, hfl1, hfl2, hfl3, hfl4, hfl5, hfl6, NE, NE9, Nat.add_assoc, rcmp_lt_iff, rcmp_gt_iff, rsign_gt_iff, rcmp_zero, ex9_0, ex9_1, ex9_2, w_1, w_2, w_3, w_4, n_2, n_3, n_4, hm1]
    refine call_of (m1 _ _) ?_
    simp only [↓R1, R2, R3, R4, TY, reduceIte, Nat.reduceEqDiff, Nat.reduceAdd, Nat.reduceMul, Nat.reduceLT, Nat.reduceLeDiff, reduceCtorEq, decide_true, decide_false, Int.reduceLE, Int.reduceLT, Int.reduceToNat, Int.reduceAdd, Int.reduceSub, Int.reduceMul, Int.reduceEq, j2, j4, j5, j9, j10, j11, hltT, hac, hac1, nec, es, hflC, hfl1C, c0, c1, c2, g0, g1, g2, ne0_0, nf0_0, lt0_0, ne0_1, nf0_1, lt0_1, ne0_2, nf0_2, lt0_2, ne1_0, nf1_0, lt1_0, ne1_1, nf1_1, lt1_1, ne1_2, nf1_2, lt1_2, ne2_0, nf2_0, lt2_0, ne2_1, nf2_1, lt2_1, ne2_2, nf2_2, lt2_2, na1, na2, hfl, hfl1, hfl2, hfl3, hfl4, hfl5, hfl6, NE, NE9, Nat.add_assoc, rcmp_lt_iff, rcmp_gt_iff, rsign_gt_iff, rcmp_zero, ex9_0, ex9_1, ex9_2, w_1, w_2, w_3, w_4, n_2, n_3, n_4]
    refine call_of (m2 _ _) ?_
    simp only [↓R1, R2, R3, R4, TY, reduceIte, Nat.reduceEqDiff, Nat.reduceAdd, Nat.reduceMul, Nat.reduceLT, Nat.reduceLeDiff, reduceCtorEq, decide_true, decide_false, Int.reduceLE, Int.reduceLT, Int.reduceToNat, Int.reduceAdd, Int.reduceSub, Int.reduceMul, Int.reduceEq, j2, j4, j5, j9, j10, j11, hltT, hac, hac1, nec, es, hflC, hfl1C, c0, c1, c2, g0, g1, g2, ne0_0, nf0_0, lt0_0, ne0_1, nf0_1, lt0_1, ne0_2, nf0_2, lt0_2, ne1_0, nf1_0, lt1_0, ne1_1, nf1_1, lt1_1, ne1_2, nf1_2, lt1_2, ne2_0, nf2_0, lt2_0, ne2_1, nf2_1, lt2_1, ne2_2, nf2_2, lt2_2, na1, na2, hfl, hfl1, hfl2, hfl3, hfl4, hfl5, hfl6, NE, NE9, Nat.add_assoc, rcmp_lt_iff, rcmp_gt_iff, rsign_gt_iff, rcmp_zero, ex9_0, ex9_1, ex9_2, w_1, w_2, w_3, w_4, n_2, n_3, n_4]
    rw [floOf_wr (by kernel_rfl)]
    simp only [↓R1, R2, R3, R4, TY, reduceIte, Nat.reduceEqDiff, Nat.reduceAdd, Nat.reduceMul, Nat.reduceLT, Nat.reduceLeDiff, reduceCtorEq, decide_true, decide_false, Int.reduceLE, Int.reduceLT, Int.reduceToNat, Int.reduceAdd, Int.reduceSub, Int.reduceMul, Int.reduceEq, j2, j4, j5, j9, j10, j11, hltT, hac, hac1, nec, es, hflC, hfl1C, c0, c1, c2, g0, g1, g2, ne0_0, nf0_0, lt0_0, ne0_1, nf0_1, lt0_1, ne0_2, nf0_2, lt0_2, ne1_0, nf1_0, lt1_0, ne1_1, nf1_1, lt1_1, ne1_2, nf1_2, lt1_2, ne2_0, nf2_0, lt2_0, ne2_1, nf2_1, lt2_1, ne2_2, nf2_2, lt2_2, na1, na2, hfl, hfl1, hfl2, hfl3, hfl4, hfl5, hfl6, NE, NE9, Nat.add_assoc, rcmp_lt_iff, rcmp_gt_iff, rsign_gt_iff, rcmp_zero, ex9_0, ex9_1, ex9_2, w_1, w_2, w_3, w_4, n_2, n_3, n_4]
    refine call_of (m3 _ _) ?_
    simp only [↓R1, R2, R3, R4, TY, reduceIte, Nat.reduceEqDiff, Nat.reduceAdd, Nat.reduceMul, Nat.reduceLT, Nat.reduceLeDiff, reduceCtorEq, decide_true, decide_false, Int.reduceLE, Int.reduceLT, Int.reduceToNat, Int.reduceAdd, Int.reduceSub, Int.reduceMul, Int.reduceEq, j2, j4, j5, j9, j10, j11, hltT, hac, hac1, nec, es, hflC, hfl1C, c0, c1, c2, g0, g1, g2, ne0_0, nf0_0, lt0_0, ne0_1, nf0_1, lt0_1, ne0_2, nf0_2, lt0_2, ne1_0, nf1_0, lt1_0, ne1_1, nf1_1, lt1_1, ne1_2, nf1_2, lt1_2, ne2_0, nf2_0, lt2_0, ne2_1, nf2_1, lt2_1, ne2_2, nf2_2, lt2_2, na1, na2, hfl, hfl1, hfl2, hfl3, hfl4, hfl5, hfl6, NE, NE9, Nat.add_assoc, rcmp_lt_iff, rcmp_gt_iff, rsign_gt_iff, rcmp_zero, ex9_0, ex9_1, ex9_2, w_1, w_2, w_3, w_4, n_2, n_3, n_4]
    refine call_of (m4 _ _) ?_
    simp only [↓R1, R2, R3, R4, TY, reduceIte, Nat.reduceEqDiff, Nat.reduceAdd, Nat.reduceMul, Nat.reduceLT, Nat.reduceLeDiff, reduceCtorEq, decide_true, decide_false, Int.reduceLE, Int.reduceLT, Int.reduceToNat, Int.reduceAdd, Int.reduceSub, Int.reduceMul, Int.reduceEq, j2, j4, j5, j9, j10, j11, hltT, hac, hac1, nec, es, hflC, hfl1C, c0, c1, c2, g0, g1, g2, ne0_0, nf0_0, lt0_0, ne0_1, nf0_1, lt0_1, ne0_2, nf0_2, lt0_2, ne1_0, nf1_0, lt1_0, ne1_1, nf1_1, lt1_1, ne1_2, nf1_2, lt1_2, ne2_0, nf2_0, lt2_0, ne2_1, nf2_1, lt2_1, ne2_2, nf2_2, lt2_2, na1, na2, hfl, hfl1, hfl2, hfl3, hfl4, hfl5, hfl6, NE, NE9, Nat.add_assoc, rcmp_lt_iff, rcmp_gt_iff, rsign_gt_iff, rcmp_zero, ex9_0, ex9_1, ex9_2, w_1, w_2, w_3, w_4, n_2, n_3, n_4]
    rw [floOf_wr (by kernel_rfl)]
    simp only [↓R1, R2, R3, R4, TY, reduceIte, Nat.reduceEqDiff, Nat.reduceAdd, Nat.reduceMul, Nat.reduceLT, Nat.reduceLeDiff, reduceCtorEq, decide_true, decide_false, Int.reduceLE, Int.reduceLT, Int.reduceToNat, Int.reduceAdd, Int.reduceSub, Int.reduceMul, Int.reduceEq, j2, j4, j5, j9, j10, j11, hltT, hac, hac1, nec, es, hflC, hfl1C, c0, c1, c2, g0, g1, g2, ne0_0, nf0_0, lt0_0, ne0_1, nf0_1, lt0_1, ne0_2, nf0_2, lt0_2, ne1_0, nf1_0, lt1_0, ne1_1, nf1_1, lt1_1, ne1_2, nf1_2, lt1_2, ne2_0, nf2_0, lt2_0, ne2_1, nf2_1, lt2_1, ne2_2, nf2_2, lt2_2, na1, na2, hfl, hfl1, hfl2, hfl3, hfl4, hfl5, hfl6, NE, NE9, Nat.add_assoc, rcmp_lt_iff, rcmp_gt_iff, rsign_gt_iff, rcmp_zero, ex9_0, ex9_1, ex9_2, w_1, w_2, w_3, w_4, n_2, n_3, n_4, hi63]
    refine range_on j11 hlt rfl ⟨?_, ?_, ?_, ?_, ?_, j2, j4, j5, j9, j10, rfl⟩
    · simp (maxDischargeDepth := 20) only [xt_push, xt_put, hx, hx.next, le1C, le2C, Nat.le_refl, Nat.le_add_right]
    · simp only [Hp.put_next, Hp.push_next]; omega
    · simp only [Hp.put_blk, Hp.push_blk, Hp.put_next, Hp.push_next, ne0_0, nf0_0, lt0_0, ne0_1, nf0_1, lt0_1, ne0_2, nf0_2, lt0_2, ne1_0, nf1_0, lt1_0, ne1_1, nf1_1, lt1_1, ne1_2, nf1_2, lt1_2, ne2_0, nf2_0, lt2_0, ne2_1, nf2_1, lt2_1, ne2_2, nf2_2, lt2_2, na1, na2, if_false, NE9, Nat.add_left_cancel_iff, Nat.reduceEqDiff, reduceIte]; exact c0
    · simp only [Hp.put_blk, Hp.push_blk, Hp.put_next, Hp.push_next, ne0_0, nf0_0, lt0_0, ne0_1, nf0_1, lt0_1, ne0_2, nf0_2, lt0_2, ne1_0, nf1_0, lt1_0, ne1_1, nf1_1, lt1_1, ne1_2, nf1_2, lt1_2, ne2_0, nf2_0, lt2_0, ne2_1, nf2_1, lt2_1, ne2_2, nf2_2, lt2_2, na1, na2, if_false, NE9, Nat.add_left_cancel_iff, Nat.reduceEqDiff, reduceIte]; exact c1
    · simp only [Hp.put_blk, if_true, e2, bxC_def]

end
end Go.Proofs.YtjkimjmocfjjnaaDoor.Ab
