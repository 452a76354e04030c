/- Poses, as the program and the reference tell them. -/
import Derived.Test.YtjkimjmocfjjnaaDoorGb
namespace Go.Proofs.YtjkimjmocfjjnaaDoor.Ab
open Go.RowKit
set_option linter.unusedVariables false
set_option linter.unusedSimpArgs false
set_option maxRecDepth 100000

/-- A pose: the ends of its three spans. -/
structure Po where
  (a b c d e f : Rat)
def poV (P : Po) : Value := .agg #[.bool (decide ((P.a).num < 0)), .string (S (nb (P.a).num.natAbs)), .string (S (nb (P.a).den)), .bool (decide ((P.b).num < 0)), .string (S (nb (P.b).num.natAbs)), .string (S (nb (P.b).den)), .bool (decide ((P.c).num < 0)), .string (S (nb (P.c).num.natAbs)), .string (S (nb (P.c).den)), .bool (decide ((P.d).num < 0)), .string (S (nb (P.d).num.natAbs)), .string (S (nb (P.d).den)), .bool (decide ((P.e).num < 0)), .string (S (nb (P.e).num.natAbs)), .string (S (nb (P.e).den)), .bool (decide ((P.f).num < 0)), .string (S (nb (P.f).num.natAbs)), .string (S (nb (P.f).den))]
theorem poV_def (P : Po) : poV P = .agg #[.bool (decide ((P.a).num < 0)), .string (S (nb (P.a).num.natAbs)), .string (S (nb (P.a).den)), .bool (decide ((P.b).num < 0)), .string (S (nb (P.b).num.natAbs)), .string (S (nb (P.b).den)), .bool (decide ((P.c).num < 0)), .string (S (nb (P.c).num.natAbs)), .string (S (nb (P.c).den)), .bool (decide ((P.d).num < 0)), .string (S (nb (P.d).num.natAbs)), .string (S (nb (P.d).den)), .bool (decide ((P.e).num < 0)), .string (S (nb (P.e).num.natAbs)), .string (S (nb (P.e).den)), .bool (decide ((P.f).num < 0)), .string (S (nb (P.f).num.natAbs)), .string (S (nb (P.f).den))] := rfl
def po0 : Value := .agg #[.bool false, .string { data := #[] }, .string { data := #[] }, .bool false, .string { data := #[] }, .string { data := #[] }, .bool false, .string { data := #[] }, .string { data := #[] }, .bool false, .string { data := #[] }, .string { data := #[] }, .bool false, .string { data := #[] }, .string { data := #[] }, .bool false, .string { data := #[] }, .string { data := #[] }]
theorem poV_rb (n : Nat) (P : Po) : RB n (poV P) := RB.agg fun v hv => by
  simp only [List.mem_cons, List.not_mem_nil, or_false] at hv
  rcases hv with rfl | rfl | rfl | rfl | rfl | rfl | rfl | rfl | rfl | rfl | rfl | rfl | rfl | rfl | rfl | rfl | rfl | rfl <;> exact RB.zc rfl
def Po.ok (P : Po) (k : Nat) : Prop := Sp P.a P.b k ∧ Sp P.c P.d k ∧ Sp P.e P.f k
theorem Po.ok.mono {P : Po} {j k : Nat} (h : P.ok j) (hk : j ≤ k) : P.ok k := ⟨⟨h.1.low.mono hk, h.1.high.mono hk, h.1.le⟩, ⟨h.2.1.low.mono hk, h.2.1.high.mono hk, h.2.1.le⟩, ⟨h.2.2.low.mono hk, h.2.2.high.mono hk, h.2.2.le⟩⟩
def inPo (P : Po) (hf : Bool) (g h i : Rat) : Bool := !hf && (decide (P.a ≤ g ∧ g ≤ P.b) && (decide (P.c ≤ h ∧ h ≤ P.d) && decide (P.e ≤ i ∧ i ≤ P.f)))
def wideP (P : Po) (u v : Rat) : Po := ⟨P.a - rmax u 0, P.b + rmax u 0, P.c - rmax u 0, P.d + rmax u 0, P.e - rmax v 0, P.f + rmax v 0⟩
def sameP (P Q : Po) : Bool := decide (P.a = Q.a ∧ P.b = Q.b ∧ P.c = Q.c ∧ P.d = Q.d ∧ P.e = Q.e ∧ P.f = Q.f)
def meetP (P Q : Po) : Po := ⟨rmax P.a Q.a, rmin P.b Q.b, rmax P.c Q.c, rmin P.d Q.d, rmax P.e Q.e, rmin P.f Q.f⟩
def neP (M : Po) : Prop := M.a ≤ M.b ∧ M.c ≤ M.d ∧ M.e ≤ M.f
def insP (P Q : Po) : Bool := decide (Q.a ≤ P.a ∧ P.b ≤ Q.b) && (decide (Q.c ≤ P.c ∧ P.d ≤ Q.d) && decide (Q.e ≤ P.e ∧ P.f ≤ Q.f))
def ptP (g h i : Rat) : Po := ⟨g, g, h, h, i, i⟩
def frC (g h i : Rat) : Value := .agg #[.bool (decide ((g).num < 0)), .string (S (nb (g).num.natAbs)), .string (S (nb (g).den)), .bool (decide ((h).num < 0)), .string (S (nb (h).num.natAbs)), .string (S (nb (h).den)), .bool false, .bool (decide ((i).num < 0)), .string (S (nb (i).num.natAbs)), .string (S (nb (i).den))]
structure RawP (G : Gl) (p0 : Bool) (p1 p2 : List UInt8) (q0 : Bool) (q1 q2 : List UInt8) (r0 : Bool) (r1 r2 : List UInt8) (s0 : Bool) (s1 s2 : List UInt8) (t0 : Bool) (t1 t2 : List UInt8) (u0 : Bool) (u1 u2 : List UInt8) (P : Po) (k : Nat) : Prop where
  x : RawS G p0 p1 p2 q0 q1 q2 P.a P.b k
  y : RawS G r0 r1 r2 s0 s1 s2 P.c P.d k
  t : RawS G t0 t1 t2 u0 u1 u2 P.e P.f k
theorem RawP.ok {P : Po} {k : Nat} {G : Gl} {p0 : Bool} {p1 p2 : List UInt8} {q0 : Bool} {q1 q2 : List UInt8} {r0 : Bool} {r1 r2 : List UInt8} {s0 : Bool} {s1 s2 : List UInt8} {t0 : Bool} {t1 t2 : List UInt8} {u0 : Bool} {u1 u2 : List UInt8} (h : RawP G p0 p1 p2 q0 q1 q2 r0 r1 r2 s0 s1 s2 t0 t1 t2 u0 u1 u2 P k) : P.ok k := ⟨h.x.sp, h.y.sp, h.t.sp⟩

section
variable {G : Gl} {fl : Nat} {A : Hp}

theorem rawp_good {P : Po} {k : Nat} (hG : G 1 = some tabV) (h : P.ok k) (hk : 2 * k ≤ 10000000000) : RawP G (decide (P.a.num < 0)) (nb P.a.num.natAbs) (nb P.a.den) (decide (P.b.num < 0)) (nb P.b.num.natAbs) (nb P.b.den) (decide (P.c.num < 0)) (nb P.c.num.natAbs) (nb P.c.den) (decide (P.d.num < 0)) (nb P.d.num.natAbs) (nb P.d.den) (decide (P.e.num < 0)) (nb P.e.num.natAbs) (nb P.e.den) (decide (P.f.num < 0)) (nb P.f.num.natAbs) (nb P.f.den) P k := ⟨raws_good hG h.1 hk, raws_good hG h.2.1 hk, raws_good hG h.2.2 hk⟩
theorem ptP_ok {g h i : Rat} {k : Nat} (hg : Rz g k) (hh : Rz h k) (hi : Rz i k) : (ptP g h i).ok k := ⟨⟨hg, hg, Rat.le_refl⟩, ⟨hh, hh, Rat.le_refl⟩, ⟨hi, hi, Rat.le_refl⟩⟩

set_option maxHeartbeats 2000000 in
theorem wPoseOf {p0 : Bool} {p1 p2 : List UInt8} {q0 : Bool} {q1 q2 : List UInt8} {r0 : Bool} {r1 r2 : List UInt8} {s0 : Bool} {s1 s2 : List UInt8} {t0 : Bool} {t1 t2 : List UInt8} {u0 : Bool} {u1 u2 : List UInt8} {P : Po} {k : Nat} (hG : G 1 = some tabV) (rp : RawP G p0 p1 p2 q0 q1 q2 r0 r1 r2 s0 s1 s2 t0 t1 t2 u0 u1 u2 P k) : Sound Tryd.prog G 7 [.agg #[.bool p0, .string (S p1), .string (S p2), .bool q0, .string (S q1), .string (S q2), .bool r0, .string (S r1), .string (S r2), .bool s0, .string (S s1), .string (S s2), .bool t0, .string (S t1), .string (S t2), .bool u0, .string (S u1), .string (S u2)]] fl A (poV P) A := by
  refine Sound.of mixed Tryd.func7 Tryd.ntmps7 Tryd.results7 (by kernel_rfl) rfl (by kernel_rfl) (by kernel_rfl) fun hA => ?_
  have hfl : fl ≤ A.next := by have := hA.floor; omega
  have hfl1 : fl ≤ A.next + 1 := by have := hA.floor; omega
  have hfl2 : fl ≤ A.next + 2 := by have := hA.floor; omega
  have hfl3 : fl ≤ A.next + 3 := by have := hA.floor; omega
  have hfl4 : fl ≤ A.next + 4 := by have := hA.floor; omega
  have hfl5 : fl ≤ A.next + 5 := by have := hA.floor; omega
  have hfl6 : fl ≤ A.next + 6 := by have := hA.floor; omega
  have e1 := rp.x.ends
  have e2 := rp.y.ends
  have e3 := rp.t.ends
  have hrb := poV_rb A.next P
  simp only [poV_def, prV_def, ratV_def] at e1 e2 e3 hrb ⊢
  simp only [↓R1, R2, R3, R4, TY, reduceIte, Nat.reduceEqDiff, Nat.reduceAdd, Nat.reduceMul, Nat.reduceLT, Nat.reduceLeDiff, reduceCtorEq, decide_true, decide_false, Int.reduceLE, Int.reduceLT, Int.reduceToNat, Int.reduceAdd, Int.reduceSub, Int.reduceMul, Int.reduceEq, hfl, hfl1, hfl2, hfl3, hfl4, hfl5, hfl6, NE, NE9, Nat.add_assoc]
  refine call_of (e1 _ _) ?_
  simp only [↓R1, R2, R3, R4, TY, reduceIte, Nat.reduceEqDiff, Nat.reduceAdd, Nat.reduceMul, Nat.reduceLT, Nat.reduceLeDiff, reduceCtorEq, decide_true, decide_false, Int.reduceLE, Int.reduceLT, Int.reduceToNat, Int.reduceAdd, Int.reduceSub, Int.reduceMul, Int.reduceEq, hfl, hfl1, hfl2, hfl3, hfl4, hfl5, hfl6, NE, NE9, Nat.add_assoc]
  refine call_of (e2 _ _) ?_
  simp only [↓R1, R2, R3, R4, TY, reduceIte, Nat.reduceEqDiff, Nat.reduceAdd, Nat.reduceMul, Nat.reduceLT, Nat.reduceLeDiff, reduceCtorEq, decide_true, decide_false, Int.reduceLE, Int.reduceLT, Int.reduceToNat, Int.reduceAdd, Int.reduceSub, Int.reduceMul, Int.reduceEq, hfl, hfl1, hfl2, hfl3, hfl4, hfl5, hfl6, NE, NE9, Nat.add_assoc]
  refine call_of (e3 _ _) ?_
  simp only [↓R1, R2, R3, R4, TY, reduceIte, Nat.reduceEqDiff, Nat.reduceAdd, Nat.reduceMul, Nat.reduceLT, Nat.reduceLeDiff, reduceCtorEq, decide_true, decide_false, Int.reduceLE, Int.reduceLT, Int.reduceToNat, Int.reduceAdd, Int.reduceSub, Int.reduceMul, Int.reduceEq, hfl, hfl1, hfl2, hfl3, hfl4, hfl5, hfl6, NE, NE9, Nat.add_assoc]
  rw [floOf_wr (by kernel_rfl)]
  simp only [↓R1, R2, R3, R4, TY, reduceIte, Nat.reduceEqDiff, Nat.reduceAdd, Nat.reduceMul, Nat.reduceLT, Nat.reduceLeDiff, reduceCtorEq, decide_true, decide_false, Int.reduceLE, Int.reduceLT, Int.reduceToNat, Int.reduceAdd, Int.reduceSub, Int.reduceMul, Int.reduceEq, hfl, hfl1, hfl2, hfl3, hfl4, hfl5, hfl6, NE, NE9, Nat.add_assoc]
  refine Ended.back hA ?_ rfl hrb
  simp (maxDischargeDepth := 20) only [xt_push, xt_put, xt_refl, Nat.le_refl, Nat.le_add_right, Nat.add_assoc, Nat.reduceAdd]

set_option maxHeartbeats 2000000 in
theorem wHas {p0 : Bool} {p1 p2 : List UInt8} {q0 : Bool} {q1 q2 : List UInt8} {r0 : Bool} {r1 r2 : List UInt8} {s0 : Bool} {s1 s2 : List UInt8} {t0 : Bool} {t1 t2 : List UInt8} {u0 : Bool} {u1 u2 : List UInt8} {P : Po} {k : Nat} {g0 : Bool} {g1 g2 : List UInt8} {h0 : Bool} {h1 h2 : List UInt8} {i0 : Bool} {i1 i2 : List UInt8} {hf okg okh oki : Bool} {g h i : Rat} (hG : G 1 = some tabV) (rp : RawP G p0 p1 p2 q0 q1 q2 r0 r1 r2 s0 s1 s2 t0 t1 t2 u0 u1 u2 P k) (rg : Raw G g0 g1 g2 okg g k) (rh : Raw G h0 h1 h2 okh h k) (ri : Raw G i0 i1 i2 oki i k) (hk : 2 * k ≤ 10000000000) : Sound Tryd.prog G 9 [.agg #[.bool p0, .string (S p1), .string (S p2), .bool q0, .string (S q1), .string (S q2), .bool r0, .string (S r1), .string (S r2), .bool s0, .string (S s1), .string (S s2), .bool t0, .string (S t1), .string (S t2), .bool u0, .string (S u1), .string (S u2)], .agg #[.bool g0, .string (S g1), .string (S g2), .bool h0, .string (S h1), .string (S h2), .bool hf, .bool i0, .string (S i1), .string (S i2)]] fl A (.bool (inPo P hf g h i)) A := by
  refine Sound.of mixed Tryd.func9 Tryd.ntmps9 Tryd.results9 (by kernel_rfl) rfl (by kernel_rfl) (by kernel_rfl) fun hA => ?_
  have hfl : fl ≤ A.next := by have := hA.floor; omega
  have hfl1 : fl ≤ A.next + 1 := by have := hA.floor; omega
  have hfl2 : fl ≤ A.next + 2 := by have := hA.floor; omega
  have hfl3 : fl ≤ A.next + 3 := by have := hA.floor; omega
  have hfl4 : fl ≤ A.next + 4 := by have := hA.floor; omega
  have hfl5 : fl ≤ A.next + 5 := by have := hA.floor; omega
  have hfl6 : fl ≤ A.next + 6 := by have := hA.floor; omega
  have e1 := fun fl A => whas (G := G) (fl := fl) (A := A) hG rp.x rg (by omega)
  have e2 := fun fl A => whas (G := G) (fl := fl) (A := A) hG rp.y rh (by omega)
  have e3 := fun fl A => whas (G := G) (fl := fl) (A := A) hG rp.t ri (by omega)
  unfold inPo
  generalize decide (P.a ≤ g ∧ g ≤ P.b) = b1 at e1 ⊢
  generalize decide (P.c ≤ h ∧ h ≤ P.d) = b2 at e2 ⊢
  generalize decide (P.e ≤ i ∧ i ≤ P.f) = b3 at e3 ⊢
  cases hf with
  | true =>
    simp only [↓R1, R2, R3, R4, TY, reduceIte, Nat.reduceEqDiff, Nat.reduceAdd, Nat.reduceMul, Nat.reduceLT, Nat.reduceLeDiff, reduceCtorEq, decide_true, decide_false, Int.reduceLE, Int.reduceLT, Int.reduceToNat, Int.reduceAdd, Int.reduceSub, Int.reduceMul, Int.reduceEq, hfl, hfl1, hfl2, hfl3, hfl4, hfl5, hfl6, NE, NE9, Nat.add_assoc]
    exact Ended.back hA (by simp (maxDischargeDepth := 20) only [xt_push, xt_put, xt_refl, Nat.le_refl, Nat.le_add_right, Nat.add_assoc, Nat.reduceAdd]) rfl (RB.bool _)
  | false =>
    cases b1 with
    | false =>
      simp only [↓R1, R2, R3, R4, TY, reduceIte, Nat.reduceEqDiff, Nat.reduceAdd, Nat.reduceMul, Nat.reduceLT, Nat.reduceLeDiff, reduceCtorEq, decide_true, decide_false, Int.reduceLE, Int.reduceLT, Int.reduceToNat, Int.reduceAdd, Int.reduceSub, Int.reduceMul, Int.reduceEq, hfl, hfl1, hfl2, hfl3, hfl4, hfl5, hfl6, NE, NE9, Nat.add_assoc]
      refine call_of (e1 _ _) ?_
      simp only [↓R1, R2, R3, R4, TY, reduceIte, Nat.reduceEqDiff, Nat.reduceAdd, Nat.reduceMul, Nat.reduceLT, Nat.reduceLeDiff, reduceCtorEq, decide_true, decide_false, Int.reduceLE, Int.reduceLT, Int.reduceToNat, Int.reduceAdd, Int.reduceSub, Int.reduceMul, Int.reduceEq, hfl, hfl1, hfl2, hfl3, hfl4, hfl5, hfl6, NE, NE9, Nat.add_assoc]
      exact Ended.back hA (by simp (maxDischargeDepth := 20) only [xt_push, xt_put, xt_refl, Nat.le_refl, Nat.le_add_right, Nat.add_assoc, Nat.reduceAdd]) rfl (RB.bool _)
    | true =>
      cases b2 with
      | false =>
        simp only [↓R1, R2, R3, R4, TY, reduceIte, Nat.reduceEqDiff, Nat.reduceAdd, Nat.reduceMul, Nat.reduceLT, Nat.reduceLeDiff, reduceCtorEq, decide_true, decide_false, Int.reduceLE, Int.reduceLT, Int.reduceToNat, Int.reduceAdd, Int.reduceSub, Int.reduceMul, Int.reduceEq, hfl, hfl1, hfl2, hfl3, hfl4, hfl5, hfl6, NE, NE9, Nat.add_assoc]
        refine call_of (e1 _ _) ?_
        simp only [↓R1, R2, R3, R4, TY, reduceIte, Nat.reduceEqDiff, Nat.reduceAdd, Nat.reduceMul, Nat.reduceLT, Nat.reduceLeDiff, reduceCtorEq, decide_true, decide_false, Int.reduceLE, Int.reduceLT, Int.reduceToNat, Int.reduceAdd, Int.reduceSub, Int.reduceMul, Int.reduceEq, hfl, hfl1, hfl2, hfl3, hfl4, hfl5, hfl6, NE, NE9, Nat.add_assoc]
        refine call_of (e2 _ _) ?_
        simp only [↓R1, R2, R3, R4, TY, reduceIte, Nat.reduceEqDiff, Nat.reduceAdd, Nat.reduceMul, Nat.reduceLT, Nat.reduceLeDiff, reduceCtorEq, decide_true, decide_false, Int.reduceLE, Int.reduceLT, Int.reduceToNat, Int.reduceAdd, Int.reduceSub, Int.reduceMul, Int.reduceEq, hfl, hfl1, hfl2, hfl3, hfl4, hfl5, hfl6, NE, NE9, Nat.add_assoc]
        exact Ended.back hA (by simp (maxDischargeDepth := 20) only [xt_push, xt_put, xt_refl, Nat.le_refl, Nat.le_add_right, Nat.add_assoc, Nat.reduceAdd]) rfl (RB.bool _)
      | true =>
        simp only [↓R1, R2, R3, R4, TY, reduceIte, Nat.reduceEqDiff, Nat.reduceAdd, Nat.reduceMul, Nat.reduceLT, Nat.reduceLeDiff, reduceCtorEq, decide_true, decide_false, Int.reduceLE, Int.reduceLT, Int.reduceToNat, Int.reduceAdd, Int.reduceSub, Int.reduceMul, Int.reduceEq, hfl, hfl1, hfl2, hfl3, hfl4, hfl5, hfl6, NE, NE9, Nat.add_assoc]
        refine call_of (e1 _ _) ?_
        simp only [↓R1, R2, R3, R4, TY, reduceIte, Nat.reduceEqDiff, Nat.reduceAdd, Nat.reduceMul, Nat.reduceLT, Nat.reduceLeDiff, reduceCtorEq, decide_true, decide_false, Int.reduceLE, Int.reduceLT, Int.reduceToNat, Int.reduceAdd, Int.reduceSub, Int.reduceMul, Int.reduceEq, hfl, hfl1, hfl2, hfl3, hfl4, hfl5, hfl6, NE, NE9, Nat.add_assoc]
        refine call_of (e2 _ _) ?_
        simp only [↓R1, R2, R3, R4, TY, reduceIte, Nat.reduceEqDiff, Nat.reduceAdd, Nat.reduceMul, Nat.reduceLT, Nat.reduceLeDiff, reduceCtorEq, decide_true, decide_false, Int.reduceLE, Int.reduceLT, Int.reduceToNat, Int.reduceAdd, Int.reduceSub, Int.reduceMul, Int.reduceEq, hfl, hfl1, hfl2, hfl3, hfl4, hfl5, hfl6, NE, NE9, Nat.add_assoc]
        refine call_of (e3 _ _) ?_
        simp only [↓R1, R2, R3, R4, TY, reduceIte, Nat.reduceEqDiff, Nat.reduceAdd, Nat.reduceMul, Nat.reduceLT, Nat.reduceLeDiff, reduceCtorEq, decide_true, decide_false, Int.reduceLE, Int.reduceLT, Int.reduceToNat, Int.reduceAdd, Int.reduceSub, Int.reduceMul, Int.reduceEq, hfl, hfl1, hfl2, hfl3, hfl4, hfl5, hfl6, NE, NE9, Nat.add_assoc]
        exact Ended.back hA (by simp (maxDischargeDepth := 20) only [xt_push, xt_put, xt_refl, Nat.le_refl, Nat.le_add_right, Nat.add_assoc, Nat.reduceAdd]) rfl (RB.bool _)

end
end Go.Proofs.YtjkimjmocfjjnaaDoor.Ab
