/- SeeSays runs, and returns true. -/
import Derived.Test.YtjkimjmocfjjnaaDoorGj
namespace Go.Proofs.YtjkimjmocfjjnaaDoor.Ab
open Go.RowKit
set_option linter.unusedVariables false
set_option linter.unusedSimpArgs false
set_option maxRecDepth 100000

section
variable {G : Gl} {fl : Nat} {A : Hp}

set_option maxHeartbeats 16000000 in
theorem seeSays_calls {p0 : Bool} {p1 p2 : List UInt8} {q0 : Bool} {q1 q2 : List UInt8} {r0 : Bool} {r1 r2 : List UInt8} {s0 : Bool} {s1 s2 : List UInt8} {t0 : Bool} {t1 t2 : List UInt8} {u0 : Bool} {u1 u2 : List UInt8} {P : Po} {k : Nat} {v0 : Bool} {v1 v2 : List UInt8} {w0 : Bool} {w1 w2 : List UInt8} {x0 : Bool} {x1 x2 : List UInt8} {y0 : Bool} {y1 y2 : List UInt8} {z0 : Bool} {z1 z2 : List UInt8} {o0 : Bool} {o1 o2 : List UInt8} {Q : Po} {g0 : Bool} {g1 g2 : List UInt8} {h0 : Bool} {h1 h2 : List UInt8} {i0 : Bool} {i1 i2 : List UInt8} {okg okh oki : Bool} {g h i : Rat} {hf : Bool} {a0 : Bool} {a1 a2 : List UInt8} {b0 : Bool} {b1 b2 : List UInt8} {oka okb : Bool} {bu bv : Rat} (hG : G 1 = some tabV) (rp : RawP G p0 p1 p2 q0 q1 q2 r0 r1 r2 s0 s1 s2 t0 t1 t2 u0 u1 u2 P k) (rq : RawP G v0 v1 v2 w0 w1 w2 x0 x1 x2 y0 y1 y2 z0 z1 z2 o0 o1 o2 Q k) (rg : Raw G g0 g1 g2 okg g k) (rh : Raw G h0 h1 h2 okh h k) (ri : Raw G i0 i1 i2 oki i k) (ra : Raw G a0 a1 a2 oka bu k) (rb : Raw G b0 b1 b2 okb bv k) (hk : 100 * k + 100 ≤ 5000000000) :
    ∀ (μ : Mu) (w : World) (args' : Array Value), HR G μ fl A w → fl ≤ A.next → VRa μ A [.agg #[.bool p0, .string (S p1), .string (S p2), .bool q0, .string (S q1), .string (S q2), .bool r0, .string (S r1), .string (S r2), .bool s0, .string (S s1), .string (S s2), .bool t0, .string (S t1), .string (S t2), .bool u0, .string (S u1), .string (S u2)], .agg #[.bool v0, .string (S v1), .string (S v2), .bool w0, .string (S w1), .string (S w2), .bool x0, .string (S x1), .string (S x2), .bool y0, .string (S y1), .string (S y2), .bool z0, .string (S z1), .string (S z2), .bool o0, .string (S o1), .string (S o2)], .agg #[.bool g0, .string (S g1), .string (S g2), .bool h0, .string (S h1), .string (S h2), .bool hf, .bool i0, .string (S i1), .string (S i2)], .agg #[.bool a0, .string (S a1), .string (S a2)], .agg #[.bool b0, .string (S b1), .string (S b2)]].toArray args' →
    Calls Tryd.prog 3 args' w fun e w' => ∃ u, e = .returned u ∧ ∃ ν, VR ν A (.bool true) u ∧ HR G ν fl A w' ∧ Trans fl μ A w ν A w' := by
  refine calls_of mixed Tryd.func3 Tryd.ntmps3 Tryd.results3 (by kernel_rfl) rfl (by kernel_rfl) (by simp) fun hA => ?_
  have hfl : fl ≤ A.next := by have := hA.floor; omega
  have hfl1 : fl ≤ A.next + 1 := by have := hA.floor; omega
  have hfl2 : fl ≤ A.next + 2 := by have := hA.floor; omega
  have hfl3 : fl ≤ A.next + 3 := by have := hA.floor; omega
  have hfl4 : fl ≤ A.next + 4 := by have := hA.floor; omega
  have hfl5 : fl ≤ A.next + 5 := by have := hA.floor; omega
  have hfl6 : fl ≤ A.next + 6 := by have := hA.floor; omega
  have c1 := fun fl A => wPoseOf (G := G) (fl := fl) (A := A) hG rp
  have c2 := fun fl A => wPoseOf (G := G) (fl := fl) (A := A) hG rq
  have se := fun fl A => wseen (G := G) (fl := fl) (A := A) hG
  have ha := fun fl A => wHas (G := G) (fl := fl) (A := A) (hf := hf) hG rp rg rh ri (by omega)
  have ip := fun fl A => wInPose (G := G) (fl := fl) (A := A) (hf := hf) hG rp.ok rg rh ri (by omega)
  have wi := fun fl A => wWiden (G := G) (fl := fl) (A := A) hG rp ra rb (by omega)
  have wo := fun fl A => wWideOf (G := G) (fl := fl) (A := A) hG rp.ok ra rb (by omega)
  have okw := wideP_ok rp.ok ra.sz rb.sz
  have sw := fun fl A => wsame (G := G) (fl := fl) (A := A) hG okw okw (by omega)
  rw [sameP_self] at sw
  generalize inPo P hf g h i = bh at ha ip
  simp only [poV_def] at c1 c2 ip wi wo sw
  simp only [↓R1, R2, R3, R4, TY, reduceIte, Nat.reduceEqDiff, Nat.reduceAdd, Nat.reduceMul, Nat.reduceLT, Nat.reduceLeDiff, reduceCtorEq, decide_true, decide_false, Int.reduceLE, Int.reduceLT, Int.reduceToNat, Int.reduceAdd, Int.reduceSub, Int.reduceMul, Int.reduceEq, hfl, hfl1, hfl2, hfl3, hfl4, hfl5, hfl6, NE, NE9, Nat.add_assoc, rcmp_lt_iff, rcmp_gt_iff, rsign_gt_iff, rcmp_zero, ex9_0, ex9_1, ex9_2, w_1, w_2, w_3, w_4, n_2, n_3, n_4]
  refine call_of (c1 _ _) ?_
  simp only [↓R1, R2, R3, R4, TY, reduceIte, Nat.reduceEqDiff, Nat.reduceAdd, Nat.reduceMul, Nat.reduceLT, Nat.reduceLeDiff, reduceCtorEq, decide_true, decide_false, Int.reduceLE, Int.reduceLT, Int.reduceToNat, Int.reduceAdd, Int.reduceSub, Int.reduceMul, Int.reduceEq, hfl, hfl1, hfl2, hfl3, hfl4, hfl5, hfl6, NE, NE9, Nat.add_assoc, rcmp_lt_iff, rcmp_gt_iff, rsign_gt_iff, rcmp_zero, ex9_0, ex9_1, ex9_2, w_1, w_2, w_3, w_4, n_2, n_3, n_4]
  refine call_of (c2 _ _) ?_
  simp only [↓R1, R2, R3, R4, TY, reduceIte, Nat.reduceEqDiff, Nat.reduceAdd, Nat.reduceMul, Nat.reduceLT, Nat.reduceLeDiff, reduceCtorEq, decide_true, decide_false, Int.reduceLE, Int.reduceLT, Int.reduceToNat, Int.reduceAdd, Int.reduceSub, Int.reduceMul, Int.reduceEq, hfl, hfl1, hfl2, hfl3, hfl4, hfl5, hfl6, NE, NE9, Nat.add_assoc, rcmp_lt_iff, rcmp_gt_iff, rsign_gt_iff, rcmp_zero, ex9_0, ex9_1, ex9_2, w_1, w_2, w_3, w_4, n_2, n_3, n_4]
  rw [floOf_wr (by kernel_rfl)]
  simp only [↓R1, R2, R3, R4, TY, reduceIte, Nat.reduceEqDiff, Nat.reduceAdd, Nat.reduceMul, Nat.reduceLT, Nat.reduceLeDiff, reduceCtorEq, decide_true, decide_false, Int.reduceLE, Int.reduceLT, Int.reduceToNat, Int.reduceAdd, Int.reduceSub, Int.reduceMul, Int.reduceEq, hfl, hfl1, hfl2, hfl3, hfl4, hfl5, hfl6, NE, NE9, Nat.add_assoc, rcmp_lt_iff, rcmp_gt_iff, rsign_gt_iff, rcmp_zero, ex9_0, ex9_1, ex9_2, w_1, w_2, w_3, w_4, n_2, n_3, n_4]
  rw [floOf_wr (by kernel_rfl)]
  simp only [↓R1, R2, R3, R4, TY, reduceIte, Nat.reduceEqDiff, Nat.reduceAdd, Nat.reduceMul, Nat.reduceLT, Nat.reduceLeDiff, reduceCtorEq, decide_true, decide_false, Int.reduceLE, Int.reduceLT, Int.reduceToNat, Int.reduceAdd, Int.reduceSub, Int.reduceMul, Int.reduceEq, hfl, hfl1, hfl2, hfl3, hfl4, hfl5, hfl6, NE, NE9, Nat.add_assoc, rcmp_lt_iff, rcmp_gt_iff, rsign_gt_iff, rcmp_zero, ex9_0, ex9_1, ex9_2, w_1, w_2, w_3, w_4, n_2, n_3, n_4]
  generalize hB : Hp.put _ (A.next + 6) _ = B
  have kn : B.next = A.next + 7 := by rw [← hB]; simp
  have kx : Xt A.next A B := by
    rw [← hB]
    simp (maxDischargeDepth := 20) only [xt_push, xt_put, xt_refl, Nat.le_refl, Nat.le_add_right, Nat.add_assoc, Nat.reduceAdd]
  have k0 : B.blk A.next = some (.row [.bool p0, .string (S p1), .string (S p2), .bool q0, .string (S q1), .string (S q2), .bool r0, .string (S r1), .string (S r2), .bool s0, .string (S s1), .string (S s2), .bool t0, .string (S t1), .string (S t2), .bool u0, .string (S u1), .string (S u2)] 0 18) := by rw [← hB]; simp [Hp.put_blk, Hp.push_blk, Nat.add_assoc]
  have k1 : B.blk (A.next + 1) = some (.row [.bool v0, .string (S v1), .string (S v2), .bool w0, .string (S w1), .string (S w2), .bool x0, .string (S x1), .string (S x2), .bool y0, .string (S y1), .string (S y2), .bool z0, .string (S z1), .string (S z2), .bool o0, .string (S o1), .string (S o2)] 0 18) := by rw [← hB]; simp [Hp.put_blk, Hp.push_blk, Nat.add_assoc]
  have k2 : B.blk (A.next + 2) = some (.row [.bool g0, .string (S g1), .string (S g2), .bool h0, .string (S h1), .string (S h2), .bool hf, .bool i0, .string (S i1), .string (S i2)] 0 10) := by rw [← hB]; simp [Hp.put_blk, Hp.push_blk, Nat.add_assoc]
  have k3 : B.blk (A.next + 3) = some (.row [.bool a0, .string (S a1), .string (S a2)] 0 3) := by rw [← hB]; simp [Hp.put_blk, Hp.push_blk, Nat.add_assoc]
  have k4 : B.blk (A.next + 4) = some (.row [.bool b0, .string (S b1), .string (S b2)] 0 3) := by rw [← hB]; simp [Hp.put_blk, Hp.push_blk, Nat.add_assoc]
  have k5 : B.blk (A.next + 5) = some (.row [.bool (decide ((P.a).num < 0)), .string (S (nb (P.a).num.natAbs)), .string (S (nb (P.a).den)), .bool (decide ((P.b).num < 0)), .string (S (nb (P.b).num.natAbs)), .string (S (nb (P.b).den)), .bool (decide ((P.c).num < 0)), .string (S (nb (P.c).num.natAbs)), .string (S (nb (P.c).den)), .bool (decide ((P.d).num < 0)), .string (S (nb (P.d).num.natAbs)), .string (S (nb (P.d).den)), .bool (decide ((P.e).num < 0)), .string (S (nb (P.e).num.natAbs)), .string (S (nb (P.e).den)), .bool (decide ((P.f).num < 0)), .string (S (nb (P.f).num.natAbs)), .string (S (nb (P.f).den))] 0 6) := by rw [← hB]; simp [Hp.put_blk, Hp.push_blk, Nat.add_assoc]
  have k6 : B.blk (A.next + 6) = some (.row [.bool (decide ((Q.a).num < 0)), .string (S (nb (Q.a).num.natAbs)), .string (S (nb (Q.a).den)), .bool (decide ((Q.b).num < 0)), .string (S (nb (Q.b).num.natAbs)), .string (S (nb (Q.b).den)), .bool (decide ((Q.c).num < 0)), .string (S (nb (Q.c).num.natAbs)), .string (S (nb (Q.c).den)), .bool (decide ((Q.d).num < 0)), .string (S (nb (Q.d).num.natAbs)), .string (S (nb (Q.d).den)), .bool (decide ((Q.e).num < 0)), .string (S (nb (Q.e).num.natAbs)), .string (S (nb (Q.e).den)), .bool (decide ((Q.f).num < 0)), .string (S (nb (Q.f).num.natAbs)), .string (S (nb (Q.f).den))] 0 6) := by rw [← hB]; simp [Hp.put_blk, Hp.push_blk, Nat.add_assoc]
  have gk0 : ∀ j, B.get G ⟨A.next, j, some 0⟩ = ([.bool p0, .string (S p1), .string (S p2), .bool q0, .string (S q1), .string (S q2), .bool r0, .string (S r1), .string (S r2), .bool s0, .string (S s1), .string (S s2), .bool t0, .string (S t1), .string (S t2), .bool u0, .string (S u1), .string (S u2)] : List Value)[j]? := fun j => by simp only [Hp.get, k0, if_true]
  have gk1 : ∀ j, B.get G ⟨A.next + 1, j, some 0⟩ = ([.bool v0, .string (S v1), .string (S v2), .bool w0, .string (S w1), .string (S w2), .bool x0, .string (S x1), .string (S x2), .bool y0, .string (S y1), .string (S y2), .bool z0, .string (S z1), .string (S z2), .bool o0, .string (S o1), .string (S o2)] : List Value)[j]? := fun j => by simp only [Hp.get, k1, if_true]
  have gk2 : ∀ j, B.get G ⟨A.next + 2, j, some 0⟩ = ([.bool g0, .string (S g1), .string (S g2), .bool h0, .string (S h1), .string (S h2), .bool hf, .bool i0, .string (S i1), .string (S i2)] : List Value)[j]? := fun j => by simp only [Hp.get, k2, if_true]
  have gk3 : ∀ j, B.get G ⟨A.next + 3, j, some 0⟩ = ([.bool a0, .string (S a1), .string (S a2)] : List Value)[j]? := fun j => by simp only [Hp.get, k3, if_true]
  have gk4 : ∀ j, B.get G ⟨A.next + 4, j, some 0⟩ = ([.bool b0, .string (S b1), .string (S b2)] : List Value)[j]? := fun j => by simp only [Hp.get, k4, if_true]
  have gk5 : ∀ j, B.get G ⟨A.next + 5, j, some 0⟩ = ([.bool (decide ((P.a).num < 0)), .string (S (nb (P.a).num.natAbs)), .string (S (nb (P.a).den)), .bool (decide ((P.b).num < 0)), .string (S (nb (P.b).num.natAbs)), .string (S (nb (P.b).den)), .bool (decide ((P.c).num < 0)), .string (S (nb (P.c).num.natAbs)), .string (S (nb (P.c).den)), .bool (decide ((P.d).num < 0)), .string (S (nb (P.d).num.natAbs)), .string (S (nb (P.d).den)), .bool (decide ((P.e).num < 0)), .string (S (nb (P.e).num.natAbs)), .string (S (nb (P.e).den)), .bool (decide ((P.f).num < 0)), .string (S (nb (P.f).num.natAbs)), .string (S (nb (P.f).den))] : List Value)[j]? := fun j => by simp only [Hp.get, k5, if_true]
  have gk6 : ∀ j, B.get G ⟨A.next + 6, j, some 0⟩ = ([.bool (decide ((Q.a).num < 0)), .string (S (nb (Q.a).num.natAbs)), .string (S (nb (Q.a).den)), .bool (decide ((Q.b).num < 0)), .string (S (nb (Q.b).num.natAbs)), .string (S (nb (Q.b).den)), .bool (decide ((Q.c).num < 0)), .string (S (nb (Q.c).num.natAbs)), .string (S (nb (Q.c).den)), .bool (decide ((Q.d).num < 0)), .string (S (nb (Q.d).num.natAbs)), .string (S (nb (Q.d).den)), .bool (decide ((Q.e).num < 0)), .string (S (nb (Q.e).num.natAbs)), .string (S (nb (Q.e).den)), .bool (decide ((Q.f).num < 0)), .string (S (nb (Q.f).num.natAbs)), .string (S (nb (Q.f).den))] : List Value)[j]? := fun j => by simp only [Hp.get, k6, if_true]
  clear hB
  refine call_of (se _ _) ?_
  simp only [↓R1, R2, R3, R4, TY, reduceIte, Nat.reduceEqDiff, Nat.reduceAdd, Nat.reduceMul, Nat.reduceLT, Nat.reduceLeDiff, reduceCtorEq, decide_true, decide_false, Int.reduceLE, Int.reduceLT, Int.reduceToNat, Int.reduceAdd, Int.reduceSub, Int.reduceMul, Int.reduceEq, hfl, hfl1, hfl2, hfl3, hfl4, hfl5, hfl6, NE, NE9, Nat.add_assoc, rcmp_lt_iff, rcmp_gt_iff, rsign_gt_iff, rcmp_zero, ex9_0, ex9_1, ex9_2, w_1, w_2, w_3, w_4, n_2, n_3, n_4, eqD_po0, guard_po, beq_self_eq_true, kn, k0, gk0, k1, gk1, k2, gk2, k3, gk3, k4, gk4, k5, gk5, k6, gk6]
  refine call_of (ha _ _) ?_
  simp only [↓R1, R2, R3, R4, TY, reduceIte, Nat.reduceEqDiff, Nat.reduceAdd, Nat.reduceMul, Nat.reduceLT, Nat.reduceLeDiff, reduceCtorEq, decide_true, decide_false, Int.reduceLE, Int.reduceLT, Int.reduceToNat, Int.reduceAdd, Int.reduceSub, Int.reduceMul, Int.reduceEq, hfl, hfl1, hfl2, hfl3, hfl4, hfl5, hfl6, NE, NE9, Nat.add_assoc, rcmp_lt_iff, rcmp_gt_iff, rsign_gt_iff, rcmp_zero, ex9_0, ex9_1, ex9_2, w_1, w_2, w_3, w_4, n_2, n_3, n_4, eqD_po0, guard_po, beq_self_eq_true, kn, k0, gk0, k1, gk1, k2, gk2, k3, gk3, k4, gk4, k5, gk5, k6, gk6]
  refine call_of (ip _ _) ?_
  simp only [↓R1, R2, R3, R4, TY, reduceIte, Nat.reduceEqDiff, Nat.reduceAdd, Nat.reduceMul, Nat.reduceLT, Nat.reduceLeDiff, reduceCtorEq, decide_true, decide_false, Int.reduceLE, Int.reduceLT, Int.reduceToNat, Int.reduceAdd, Int.reduceSub, Int.reduceMul, Int.reduceEq, hfl, hfl1, hfl2, hfl3, hfl4, hfl5, hfl6, NE, NE9, Nat.add_assoc, rcmp_lt_iff, rcmp_gt_iff, rsign_gt_iff, rcmp_zero, ex9_0, ex9_1, ex9_2, w_1, w_2, w_3, w_4, n_2, n_3, n_4, eqD_po0, guard_po, beq_self_eq_true, kn, k0, gk0, k1, gk1, k2, gk2, k3, gk3, k4, gk4, k5, gk5, k6, gk6]
  refine call_of (wi _ _) ?_
  simp only [↓R1, R2, R3, R4, TY, reduceIte, Nat.reduceEqDiff, Nat.reduceAdd, Nat.reduceMul, Nat.reduceLT, Nat.reduceLeDiff, reduceCtorEq, decide_true, decide_false, Int.reduceLE, Int.reduceLT, Int.reduceToNat, Int.reduceAdd, Int.reduceSub, Int.reduceMul, Int.reduceEq, hfl, hfl1, hfl2, hfl3, hfl4, hfl5, hfl6, NE, NE9, Nat.add_assoc, rcmp_lt_iff, rcmp_gt_iff, rsign_gt_iff, rcmp_zero, ex9_0, ex9_1, ex9_2, w_1, w_2, w_3, w_4, n_2, n_3, n_4, eqD_po0, guard_po, beq_self_eq_true, kn, k0, gk0, k1, gk1, k2, gk2, k3, gk3, k4, gk4, k5, gk5, k6, gk6]
  refine call_of (wo _ _) ?_
  simp only [↓R1, R2, R3, R4, TY, reduceIte, Nat.reduceEqDiff, Nat.reduceAdd, Nat.reduceMul, Nat.reduceLT, Nat.reduceLeDiff, reduceCtorEq, decide_true, decide_false, Int.reduceLE, Int.reduceLT, Int.reduceToNat, Int.reduceAdd, Int.reduceSub, Int.reduceMul, Int.reduceEq, hfl, hfl1, hfl2, hfl3, hfl4, hfl5, hfl6, NE, NE9, Nat.add_assoc, rcmp_lt_iff, rcmp_gt_iff, rsign_gt_iff, rcmp_zero, ex9_0, ex9_1, ex9_2, w_1, w_2, w_3, w_4, n_2, n_3, n_4, eqD_po0, guard_po, beq_self_eq_true, kn, k0, gk0, k1, gk1, k2, gk2, k3, gk3, k4, gk4, k5, gk5, k6, gk6]
  refine call_of (sw _ _) ?_
  simp only [↓R1, R2, R3, R4, TY, reduceIte, Nat.reduceEqDiff, Nat.reduceAdd, Nat.reduceMul, Nat.reduceLT, Nat.reduceLeDiff, reduceCtorEq, decide_true, decide_false, Int.reduceLE, Int.reduceLT, Int.reduceToNat, Int.reduceAdd, Int.reduceSub, Int.reduceMul, Int.reduceEq, hfl, hfl1, hfl2, hfl3, hfl4, hfl5, hfl6, NE, NE9, Nat.add_assoc, rcmp_lt_iff, rcmp_gt_iff, rsign_gt_iff, rcmp_zero, ex9_0, ex9_1, ex9_2, w_1, w_2, w_3, w_4, n_2, n_3, n_4, eqD_po0, guard_po, beq_self_eq_true, kn, k0, gk0, k1, gk1, k2, gk2, k3, gk3, k4, gk4, k5, gk5, k6, gk6]
  have sa := fun fl A => wSame (G := G) (fl := fl) (A := A) hG rp rq (by omega)
  have sp := fun fl A => wSamePose (G := G) (fl := fl) (A := A) hG rp.ok rq.ok (by omega)
  have is := fun fl A => wInside (G := G) (fl := fl) (A := A) hG rp rq (by omega)
  rw [ins_same] at sa
  simp only [poV_def] at sp
  generalize hbs : sameP P Q = bs at sa sp
  by_cases hn : neP (meetP P Q)
  · have dm := hn
    have okm := meetP_ok rp.ok rq.ok hn
    have mm := fun fl A => wMeetOf (G := G) (fl := fl) (A := A) (v := .tuple [poV (meetP P Q), .bool true].toArray) hG rp.ok rq.ok (by omega) (fun _ => rfl) (fun h => absurd hn h)
    have nn := fun fl A => wNarrow (G := G) (fl := fl) (A := A) hG rp rq (by omega) hn
    have s1 := fun fl A => wSamePose (G := G) (fl := fl) (A := A) hG okm rp.ok (by omega)
    have sm := fun fl A => wsame (G := G) (fl := fl) (A := A) hG okm okm (by omega)
    rw [sameP_self] at sm
    rw [ins_meet rp.ok rq.ok hn] at s1
    obtain ⟨bi, hbi⟩ : ∃ b, b = insP P Q := ⟨_, rfl⟩
    rw [← hbi] at s1
    have is2 := is
    rw [← hbi] at is2
    simp only [poV_def] at mm nn s1 sm
    refine call_of (mm _ _) ?_
    simp only [↓R1, R2, R3, R4, TY, reduceIte, Nat.reduceEqDiff, Nat.reduceAdd, Nat.reduceMul, Nat.reduceLT, Nat.reduceLeDiff, reduceCtorEq, decide_true, decide_false, Int.reduceLE, Int.reduceLT, Int.reduceToNat, Int.reduceAdd, Int.reduceSub, Int.reduceMul, Int.reduceEq, hfl, hfl1, hfl2, hfl3, hfl4, hfl5, hfl6, NE, NE9, Nat.add_assoc, rcmp_lt_iff, rcmp_gt_iff, rsign_gt_iff, rcmp_zero, ex9_0, ex9_1, ex9_2, w_1, w_2, w_3, w_4, n_2, n_3, n_4, eqD_po0, guard_po, beq_self_eq_true, kn, k0, gk0, k1, gk1, k2, gk2, k3, gk3, k4, gk4, k5, gk5, k6, gk6]
    refine call_of (nn _ _) ?_
    simp only [↓R1, R2, R3, R4, TY, reduceIte, Nat.reduceEqDiff, Nat.reduceAdd, Nat.reduceMul, Nat.reduceLT, Nat.reduceLeDiff, reduceCtorEq, decide_true, decide_false, Int.reduceLE, Int.reduceLT, Int.reduceToNat, Int.reduceAdd, Int.reduceSub, Int.reduceMul, Int.reduceEq, hfl, hfl1, hfl2, hfl3, hfl4, hfl5, hfl6, NE, NE9, Nat.add_assoc, rcmp_lt_iff, rcmp_gt_iff, rsign_gt_iff, rcmp_zero, ex9_0, ex9_1, ex9_2, w_1, w_2, w_3, w_4, n_2, n_3, n_4, eqD_po0, guard_po, beq_self_eq_true, kn, k0, gk0, k1, gk1, k2, gk2, k3, gk3, k4, gk4, k5, gk5, k6, gk6]
    refine call_of (s1 _ _) ?_
    simp only [↓R1, R2, R3, R4, TY, reduceIte, Nat.reduceEqDiff, Nat.reduceAdd, Nat.reduceMul, Nat.reduceLT, Nat.reduceLeDiff, reduceCtorEq, decide_true, decide_false, Int.reduceLE, Int.reduceLT, Int.reduceToNat, Int.reduceAdd, Int.reduceSub, Int.reduceMul, Int.reduceEq, hfl, hfl1, hfl2, hfl3, hfl4, hfl5, hfl6, NE, NE9, Nat.add_assoc, rcmp_lt_iff, rcmp_gt_iff, rsign_gt_iff, rcmp_zero, ex9_0, ex9_1, ex9_2, w_1, w_2, w_3, w_4, n_2, n_3, n_4, eqD_po0, guard_po, beq_self_eq_true, kn, k0, gk0, k1, gk1, k2, gk2, k3, gk3, k4, gk4, k5, gk5, k6, gk6]
    refine call_of (sm _ _) ?_
    simp only [↓R1, R2, R3, R4, TY, reduceIte, Nat.reduceEqDiff, Nat.reduceAdd, Nat.reduceMul, Nat.reduceLT, Nat.reduceLeDiff, reduceCtorEq, decide_true, decide_false, Int.reduceLE, Int.reduceLT, Int.reduceToNat, Int.reduceAdd, Int.reduceSub, Int.reduceMul, Int.reduceEq, hfl, hfl1, hfl2, hfl3, hfl4, hfl5, hfl6, NE, NE9, Nat.add_assoc, rcmp_lt_iff, rcmp_gt_iff, rsign_gt_iff, rcmp_zero, ex9_0, ex9_1, ex9_2, w_1, w_2, w_3, w_4, n_2, n_3, n_4, eqD_po0, guard_po, beq_self_eq_true, kn, k0, gk0, k1, gk1, k2, gk2, k3, gk3, k4, gk4, k5, gk5, k6, gk6]
    refine call_of (is2 _ _) ?_
    simp only [↓R1, R2, R3, R4, TY, reduceIte, Nat.reduceEqDiff, Nat.reduceAdd, Nat.reduceMul, Nat.reduceLT, Nat.reduceLeDiff, reduceCtorEq, decide_true, decide_false, Int.reduceLE, Int.reduceLT, Int.reduceToNat, Int.reduceAdd, Int.reduceSub, Int.reduceMul, Int.reduceEq, hfl, hfl1, hfl2, hfl3, hfl4, hfl5, hfl6, NE, NE9, Nat.add_assoc, rcmp_lt_iff, rcmp_gt_iff, rsign_gt_iff, rcmp_zero, ex9_0, ex9_1, ex9_2, w_1, w_2, w_3, w_4, n_2, n_3, n_4, eqD_po0, guard_po, beq_self_eq_true, kn, k0, gk0, k1, gk1, k2, gk2, k3, gk3, k4, gk4, k5, gk5, k6, gk6]
    refine call_of (sa _ _) ?_
    simp only [↓R1, R2, R3, R4, TY, reduceIte, Nat.reduceEqDiff, Nat.reduceAdd, Nat.reduceMul, Nat.reduceLT, Nat.reduceLeDiff, reduceCtorEq, decide_true, decide_false, Int.reduceLE, Int.reduceLT, Int.reduceToNat, Int.reduceAdd, Int.reduceSub, Int.reduceMul, Int.reduceEq, hfl, hfl1, hfl2, hfl3, hfl4, hfl5, hfl6, NE, NE9, Nat.add_assoc, rcmp_lt_iff, rcmp_gt_iff, rsign_gt_iff, rcmp_zero, ex9_0, ex9_1, ex9_2, w_1, w_2, w_3, w_4, n_2, n_3, n_4, eqD_po0, guard_po, beq_self_eq_true, kn, k0, gk0, k1, gk1, k2, gk2, k3, gk3, k4, gk4, k5, gk5, k6, gk6]
    refine call_of (sp _ _) ?_
    simp only [↓R1, R2, R3, R4, TY, reduceIte, Nat.reduceEqDiff, Nat.reduceAdd, Nat.reduceMul, Nat.reduceLT, Nat.reduceLeDiff, reduceCtorEq, decide_true, decide_false, Int.reduceLE, Int.reduceLT, Int.reduceToNat, Int.reduceAdd, Int.reduceSub, Int.reduceMul, Int.reduceEq, hfl, hfl1, hfl2, hfl3, hfl4, hfl5, hfl6, NE, NE9, Nat.add_assoc, rcmp_lt_iff, rcmp_gt_iff, rsign_gt_iff, rcmp_zero, ex9_0, ex9_1, ex9_2, w_1, w_2, w_3, w_4, n_2, n_3, n_4, eqD_po0, guard_po, kn, k0, gk0, k1, gk1, k2, gk2, k3, gk3, k4, gk4, k5, gk5, k6, gk6]
    simp only [beq_self_eq_true, brI_true, r_skip, k_then]
    refine seeTail9 (hf := hf) (ds := [.bool (decide (((meetP P Q).a).num < 0)), .string (S (nb ((meetP P Q).a).num.natAbs)), .string (S (nb ((meetP P Q).a).den)), .bool (decide (((meetP P Q).b).num < 0)), .string (S (nb ((meetP P Q).b).num.natAbs)), .string (S (nb ((meetP P Q).b).den)), .bool (decide (((meetP P Q).c).num < 0)), .string (S (nb ((meetP P Q).c).num.natAbs)), .string (S (nb ((meetP P Q).c).den)), .bool (decide (((meetP P Q).d).num < 0)), .string (S (nb ((meetP P Q).d).num.natAbs)), .string (S (nb ((meetP P Q).d).den)), .bool (decide (((meetP P Q).e).num < 0)), .string (S (nb ((meetP P Q).e).num.natAbs)), .string (S (nb ((meetP P Q).e).den)), .bool (decide (((meetP P Q).f).num < 0)), .string (S (nb ((meetP P Q).f).num.natAbs)), .string (S (nb ((meetP P Q).f).den))]) hG rp rg rh ri ra rb hk hA ?_ ?_ rfl rfl rfl rfl rfl (by rw [← kn]; rfl) ?_ ?_ ?_ ?_ ?_ ?_ ?_
    · simp [kn]
    · simp (maxDischargeDepth := 20) only [xt_push, xt_put, kx, kn, xt_refl, Nat.le_refl, Nat.le_add_right, Nat.add_assoc, Nat.reduceAdd]
    · simp [Hp.put_blk, Hp.push_blk, Nat.add_assoc, kn, k0]
    · simp [Hp.put_blk, Hp.push_blk, Nat.add_assoc, kn, k2]
    · simp [Hp.put_blk, Hp.push_blk, Nat.add_assoc, kn, k3]
    · simp [Hp.put_blk, Hp.push_blk, Nat.add_assoc, kn, k4]
    · simp [Hp.put_blk, Hp.push_blk, Nat.add_assoc, kn, k5]
    · simp [Hp.put_blk, Hp.push_blk, Nat.add_assoc, kn]
    · rfl
  · have dm := hn
    have is2 := is
    rw [ins_no rp.ok hn] at is2
    have eqz := eqD_po0
    have mm := fun fl A => wMeetOf (G := G) (fl := fl) (A := A) (v := .tuple [po0, .bool false].toArray) hG rp.ok rq.ok (by omega) (fun h => absurd h hn) (fun _ => rfl)
    have nn := fun fl A => wNarrowNo (G := G) (fl := fl) (A := A) hG rp rq (by omega) hn
    simp only [po0_def, poV_def] at mm nn eqz
    refine call_of (mm _ _) ?_
    simp only [↓R1, R2, R3, R4, TY, reduceIte, Nat.reduceEqDiff, Nat.reduceAdd, Nat.reduceMul, Nat.reduceLT, Nat.reduceLeDiff, reduceCtorEq, decide_true, decide_false, Int.reduceLE, Int.reduceLT, Int.reduceToNat, Int.reduceAdd, Int.reduceSub, Int.reduceMul, Int.reduceEq, hfl, hfl1, hfl2, hfl3, hfl4, hfl5, hfl6, NE, NE9, Nat.add_assoc, rcmp_lt_iff, rcmp_gt_iff, rsign_gt_iff, rcmp_zero, ex9_0, ex9_1, ex9_2, w_1, w_2, w_3, w_4, n_2, n_3, n_4, eqD_po0, guard_po, beq_self_eq_true, kn, k0, gk0, k1, gk1, k2, gk2, k3, gk3, k4, gk4, k5, gk5, k6, gk6, eqz]
    refine call_of (nn _ _) ?_
    simp only [↓R1, R2, R3, R4, TY, reduceIte, Nat.reduceEqDiff, Nat.reduceAdd, Nat.reduceMul, Nat.reduceLT, Nat.reduceLeDiff, reduceCtorEq, decide_true, decide_false, Int.reduceLE, Int.reduceLT, Int.reduceToNat, Int.reduceAdd, Int.reduceSub, Int.reduceMul, Int.reduceEq, hfl, hfl1, hfl2, hfl3, hfl4, hfl5, hfl6, NE, NE9, Nat.add_assoc, rcmp_lt_iff, rcmp_gt_iff, rsign_gt_iff, rcmp_zero, ex9_0, ex9_1, ex9_2, w_1, w_2, w_3, w_4, n_2, n_3, n_4, eqD_po0, guard_po, beq_self_eq_true, kn, k0, gk0, k1, gk1, k2, gk2, k3, gk3, k4, gk4, k5, gk5, k6, gk6, eqz]
    refine call_of (is2 _ _) ?_
    simp only [↓R1, R2, R3, R4, TY, reduceIte, Nat.reduceEqDiff, Nat.reduceAdd, Nat.reduceMul, Nat.reduceLT, Nat.reduceLeDiff, reduceCtorEq, decide_true, decide_false, Int.reduceLE, Int.reduceLT, Int.reduceToNat, Int.reduceAdd, Int.reduceSub, Int.reduceMul, Int.reduceEq, hfl, hfl1, hfl2, hfl3, hfl4, hfl5, hfl6, NE, NE9, Nat.add_assoc, rcmp_lt_iff, rcmp_gt_iff, rsign_gt_iff, rcmp_zero, ex9_0, ex9_1, ex9_2, w_1, w_2, w_3, w_4, n_2, n_3, n_4, eqD_po0, guard_po, beq_self_eq_true, kn, k0, gk0, k1, gk1, k2, gk2, k3, gk3, k4, gk4, k5, gk5, k6, gk6, eqz]
    refine call_of (sa _ _) ?_
    simp only [↓R1, R2, R3, R4, TY, reduceIte, Nat.reduceEqDiff, Nat.reduceAdd, Nat.reduceMul, Nat.reduceLT, Nat.reduceLeDiff, reduceCtorEq, decide_true, decide_false, Int.reduceLE, Int.reduceLT, Int.reduceToNat, Int.reduceAdd, Int.reduceSub, Int.reduceMul, Int.reduceEq, hfl, hfl1, hfl2, hfl3, hfl4, hfl5, hfl6, NE, NE9, Nat.add_assoc, rcmp_lt_iff, rcmp_gt_iff, rsign_gt_iff, rcmp_zero, ex9_0, ex9_1, ex9_2, w_1, w_2, w_3, w_4, n_2, n_3, n_4, eqD_po0, guard_po, beq_self_eq_true, kn, k0, gk0, k1, gk1, k2, gk2, k3, gk3, k4, gk4, k5, gk5, k6, gk6, eqz]
    refine call_of (sp _ _) ?_
    simp only [↓R1, R2, R3, R4, TY, reduceIte, Nat.reduceEqDiff, Nat.reduceAdd, Nat.reduceMul, Nat.reduceLT, Nat.reduceLeDiff, reduceCtorEq, decide_true, decide_false, Int.reduceLE, Int.reduceLT, Int.reduceToNat, Int.reduceAdd, Int.reduceSub, Int.reduceMul, Int.reduceEq, hfl, hfl1, hfl2, hfl3, hfl4, hfl5, hfl6, NE, NE9, Nat.add_assoc, rcmp_lt_iff, rcmp_gt_iff, rsign_gt_iff, rcmp_zero, ex9_0, ex9_1, ex9_2, w_1, w_2, w_3, w_4, n_2, n_3, n_4, eqD_po0, guard_po, kn, k0, gk0, k1, gk1, k2, gk2, k3, gk3, k4, gk4, k5, gk5, k6, gk6]
    simp only [beq_self_eq_true, brI_true, r_skip, k_then]
    refine seeTail9 (hf := hf) (ds := [.bool false, .string { data := #[] }, .string { data := #[] }, .bool false, .string { data := #[] }, .string { data := #[] }, .bool false, .string { data := #[] }, .string { data := #[] }, .bool false, .string { data := #[] }, .string { data := #[] }, .bool false, .string { data := #[] }, .string { data := #[] }, .bool false, .string { data := #[] }, .string { data := #[] }]) hG rp rg rh ri ra rb hk hA ?_ ?_ rfl rfl rfl rfl rfl (by rw [← kn]; rfl) ?_ ?_ ?_ ?_ ?_ ?_ ?_
    · simp [kn]
    · simp (maxDischargeDepth := 20) only [xt_push, xt_put, kx, kn, xt_refl, Nat.le_refl, Nat.le_add_right, Nat.add_assoc, Nat.reduceAdd]
    · simp [Hp.put_blk, Hp.push_blk, Nat.add_assoc, kn, k0]
    · simp [Hp.put_blk, Hp.push_blk, Nat.add_assoc, kn, k2]
    · simp [Hp.put_blk, Hp.push_blk, Nat.add_assoc, kn, k3]
    · simp [Hp.put_blk, Hp.push_blk, Nat.add_assoc, kn, k4]
    · simp [Hp.put_blk, Hp.push_blk, Nat.add_assoc, kn, k5]
    · simp [Hp.put_blk, Hp.push_blk, Nat.add_assoc, kn]
    · rfl

end
end Go.Proofs.YtjkimjmocfjjnaaDoor.Ab
