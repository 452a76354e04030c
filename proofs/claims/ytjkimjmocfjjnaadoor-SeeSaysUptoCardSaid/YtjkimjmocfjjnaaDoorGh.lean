/- Looks; the fact that opens the laws of poses; plain facts. -/
import Derived.Test.YtjkimjmocfjjnaaDoorGg
import Derived.Test.YtjkimjmocfjjnaaDoorGe
import Derived.Test.YtjkimjmocfjjnaaDoorGf
namespace Go.Proofs.YtjkimjmocfjjnaaDoor.Ab
open Go.RowKit
set_option linter.unusedVariables false
set_option linter.unusedSimpArgs false
set_option linter.defProp false
set_option maxRecDepth 100000

/-- The first bundle of rules, without the step from one part of a sequence to the next: the run stops there. -/
def R1x := And.intro @r_skip (And.intro @r_exit (And.intro @r_ret (And.intro @r_region (And.intro @r_regionD (And.intro @r_seq (And.intro @r_block (And.intro @k_then_ret (And.intro @k_then_exit (And.intro @k_block (And.intro @k_block_ret (And.intro @k_block_here (And.intro @k_done (And.intro @k_done_ret (And.intro @k_loop_ret (And.intro @k_loop_exit (And.intro @k_unr_normal (And.intro @k_unr_ret (And.intro @k_unr_exit (And.intro @r_cond (And.intro @r_nil (And.intro @r_op (And.intro @r_guard (And.intro @r_move (And.intro @r_assign (And.intro @r_pick (And.intro @r_alloc (And.intro @r_box (And.intro @r_nilCheck (And.intro @r_bin (And.intro @r_not (And.intro @r_neg (And.intro @r_extract (And.intro @r_load (And.intro @r_store (And.intro @r_fieldAddr (And.intro @r_field (And.intro @r_makeFunc (And.intro @r_call (And.intro @r_build (And.intro @r_buildSlice (And.intro @r_makeSlice (And.intro @r_slice (And.intro @r_indexAddr (And.intro @r_index (And.intro @r_len (And.intro @r_append (And.intro @r_clear (And.intro @r_min (And.intro @r_max @r_convert)))))))))))))))))))))))))))))))))))))))))))))))))
/-- What is left of a sequence. -/
def dropC : List Unit → Code → Code
  | _ :: l, .seq _ b => dropC l b
  | _, c => c
theorem cut {P : Program} {G : Gl} {fl : Nat} {fn : Func} {c0 : Code} {l : List Unit} {τ : Tm} {B : Hp} {K : Exit → Tm → Hp → Prop} (hb : fn.body = some c0) (h : acode P G fl (dropC l c0) τ B K) : acode P G fl (dropC l (fn.body.getD .skip)) τ B K := by rw [hb]; exact h
theorem eqD_po0 : eqD Tryd.prog 20 27 po0 po0 = some true := by kernel_rfl
theorem guard_po : Tryd.prog.eqGuardType Tryd.prog.depth 27 = false := by kernel_rfl
theorem rcmp_self (p : Rat) : rcmp p p = 0 := by rw [rcmp_zero]
theorem frC_def (g h i : Rat) : frC g h i = .agg #[.bool (decide ((g).num < 0)), .string (S (nb (g).num.natAbs)), .string (S (nb (g).den)), .bool (decide ((h).num < 0)), .string (S (nb (h).num.natAbs)), .string (S (nb (h).den)), .bool false, .bool (decide ((i).num < 0)), .string (S (nb (i).num.natAbs)), .string (S (nb (i).den))] := rfl
theorem list18 {α : Type} : ∀ {l : List α}, l.length = 18 → ∃ e0 e1 e2 e3 e4 e5 e6 e7 e8 e9 e10 e11 e12 e13 e14 e15 e16 e17, l = [e0, e1, e2, e3, e4, e5, e6, e7, e8, e9, e10, e11, e12, e13, e14, e15, e16, e17]
  | [e0, e1, e2, e3, e4, e5, e6, e7, e8, e9, e10, e11, e12, e13, e14, e15, e16, e17], _ => ⟨e0, e1, e2, e3, e4, e5, e6, e7, e8, e9, e10, e11, e12, e13, e14, e15, e16, e17, rfl⟩
theorem ins_same {P Q : Po} : (insP P Q && insP Q P) = sameP P Q := by
  unfold insP sameP
  rw [Bool.eq_iff_iff]
  simp only [Bool.and_eq_true, decide_eq_true_eq]
  constructor
  · rintro ⟨⟨a, b, c⟩, d, e, f⟩
    exact ⟨Rat.le_antisymm d.1 a.1, Rat.le_antisymm a.2 d.2, Rat.le_antisymm e.1 b.1, Rat.le_antisymm b.2 e.2, Rat.le_antisymm f.1 c.1, Rat.le_antisymm c.2 f.2⟩
  · rintro ⟨a, b, c, d, e, f⟩
    rw [a, b, c, d, e, f]
    simp [Rat.le_refl]
theorem ins_meet {P Q : Po} {k : Nat} (hp : P.ok k) (hq : Q.ok k) (h : neP (meetP P Q)) : sameP (meetP P Q) P = insP P Q := by
  unfold insP sameP meetP
  rw [Bool.eq_iff_iff]
  simp only [Bool.and_eq_true, decide_eq_true_eq, rmax_def, rmin_def]
  have := hp.1.le; have := hp.2.1.le; have := hp.2.2.le
  grind
theorem ins_no {P Q : Po} {k : Nat} (hp : P.ok k) (h : ¬ neP (meetP P Q)) : insP P Q = false := by
  rw [Bool.eq_false_iff]
  intro hi
  apply h
  unfold insP at hi
  simp only [Bool.and_eq_true, decide_eq_true_eq] at hi
  have h1 := hp.1.le; have h2 := hp.2.1.le; have h3 := hp.2.2.le
  unfold neP meetP
  simp only [rmax_def, rmin_def]
  grind

section
variable {G : Gl} {fl : Nat} {A : Hp}

set_option maxHeartbeats 2000000 in
theorem wsmall  (hG : G 1 = some tabV)  : Sound Tryd.prog G 49 [] fl A (.bool true) A := by
  refine Sound.of mixed Tryd.func49 Tryd.ntmps49 Tryd.results49 (by kernel_rfl) rfl (by kernel_rfl) (by simp) fun hA => ?_
  have hfl : fl ≤ A.next := by have := hA.floor; omega
  have hfl1 : fl ≤ A.next + 1 := by have := hA.floor; omega
  have hfl2 : fl ≤ A.next + 2 := by have := hA.floor; omega
  have hfl3 : fl ≤ A.next + 3 := by have := hA.floor; omega
  have hfl4 : fl ≤ A.next + 4 := by have := hA.floor; omega
  have hfl5 : fl ≤ A.next + 5 := by have := hA.floor; omega
  have hfl6 : fl ≤ A.next + 6 := by have := hA.floor; omega
  have z3 := fun fl A => rof_ok (G := G) (fl := fl) (A := A) (n := 3) (by decide) (by decide)
  have r3 : Rz 3 1 := Rz.of (n := 3) (k := 1) (by rw [show (3 : Int).natAbs = 3 from rfl]; decide +kernel) (Nat.le_refl _)
  have s := fun fl A => qsign (G := G) (fl := fl) (A := A) hG r3 (by omega)
  have e : rsign 3 = 1 := by decide +kernel
  rw [show rOf 3 = 3 from rfl] at z3
  rw [e] at s
  simp only [ratV_def] at z3 s
  simp only [↓R1, R2, R3, R4, TY, reduceIte, Nat.reduceEqDiff, Nat.reduceAdd, Nat.reduceMul, Nat.reduceLT, Nat.reduceLeDiff, reduceCtorEq, decide_true, decide_false, Int.reduceLE, Int.reduceLT, Int.reduceToNat, Int.reduceAdd, Int.reduceSub, Int.reduceMul, Int.reduceEq, hfl, hfl1, hfl2, hfl3, hfl4, hfl5, hfl6, NE, NE9, Nat.add_assoc]
  refine call_of (z3 _ _) ?_
  simp only [↓R1, R2, R3, R4, TY, reduceIte, Nat.reduceEqDiff, Nat.reduceAdd, Nat.reduceMul, Nat.reduceLT, Nat.reduceLeDiff, reduceCtorEq, decide_true, decide_false, Int.reduceLE, Int.reduceLT, Int.reduceToNat, Int.reduceAdd, Int.reduceSub, Int.reduceMul, Int.reduceEq, hfl, hfl1, hfl2, hfl3, hfl4, hfl5, hfl6, NE, NE9, Nat.add_assoc]
  refine call_of (s _ _) ?_
  simp only [↓R1, R2, R3, R4, TY, reduceIte, Nat.reduceEqDiff, Nat.reduceAdd, Nat.reduceMul, Nat.reduceLT, Nat.reduceLeDiff, reduceCtorEq, decide_true, decide_false, Int.reduceLE, Int.reduceLT, Int.reduceToNat, Int.reduceAdd, Int.reduceSub, Int.reduceMul, Int.reduceEq, hfl, hfl1, hfl2, hfl3, hfl4, hfl5, hfl6, NE, NE9, Nat.add_assoc]
  refine Ended.back hA ?_ rfl (RB.bool _)
  simp (maxDischargeDepth := 20) only [xt_push, xt_put, xt_refl, Nat.le_refl, Nat.le_add_right, Nat.add_assoc, Nat.reduceAdd]

theorem raw_zero (hG : G 1 = some tabV) : Raw G false [] [] false 0 1 := ⟨fun fl A => good0, fun fl A => fit0, rz_zero, by simp, fun _ => rfl⟩
set_option maxHeartbeats 2000000 in
theorem wLookNo {p0 : Bool} {p1 p2 : List UInt8} {q0 : Bool} {q1 q2 : List UInt8} {r0 : Bool} {r1 r2 : List UInt8} {s0 : Bool} {s1 s2 : List UInt8} {t0 : Bool} {t1 t2 : List UInt8} {u0 : Bool} {u1 u2 : List UInt8}  {g0 : Bool} {g1 g2 : List UInt8} {h0 : Bool} {h1 h2 : List UInt8} {i0 : Bool} {i1 i2 : List UInt8} {a0 : Bool} {a1 a2 : List UInt8} {b0 : Bool} {b1 b2 : List UInt8} (hG : G 1 = some tabV)  : Sound Tryd.prog G 20 [.agg #[.bool p0, .string (S p1), .string (S p2), .bool q0, .string (S q1), .string (S q2), .bool r0, .string (S r1), .string (S r2), .bool s0, .string (S s1), .string (S s2), .bool t0, .string (S t1), .string (S t2), .bool u0, .string (S u1), .string (S u2)], .agg #[.bool g0, .string (S g1), .string (S g2), .bool h0, .string (S h1), .string (S h2), .bool true, .bool i0, .string (S i1), .string (S i2)], .agg #[.bool a0, .string (S a1), .string (S a2)], .agg #[.bool b0, .string (S b1), .string (S b2)]] fl A (.tuple [po0, .int .i64 3].toArray) A := by
  refine Sound.of mixed Tryd.func20 Tryd.ntmps20 Tryd.results20 (by kernel_rfl) rfl (by kernel_rfl) (by simp) fun hA => ?_
  have hfl : fl ≤ A.next := by have := hA.floor; omega
  have hfl1 : fl ≤ A.next + 1 := by have := hA.floor; omega
  have hfl2 : fl ≤ A.next + 2 := by have := hA.floor; omega
  have hfl3 : fl ≤ A.next + 3 := by have := hA.floor; omega
  have hfl4 : fl ≤ A.next + 4 := by have := hA.floor; omega
  have hfl5 : fl ≤ A.next + 5 := by have := hA.floor; omega
  have hfl6 : fl ≤ A.next + 6 := by have := hA.floor; omega
  have e1 := fun fl A => wOfNo (G := G) (fl := fl) (A := A) (g0 := g0) (g1 := g1) (g2 := g2) (h0 := h0) (h1 := h1) (h2 := h2) (i0 := i0) (i1 := i1) (i2 := i2) hG
  have hrb := RB.tuple2 (po0_rb A.next) (RB.int .i64 3)
  simp only [po0_def] at e1 hrb ⊢
  simp only [↓R1, R2, R3, R4, TY, reduceIte, Nat.reduceEqDiff, Nat.reduceAdd, Nat.reduceMul, Nat.reduceLT, Nat.reduceLeDiff, reduceCtorEq, decide_true, decide_false, Int.reduceLE, Int.reduceLT, Int.reduceToNat, Int.reduceAdd, Int.reduceSub, Int.reduceMul, Int.reduceEq, hfl, hfl1, hfl2, hfl3, hfl4, hfl5, hfl6, NE, NE9, Nat.add_assoc]
  refine call_of (e1 _ _) ?_
  simp only [↓R1, R2, R3, R4, TY, reduceIte, Nat.reduceEqDiff, Nat.reduceAdd, Nat.reduceMul, Nat.reduceLT, Nat.reduceLeDiff, reduceCtorEq, decide_true, decide_false, Int.reduceLE, Int.reduceLT, Int.reduceToNat, Int.reduceAdd, Int.reduceSub, Int.reduceMul, Int.reduceEq, hfl, hfl1, hfl2, hfl3, hfl4, hfl5, hfl6, NE, NE9, Nat.add_assoc]
  refine Ended.back hA ?_ rfl hrb
  simp (maxDischargeDepth := 20) only [xt_push, xt_put, xt_refl, Nat.le_refl, Nat.le_add_right, Nat.add_assoc, Nat.reduceAdd]

set_option maxHeartbeats 2000000 in
theorem wLook {p0 : Bool} {p1 p2 : List UInt8} {q0 : Bool} {q1 q2 : List UInt8} {r0 : Bool} {r1 r2 : List UInt8} {s0 : Bool} {s1 s2 : List UInt8} {t0 : Bool} {t1 t2 : List UInt8} {u0 : Bool} {u1 u2 : List UInt8} {P : Po} {k : Nat} {g0 : Bool} {g1 g2 : List UInt8} {h0 : Bool} {h1 h2 : List UInt8} {i0 : Bool} {i1 i2 : List UInt8} {okg okh oki : Bool} {g h i : Rat} {a0 : Bool} {a1 a2 : List UInt8} {b0 : Bool} {b1 b2 : List UInt8} {oka okb : Bool} {bu bv : Rat} (hG : G 1 = some tabV) (rp : RawP G p0 p1 p2 q0 q1 q2 r0 r1 r2 s0 s1 s2 t0 t1 t2 u0 u1 u2 P k) (rg : Raw G g0 g1 g2 okg g k) (rh : Raw G h0 h1 h2 okh h k) (ri : Raw G i0 i1 i2 oki i k) (ra : Raw G a0 a1 a2 oka bu k) (rb : Raw G b0 b1 b2 okb bv k) (hk : 4 * k + 4 ≤ 5000000000) (hn : neP (meetP P (wideP (ptP g h i) bu bv))) : Sound Tryd.prog G 20 [.agg #[.bool p0, .string (S p1), .string (S p2), .bool q0, .string (S q1), .string (S q2), .bool r0, .string (S r1), .string (S r2), .bool s0, .string (S s1), .string (S s2), .bool t0, .string (S t1), .string (S t2), .bool u0, .string (S u1), .string (S u2)], .agg #[.bool g0, .string (S g1), .string (S g2), .bool h0, .string (S h1), .string (S h2), .bool false, .bool i0, .string (S i1), .string (S i2)], .agg #[.bool a0, .string (S a1), .string (S a2)], .agg #[.bool b0, .string (S b1), .string (S b2)]] fl A (.tuple [poV (meetP P (wideP (ptP g h i) bu bv)), .int .i64 0].toArray) A := by
  refine Sound.of mixed Tryd.func20 Tryd.ntmps20 Tryd.results20 (by kernel_rfl) rfl (by kernel_rfl) (by simp) fun hA => ?_
  have hfl : fl ≤ A.next := by have := hA.floor; omega
  have hfl1 : fl ≤ A.next + 1 := by have := hA.floor; omega
  have hfl2 : fl ≤ A.next + 2 := by have := hA.floor; omega
  have hfl3 : fl ≤ A.next + 3 := by have := hA.floor; omega
  have hfl4 : fl ≤ A.next + 4 := by have := hA.floor; omega
  have hfl5 : fl ≤ A.next + 5 := by have := hA.floor; omega
  have hfl6 : fl ≤ A.next + 6 := by have := hA.floor; omega
  have e1 := fun fl A => wOf (G := G) (fl := fl) (A := A) hG rg rh ri (by omega)
  have okx := ptP_ok rg.sz rh.sz ri.sz
  have e2 := fun fl A => wWiden (G := G) (fl := fl) (A := A) hG (rawp_good hG okx (by omega)) ra rb (by omega)
  have okw := wideP_ok okx ra.sz rb.sz
  have rpm : RawP G p0 p1 p2 q0 q1 q2 r0 r1 r2 s0 s1 s2 t0 t1 t2 u0 u1 u2 P (k + k + 2) := ⟨⟨rp.x.fit, rp.x.norm, rp.x.ends, (rp.ok.mono (by omega)).1⟩, ⟨rp.y.fit, rp.y.norm, rp.y.ends, (rp.ok.mono (by omega : k ≤ k + k + 2)).2.1⟩, ⟨rp.t.fit, rp.t.norm, rp.t.ends, (rp.ok.mono (by omega : k ≤ k + k + 2)).2.2⟩⟩
  have e3 := fun fl A => wNarrow (G := G) (fl := fl) (A := A) hG rpm (rawp_good hG okw (by omega)) (by omega) hn
  have hrb := RB.tuple2 (poV_rb A.next (meetP P (wideP (ptP g h i) bu bv))) (RB.int .i64 0)
  simp only [poV_def, prV_def, ratV_def] at e1 e2 e3 hrb ⊢
  simp only [↓R1, R2, R3, R4, TY, reduceIte, Nat.reduceEqDiff, Nat.reduceAdd, Nat.reduceMul, Nat.reduceLT, Nat.reduceLeDiff, reduceCtorEq, decide_true, decide_false, Int.reduceLE, Int.reduceLT, Int.reduceToNat, Int.reduceAdd, Int.reduceSub, Int.reduceMul, Int.reduceEq, hfl, hfl1, hfl2, hfl3, hfl4, hfl5, hfl6, NE, NE9, Nat.add_assoc]
  refine call_of (e1 _ _) ?_
  simp only [↓R1, R2, R3, R4, TY, reduceIte, Nat.reduceEqDiff, Nat.reduceAdd, Nat.reduceMul, Nat.reduceLT, Nat.reduceLeDiff, reduceCtorEq, decide_true, decide_false, Int.reduceLE, Int.reduceLT, Int.reduceToNat, Int.reduceAdd, Int.reduceSub, Int.reduceMul, Int.reduceEq, hfl, hfl1, hfl2, hfl3, hfl4, hfl5, hfl6, NE, NE9, Nat.add_assoc]
  refine call_of (e2 _ _) ?_
  simp only [↓R1, R2, R3, R4, TY, reduceIte, Nat.reduceEqDiff, Nat.reduceAdd, Nat.reduceMul, Nat.reduceLT, Nat.reduceLeDiff, reduceCtorEq, decide_true, decide_false, Int.reduceLE, Int.reduceLT, Int.reduceToNat, Int.reduceAdd, Int.reduceSub, Int.reduceMul, Int.reduceEq, hfl, hfl1, hfl2, hfl3, hfl4, hfl5, hfl6, NE, NE9, Nat.add_assoc]
  refine call_of (e3 _ _) ?_
  simp only [↓R1, R2, R3, R4, TY, reduceIte, Nat.reduceEqDiff, Nat.reduceAdd, Nat.reduceMul, Nat.reduceLT, Nat.reduceLeDiff, reduceCtorEq, decide_true, decide_false, Int.reduceLE, Int.reduceLT, Int.reduceToNat, Int.reduceAdd, Int.reduceSub, Int.reduceMul, Int.reduceEq, hfl, hfl1, hfl2, hfl3, hfl4, hfl5, hfl6, NE, NE9, Nat.add_assoc]
  rw [floOf_wr (by kernel_rfl)]
  simp only [↓R1, R2, R3, R4, TY, reduceIte, Nat.reduceEqDiff, Nat.reduceAdd, Nat.reduceMul, Nat.reduceLT, Nat.reduceLeDiff, reduceCtorEq, decide_true, decide_false, Int.reduceLE, Int.reduceLT, Int.reduceToNat, Int.reduceAdd, Int.reduceSub, Int.reduceMul, Int.reduceEq, hfl, hfl1, hfl2, hfl3, hfl4, hfl5, hfl6, NE, NE9, Nat.add_assoc]
  refine Ended.back hA ?_ rfl hrb
  simp (maxDischargeDepth := 20) only [xt_push, xt_put, xt_refl, Nat.le_refl, Nat.le_add_right, Nat.add_assoc, Nat.reduceAdd]

set_option maxHeartbeats 2000000 in
theorem wLookNone {p0 : Bool} {p1 p2 : List UInt8} {q0 : Bool} {q1 q2 : List UInt8} {r0 : Bool} {r1 r2 : List UInt8} {s0 : Bool} {s1 s2 : List UInt8} {t0 : Bool} {t1 t2 : List UInt8} {u0 : Bool} {u1 u2 : List UInt8} {P : Po} {k : Nat} {g0 : Bool} {g1 g2 : List UInt8} {h0 : Bool} {h1 h2 : List UInt8} {i0 : Bool} {i1 i2 : List UInt8} {okg okh oki : Bool} {g h i : Rat} {a0 : Bool} {a1 a2 : List UInt8} {b0 : Bool} {b1 b2 : List UInt8} {oka okb : Bool} {bu bv : Rat} (hG : G 1 = some tabV) (rp : RawP G p0 p1 p2 q0 q1 q2 r0 r1 r2 s0 s1 s2 t0 t1 t2 u0 u1 u2 P k) (rg : Raw G g0 g1 g2 okg g k) (rh : Raw G h0 h1 h2 okh h k) (ri : Raw G i0 i1 i2 oki i k) (ra : Raw G a0 a1 a2 oka bu k) (rb : Raw G b0 b1 b2 okb bv k) (hk : 4 * k + 4 ≤ 5000000000) (hn : ¬ neP (meetP P (wideP (ptP g h i) bu bv))) : Sound Tryd.prog G 20 [.agg #[.bool p0, .string (S p1), .string (S p2), .bool q0, .string (S q1), .string (S q2), .bool r0, .string (S r1), .string (S r2), .bool s0, .string (S s1), .string (S s2), .bool t0, .string (S t1), .string (S t2), .bool u0, .string (S u1), .string (S u2)], .agg #[.bool g0, .string (S g1), .string (S g2), .bool h0, .string (S h1), .string (S h2), .bool false, .bool i0, .string (S i1), .string (S i2)], .agg #[.bool a0, .string (S a1), .string (S a2)], .agg #[.bool b0, .string (S b1), .string (S b2)]] fl A (.tuple [po0, .int .i64 4].toArray) A := by
  refine Sound.of mixed Tryd.func20 Tryd.ntmps20 Tryd.results20 (by kernel_rfl) rfl (by kernel_rfl) (by simp) fun hA => ?_
  have hfl : fl ≤ A.next := by have := hA.floor; omega
  have hfl1 : fl ≤ A.next + 1 := by have := hA.floor; omega
  have hfl2 : fl ≤ A.next + 2 := by have := hA.floor; omega
  have hfl3 : fl ≤ A.next + 3 := by have := hA.floor; omega
  have hfl4 : fl ≤ A.next + 4 := by have := hA.floor; omega
  have hfl5 : fl ≤ A.next + 5 := by have := hA.floor; omega
  have hfl6 : fl ≤ A.next + 6 := by have := hA.floor; omega
  have e1 := fun fl A => wOf (G := G) (fl := fl) (A := A) hG rg rh ri (by omega)
  have okx := ptP_ok rg.sz rh.sz ri.sz
  have e2 := fun fl A => wWiden (G := G) (fl := fl) (A := A) hG (rawp_good hG okx (by omega)) ra rb (by omega)
  have okw := wideP_ok okx ra.sz rb.sz
  have rpm : RawP G p0 p1 p2 q0 q1 q2 r0 r1 r2 s0 s1 s2 t0 t1 t2 u0 u1 u2 P (k + k + 2) := ⟨⟨rp.x.fit, rp.x.norm, rp.x.ends, (rp.ok.mono (by omega)).1⟩, ⟨rp.y.fit, rp.y.norm, rp.y.ends, (rp.ok.mono (by omega : k ≤ k + k + 2)).2.1⟩, ⟨rp.t.fit, rp.t.norm, rp.t.ends, (rp.ok.mono (by omega : k ≤ k + k + 2)).2.2⟩⟩
  have e3 := fun fl A => wNarrowNo (G := G) (fl := fl) (A := A) hG rpm (rawp_good hG okw (by omega)) (by omega) hn
  have hrb := RB.tuple2 (po0_rb A.next) (RB.int .i64 4)
  simp only [poV_def, prV_def, ratV_def, po0_def] at e1 e2 e3 hrb ⊢
  simp only [↓R1, R2, R3, R4, TY, reduceIte, Nat.reduceEqDiff, Nat.reduceAdd, Nat.reduceMul, Nat.reduceLT, Nat.reduceLeDiff, reduceCtorEq, decide_true, decide_false, Int.reduceLE, Int.reduceLT, Int.reduceToNat, Int.reduceAdd, Int.reduceSub, Int.reduceMul, Int.reduceEq, hfl, hfl1, hfl2, hfl3, hfl4, hfl5, hfl6, NE, NE9, Nat.add_assoc]
  refine call_of (e1 _ _) ?_
  simp only [↓R1, R2, R3, R4, TY, reduceIte, Nat.reduceEqDiff, Nat.reduceAdd, Nat.reduceMul, Nat.reduceLT, Nat.reduceLeDiff, reduceCtorEq, decide_true, decide_false, Int.reduceLE, Int.reduceLT, Int.reduceToNat, Int.reduceAdd, Int.reduceSub, Int.reduceMul, Int.reduceEq, hfl, hfl1, hfl2, hfl3, hfl4, hfl5, hfl6, NE, NE9, Nat.add_assoc]
  refine call_of (e2 _ _) ?_
  simp only [↓R1, R2, R3, R4, TY, reduceIte, Nat.reduceEqDiff, Nat.reduceAdd, Nat.reduceMul, Nat.reduceLT, Nat.reduceLeDiff, reduceCtorEq, decide_true, decide_false, Int.reduceLE, Int.reduceLT, Int.reduceToNat, Int.reduceAdd, Int.reduceSub, Int.reduceMul, Int.reduceEq, hfl, hfl1, hfl2, hfl3, hfl4, hfl5, hfl6, NE, NE9, Nat.add_assoc]
  refine call_of (e3 _ _) ?_
  simp only [↓R1, R2, R3, R4, TY, reduceIte, Nat.reduceEqDiff, Nat.reduceAdd, Nat.reduceMul, Nat.reduceLT, Nat.reduceLeDiff, reduceCtorEq, decide_true, decide_false, Int.reduceLE, Int.reduceLT, Int.reduceToNat, Int.reduceAdd, Int.reduceSub, Int.reduceMul, Int.reduceEq, hfl, hfl1, hfl2, hfl3, hfl4, hfl5, hfl6, NE, NE9, Nat.add_assoc]
  rw [floOf_wr (by kernel_rfl)]
  simp only [↓R1, R2, R3, R4, TY, reduceIte, Nat.reduceEqDiff, Nat.reduceAdd, Nat.reduceMul, Nat.reduceLT, Nat.reduceLeDiff, reduceCtorEq, decide_true, decide_false, Int.reduceLE, Int.reduceLT, Int.reduceToNat, Int.reduceAdd, Int.reduceSub, Int.reduceMul, Int.reduceEq, hfl, hfl1, hfl2, hfl3, hfl4, hfl5, hfl6, NE, NE9, Nat.add_assoc]
  refine Ended.back hA ?_ rfl hrb
  simp (maxDischargeDepth := 20) only [xt_push, xt_put, xt_refl, Nat.le_refl, Nat.le_add_right, Nat.add_assoc, Nat.reduceAdd]

set_option maxHeartbeats 2000000 in
theorem wseen  (hG : G 1 = some tabV)  : Sound Tryd.prog G 8 [] fl A (.bool true) A := by
  refine Sound.of mixed Tryd.func8 Tryd.ntmps8 Tryd.results8 (by kernel_rfl) rfl (by kernel_rfl) (by simp) fun hA => ?_
  have hfl : fl ≤ A.next := by have := hA.floor; omega
  have hfl1 : fl ≤ A.next + 1 := by have := hA.floor; omega
  have hfl2 : fl ≤ A.next + 2 := by have := hA.floor; omega
  have hfl3 : fl ≤ A.next + 3 := by have := hA.floor; omega
  have hfl4 : fl ≤ A.next + 4 := by have := hA.floor; omega
  have hfl5 : fl ≤ A.next + 5 := by have := hA.floor; omega
  have hfl6 : fl ≤ A.next + 6 := by have := hA.floor; omega
  have r2 : Rz 2 1 := Rz.of (n := 2) (k := 1) (by rw [show (2 : Int).natAbs = 2 from rfl]; decide +kernel) (Nat.le_refl _)
  have r3 : Rz 3 1 := Rz.of (n := 3) (k := 1) (by rw [show (3 : Int).natAbs = 3 from rfl]; decide +kernel) (Nat.le_refl _)
  have z2 := fun fl A => rof_ok (G := G) (fl := fl) (A := A) (n := 2) (by decide) (by decide)
  have z3 := fun fl A => rof_ok (G := G) (fl := fl) (A := A) (n := 3) (by decide) (by decide)
  have e1 := fun fl A => wOf (G := G) (fl := fl) (A := A) hG (raw_good hG r2 (by omega)) (raw_good hG r3 (by omega)) (raw_zero hG) (by omega)
  have sm := fun fl A => wsmall (G := G) (fl := fl) (A := A) hG
  have e2 := fun fl A => wHas (G := G) (fl := fl) (A := A) (hf := false) hG (rawp_good hG (ptP_ok r2 r3 rz_zero) (by omega)) (raw_good hG r2 (by omega)) (raw_good hG r3 (by omega)) (raw_zero hG) (by omega)
  have c := fun fl A => qcmp (G := G) (fl := fl) (A := A) hG r2 r2 (by omega)
  rw [show inPo (ptP 2 3 0) false 2 3 0 = true from by decide +kernel] at e2
  rw [show rcmp 2 2 = 0 from by decide +kernel] at c
  rw [show rOf 2 = 2 from rfl] at z2
  rw [show rOf 3 = 3 from rfl] at z3
  unfold ptP at e1 e2
  simp only [poV_def, ratV_def] at e1 e2 c z2 z3
  simp only [↓R1, R2, R3, R4, TY, reduceIte, Nat.reduceEqDiff, Nat.reduceAdd, Nat.reduceMul, Nat.reduceLT, Nat.reduceLeDiff, reduceCtorEq, decide_true, decide_false, Int.reduceLE, Int.reduceLT, Int.reduceToNat, Int.reduceAdd, Int.reduceSub, Int.reduceMul, Int.reduceEq, hfl, hfl1, hfl2, hfl3, hfl4, hfl5, hfl6, NE, NE9, Nat.add_assoc]
  refine call_of (z2 _ _) ?_
  simp only [↓R1, R2, R3, R4, TY, reduceIte, Nat.reduceEqDiff, Nat.reduceAdd, Nat.reduceMul, Nat.reduceLT, Nat.reduceLeDiff, reduceCtorEq, decide_true, decide_false, Int.reduceLE, Int.reduceLT, Int.reduceToNat, Int.reduceAdd, Int.reduceSub, Int.reduceMul, Int.reduceEq, hfl, hfl1, hfl2, hfl3, hfl4, hfl5, hfl6, NE, NE9, Nat.add_assoc]
  refine call_of (z3 _ _) ?_
  simp only [↓R1, R2, R3, R4, TY, reduceIte, Nat.reduceEqDiff, Nat.reduceAdd, Nat.reduceMul, Nat.reduceLT, Nat.reduceLeDiff, reduceCtorEq, decide_true, decide_false, Int.reduceLE, Int.reduceLT, Int.reduceToNat, Int.reduceAdd, Int.reduceSub, Int.reduceMul, Int.reduceEq, hfl, hfl1, hfl2, hfl3, hfl4, hfl5, hfl6, NE, NE9, Nat.add_assoc]
  refine call_of (e1 _ _) ?_
  simp only [↓R1, R2, R3, R4, TY, reduceIte, Nat.reduceEqDiff, Nat.reduceAdd, Nat.reduceMul, Nat.reduceLT, Nat.reduceLeDiff, reduceCtorEq, decide_true, decide_false, Int.reduceLE, Int.reduceLT, Int.reduceToNat, Int.reduceAdd, Int.reduceSub, Int.reduceMul, Int.reduceEq, hfl, hfl1, hfl2, hfl3, hfl4, hfl5, hfl6, NE, NE9, Nat.add_assoc]
  refine call_of (sm _ _) ?_
  simp only [↓R1, R2, R3, R4, TY, reduceIte, Nat.reduceEqDiff, Nat.reduceAdd, Nat.reduceMul, Nat.reduceLT, Nat.reduceLeDiff, reduceCtorEq, decide_true, decide_false, Int.reduceLE, Int.reduceLT, Int.reduceToNat, Int.reduceAdd, Int.reduceSub, Int.reduceMul, Int.reduceEq, hfl, hfl1, hfl2, hfl3, hfl4, hfl5, hfl6, NE, NE9, Nat.add_assoc]
  refine call_of (z2 _ _) ?_
  simp only [↓R1, R2, R3, R4, TY, reduceIte, Nat.reduceEqDiff, Nat.reduceAdd, Nat.reduceMul, Nat.reduceLT, Nat.reduceLeDiff, reduceCtorEq, decide_true, decide_false, Int.reduceLE, Int.reduceLT, Int.reduceToNat, Int.reduceAdd, Int.reduceSub, Int.reduceMul, Int.reduceEq, hfl, hfl1, hfl2, hfl3, hfl4, hfl5, hfl6, NE, NE9, Nat.add_assoc]
  refine call_of (z3 _ _) ?_
  simp only [↓R1, R2, R3, R4, TY, reduceIte, Nat.reduceEqDiff, Nat.reduceAdd, Nat.reduceMul, Nat.reduceLT, Nat.reduceLeDiff, reduceCtorEq, decide_true, decide_false, Int.reduceLE, Int.reduceLT, Int.reduceToNat, Int.reduceAdd, Int.reduceSub, Int.reduceMul, Int.reduceEq, hfl, hfl1, hfl2, hfl3, hfl4, hfl5, hfl6, NE, NE9, Nat.add_assoc]
  refine call_of (e2 _ _) ?_
  simp only [↓R1, R2, R3, R4, TY, reduceIte, Nat.reduceEqDiff, Nat.reduceAdd, Nat.reduceMul, Nat.reduceLT, Nat.reduceLeDiff, reduceCtorEq, decide_true, decide_false, Int.reduceLE, Int.reduceLT, Int.reduceToNat, Int.reduceAdd, Int.reduceSub, Int.reduceMul, Int.reduceEq, hfl, hfl1, hfl2, hfl3, hfl4, hfl5, hfl6, NE, NE9, Nat.add_assoc]
  refine call_of (z2 _ _) ?_
  simp only [↓R1, R2, R3, R4, TY, reduceIte, Nat.reduceEqDiff, Nat.reduceAdd, Nat.reduceMul, Nat.reduceLT, Nat.reduceLeDiff, reduceCtorEq, decide_true, decide_false, Int.reduceLE, Int.reduceLT, Int.reduceToNat, Int.reduceAdd, Int.reduceSub, Int.reduceMul, Int.reduceEq, hfl, hfl1, hfl2, hfl3, hfl4, hfl5, hfl6, NE, NE9, Nat.add_assoc]
  refine call_of (c _ _) ?_
  simp only [↓R1, R2, R3, R4, TY, reduceIte, Nat.reduceEqDiff, Nat.reduceAdd, Nat.reduceMul, Nat.reduceLT, Nat.reduceLeDiff, reduceCtorEq, decide_true, decide_false, Int.reduceLE, Int.reduceLT, Int.reduceToNat, Int.reduceAdd, Int.reduceSub, Int.reduceMul, Int.reduceEq, hfl, hfl1, hfl2, hfl3, hfl4, hfl5, hfl6, NE, NE9, Nat.add_assoc]
  refine Ended.back hA ?_ rfl (RB.bool _)
  simp (maxDischargeDepth := 20) only [xt_push, xt_put, xt_refl, Nat.le_refl, Nat.le_add_right, Nat.add_assoc, Nat.reduceAdd]

end
end Go.Proofs.YtjkimjmocfjjnaaDoor.Ab
