/- Floating-point numbers: From and To for every sign; BorderNext and BorderOut return true. -/
import Derived.Test.YtipcpehbgomdeaaDoorXg
namespace Go.Proofs.YtipcpehbgomdeaaDoor.Ab
open Go.RowKit
set_option linter.unusedVariables false
set_option linter.unusedSimpArgs false
set_option maxRecDepth 100000

theorem exq_64 : exq 4634204016564240384 = 64 := by
  unfold exq
  rw [if_neg (by decide), if_pos (by decide), show (4634204016564240384 % 4503599627370496 + 4503599627370496 : Nat) = 2 ^ (46 + 6) by decide, show 1075 - 4634204016564240384 / 4503599627370496 = 46 by decide, rOf_nat, ← p2_def, p2_add, p2_def 6]
  have := p2_ne 46
  generalize p2 46 = P at *
  have e : ((2 ^ 6 : Nat) : Rat) = 64 := by decide
  rw [e]
  grind
theorem mx_64 : (64 : Rat) ≤ mx := by
  rw [mx_def, ← exq_64]; exact exq_le (by decide)
theorem Sz.le64 {q : Rat} (h : Sz q 64) : -64 ≤ q ∧ q ≤ 64 := by
  have h1 := h.1
  have h2 : 1 ≤ q.den := Nat.one_le_iff_ne_zero.2 (rat_den_pos q)
  have e1 : (64 : Rat).num = 64 := by decide
  have e2 : (64 : Rat).den = 1 := by decide
  have e3 : (-64 : Rat).num = -64 := by decide
  have e4 : (-64 : Rat).den = 1 := by decide
  constructor
  · rw [Rat.le_iff, e3, e4]; omega
  · rw [Rat.le_iff, e1, e2]; omega
theorem mrat_mx (x : Int) : ¬ mrat x < -mx ∧ ¬ mx < mrat x := by
  have h := (mrat_sz x).le64
  have := mx_64
  grind
theorem made_mx (x y : Int) : ¬ rmin (mrat x) (mrat y) < -mx ∧ ¬ mx < rmax (mrat x) (mrat y) := by
  have h1 := mrat_mx x
  have h2 := mrat_mx y
  constructor
  · unfold rmin; split <;> simp only [h1, h2, not_false_eq_true]
  · unfold rmax; split <;> simp only [h1, h2, not_false_eq_true]

theorem Sound.calls {P : Program} {G : Gl} {f : FuncId} {fn : Func} {args : List Value} {fl : Nat} {A A' : Hp} {v : Value} (hf : P.funcs[f]? = some fn) (hname : (fn.name == "runtime.NumGoroutine") = false) (hb : fn.body.isNone = false) (h : Sound P G f args fl A v A') :
    ∀ (μ : Mu) (w : World) (args' : Array Value), HR G μ fl A w → fl ≤ A.next → VRa μ A args.toArray args' →
    Calls P f args' w fun e w' => ∃ u, e = .returned u ∧ ∃ ν, VR ν A' v u ∧ HR G ν fl A' w' ∧ Trans fl μ A w ν A' w' := by
  intro μ w args' H hfl hargs
  rcases h μ w args' H hfl hargs with ⟨_, hc⟩ | ⟨u, w', hr, _⟩
  · exact hc.mono fun e w' he => he
  · exfalso
    have h1 : fn.name ≠ "runtime.NumGoroutine" := fun e => by rw [e] at hname; simp at hname
    have h2 : fn.body ≠ none := fun e => by rw [e] at hb; simp at hb
    simp [callFunc, hf, h1, h2] at hr

/-! what BorderOut asks -/
theorem blo_neg : blo 0 < 0 := by rw [blo_0]; have := bhi_pos 0; grind
theorem bhi_eq (b : Nat) : bhi b = 1 / 2 * (exq b + exq (b + 1)) := by rw [bhi_def, half_val]
theorem blo_eq {b : Nat} (h : 0 < b) : blo b = 1 / 2 * (exq b + exq (b - 1)) := by rw [blo_pos h, half_val]
theorem out_un {a : Rat} {u : Nat} (h0 : 0 ≤ a) (h : Un a u) (hu : u + 1 < 9218868437227405312) : blo u < a ∧ a - bhi u < bhi u - blo u := by
  have h1 := h.le
  have h2 := h.lt hu
  have h3 := bhi_eq u
  by_cases hz : 0 < u
  · have h4 := blo_eq hz
    have h5 := exq_lt (show u - 1 < u by omega)
    grind
  · obtain rfl : u = 0 := by omega
    have := blo_neg
    rw [exq_zero] at h3
    have := blo_0
    grind
theorem out_ov {a : Rat} {v : Nat} (h0 : 0 ≤ a) (h : Ov a v) : a < bhi v ∧ blo v - a < bhi v - blo v := by
  have h1 := h.le
  have h3 := bhi_eq v
  have h6 := exq_lt (show v < v + 1 by omega)
  by_cases hz : 0 < v
  · have h2 := h.lt hz
    have h4 := blo_eq hz
    have h5 := exq_lt (show v - 1 < v by omega)
    grind
  · obtain rfl : v = 0 := by omega
    have := blo_neg
    have := bhi_pos 0
    grind
theorem out_z {a : Rat} (h0 : a < 0) (h : Un (-a) 0) : a < bhi 0 ∧ blo 0 - a < bhi 0 - blo 0 := by
  have h1 := h.lt (by decide)
  have h2 := bhi_pos 0
  have h3 := bhi_eq 0
  have h4 := blo_0
  rw [exq_zero] at h3
  grind
theorem un_mx {a : Rat} {u : Nat} (h : Un a u) (ha : a ≤ 64) : u + 1 < 9218868437227405312 := by
  have h1 := h.le
  have h2 : ¬ exq 4634204016564240384 < exq u := by rw [exq_64]; grind
  have := mt exq_lt_iff.2 h2
  omega
theorem mrat_64 (x : Int) : -64 ≤ mrat x ∧ mrat x ≤ 64 := by
  exact (mrat_sz x).le64

section
variable {G : Gl} {fl : Nat} {A : Hp}

theorem from_p {n b : Nat} (hG : G 2 = some tabV) (hn : n < 18446744073709551616) (hm : n % 9223372036854775808 = b) (hb : b < 9218868437227405312) (hs : n / 9223372036854775808 = 0) : Sound Tryd.prog G 6 [.int .u64 (n : Nat)] fl A (.tuple [prV (blo b) (bhi b), Value.int .i64 0].toArray) A := by
  by_cases h : 0 < b
  · exact from_00 hG hn hm hb hs h
  · exact from_01 hG hn hm hb hs (by omega)
theorem from_n {n b : Nat} (hG : G 2 = some tabV) (hn : n < 18446744073709551616) (hm : n % 9223372036854775808 = b) (hb : b < 9218868437227405312) (hs : n / 9223372036854775808 = 1) : Sound Tryd.prog G 6 [.int .u64 (n : Nat)] fl A (.tuple [prV (-(bhi b)) (-(blo b)), Value.int .i64 0].toArray) A := by
  by_cases h : 0 < b
  · exact from_10 hG hn hm hb hs h
  · exact from_11 hG hn hm hb hs (by omega)

theorem next_ok {n : Nat} (hG : G 2 = some tabV) (hn : n < 18446744073709551616) : Sound Tryd.prog G 3 [.int .u64 (n : Nat)] fl A (.bool true) A := by
  by_cases h : 9218868437227405312 ≤ n % 9223372036854775808
  · exact next_bad hG hn h
  · have hb : n % 9223372036854775808 < 9218868437227405312 := by omega
    have hs : n / 9223372036854775808 = 0 ∨ n / 9223372036854775808 = 1 := by omega
    by_cases hmx : n % 9223372036854775808 = 9218868437227405311
    · rcases hs with hs | hs
      · exact next_max0 hG hn rfl hb hmx hs
      · exact next_max1 hG hn rfl hb hmx hs
    · have hl : n % 9223372036854775808 + 1 < 9218868437227405312 := by omega
      by_cases h0 : n % 9223372036854775808 = 0
      · rcases hs with hs | hs
        · exact next_zp hG hn rfl hb hl h0 hs
        · exact next_zn hG hn rfl hb hl h0 hs
      · rcases hs with hs | hs
        · exact next_pos hG hn rfl hb hl (by omega) hs
        · by_cases h1 : n % 9223372036854775808 = 1
          · exact next_neg1 hG hn rfl hb hl (by omega) h1 hs
          · exact next_neg hG hn rfl hb hl (by omega) (by omega) hs
set_option maxHeartbeats 2000000 in
theorem out_run {x y : Int} {p q a b c d : Rat} {lo hi : Nat} (hG : G 2 = some tabV) (hp : Rz p 1) (hq : Rz q 1) (hm : ∀ fl A, Sound Tryd.prog G 8 [.int .i64 x, .int .i64 y] fl A (prV p q) A) (to : ∀ fl A, Sound Tryd.prog G 7 [prV p q] fl A (.tuple [Value.int .u64 (lo : Nat), Value.int .u64 (hi : Nat), Value.int .i64 0].toArray) A) (f1 : ∀ fl A, Sound Tryd.prog G 6 [.int .u64 (lo : Nat)] fl A (.tuple [prV a b, Value.int .i64 0].toArray) A) (f2 : ∀ fl A, Sound Tryd.prog G 6 [.int .u64 (hi : Nat)] fl A (.tuple [prV c d, Value.int .i64 0].toArray) A) (ra : Rz a 303) (rb : Rz b 303) (rc : Rz c 303) (rd : Rz d 303) (i1 : a < p) (i2 : q < d) (i3 : p - b < b - a) (i4 : c - q < d - c) : Sound Tryd.prog G 4 [.int .i64 x, .int .i64 y] fl A (.bool true) A := by
  refine Sound.of mixed Tryd.func4 Tryd.ntmps4 Tryd.results4 (by kernel_rfl) rfl (by kernel_rfl) (by simp) fun hA => ?_
  have hfl : fl ≤ A.next := by have := hA.floor; omega
  have hfl1 : fl ≤ A.next + 1 := by have := hA.floor; omega
  have hfl2 : fl ≤ A.next + 2 := by have := hA.floor; omega
  have hfl3 : fl ≤ A.next + 3 := by have := hA.floor; omega
  have hfl4 : fl ≤ A.next + 4 := by have := hA.floor; omega
  have hfl5 : fl ≤ A.next + 5 := by have := hA.floor; omega
  have hfl6 : fl ≤ A.next + 6 := by have := hA.floor; omega
  have bg := fun fl A => borderBegun_ok (G := G) (fl := fl) (A := A) hG
  have c1 := fun fl A => qcmp (G := G) (fl := fl) (A := A) hG ra hp (by decide)
  have c2 := fun fl A => qcmp (G := G) (fl := fl) (A := A) hG rd hq (by decide)
  have s1 := fun fl A => qsub (G := G) (fl := fl) (A := A) hG hp rb (by decide)
  have s2 := fun fl A => qsub (G := G) (fl := fl) (A := A) hG rb ra (by decide)
  have c3 := fun fl A => qcmp (G := G) (fl := fl) (A := A) hG (hp.sub rb) (rb.sub ra) (by decide)
  have s3 := fun fl A => qsub (G := G) (fl := fl) (A := A) hG rc hq (by decide)
  have s4 := fun fl A => qsub (G := G) (fl := fl) (A := A) hG rd rc (by decide)
  have c4 := fun fl A => qcmp (G := G) (fl := fl) (A := A) hG (rc.sub hq) (rd.sub rc) (by decide)
  have j1 : (rcmp a p < 0) = True := eq_true (rcmp_lt_iff.2 i1)
  have j2 : (0 < rcmp d q) = True := eq_true (rcmp_gt.2 i2)
  have j3 : (rcmp (p - b) (b - a) < 0) = True := eq_true (rcmp_lt_iff.2 i3)
  have j4 : (rcmp (c - q) (d - c) < 0) = True := eq_true (rcmp_lt_iff.2 i4)
  have hm := hm
  have to := to
  have f1 := f1
  have f2 := f2
  simp only [prV_def] at hm to f1 f2
  simp only [ratV_def] at c1 c2 s1 s2 c3 s3 s4 c4
  simp only [↓R1, R2, R3, R4, TY, reduceIte, Nat.reduceEqDiff, Nat.reduceAdd, Nat.reduceMul, Nat.reduceLT, Nat.reduceLeDiff, reduceCtorEq, decide_true, decide_false, Int.reduceLE, Int.reduceLT, Int.reduceToNat, Int.reduceAdd, Int.reduceSub, Int.reduceMul, Int.reduceEq, hfl, hfl1, hfl2, hfl3, hfl4, hfl5, hfl6, NE, NE9, Nat.add_assoc, j1, j2, j3, j4]
  refine call_of (bg _ _) ?_
  simp only [↓R1, R2, R3, R4, TY, reduceIte, Nat.reduceEqDiff, Nat.reduceAdd, Nat.reduceMul, Nat.reduceLT, Nat.reduceLeDiff, reduceCtorEq, decide_true, decide_false, Int.reduceLE, Int.reduceLT, Int.reduceToNat, Int.reduceAdd, Int.reduceSub, Int.reduceMul, Int.reduceEq, hfl, hfl1, hfl2, hfl3, hfl4, hfl5, hfl6, NE, NE9, Nat.add_assoc, j1, j2, j3, j4]
  refine call_of (hm _ _) ?_
  simp only [↓R1, R2, R3, R4, TY, reduceIte, Nat.reduceEqDiff, Nat.reduceAdd, Nat.reduceMul, Nat.reduceLT, Nat.reduceLeDiff, reduceCtorEq, decide_true, decide_false, Int.reduceLE, Int.reduceLT, Int.reduceToNat, Int.reduceAdd, Int.reduceSub, Int.reduceMul, Int.reduceEq, hfl, hfl1, hfl2, hfl3, hfl4, hfl5, hfl6, NE, NE9, Nat.add_assoc, j1, j2, j3, j4]
  refine call_of (to _ _) ?_
  simp only [↓R1, R2, R3, R4, TY, reduceIte, Nat.reduceEqDiff, Nat.reduceAdd, Nat.reduceMul, Nat.reduceLT, Nat.reduceLeDiff, reduceCtorEq, decide_true, decide_false, Int.reduceLE, Int.reduceLT, Int.reduceToNat, Int.reduceAdd, Int.reduceSub, Int.reduceMul, Int.reduceEq, hfl, hfl1, hfl2, hfl3, hfl4, hfl5, hfl6, NE, NE9, Nat.add_assoc, j1, j2, j3, j4]
  refine call_of (f1 _ _) ?_
  simp only [↓R1, R2, R3, R4, TY, reduceIte, Nat.reduceEqDiff, Nat.reduceAdd, Nat.reduceMul, Nat.reduceLT, Nat.reduceLeDiff, reduceCtorEq, decide_true, decide_false, Int.reduceLE, Int.reduceLT, Int.reduceToNat, Int.reduceAdd, Int.reduceSub, Int.reduceMul, Int.reduceEq, hfl, hfl1, hfl2, hfl3, hfl4, hfl5, hfl6, NE, NE9, Nat.add_assoc, j1, j2, j3, j4]
  refine call_of (f2 _ _) ?_
  simp only [↓R1, R2, R3, R4, TY, reduceIte, Nat.reduceEqDiff, Nat.reduceAdd, Nat.reduceMul, Nat.reduceLT, Nat.reduceLeDiff, reduceCtorEq, decide_true, decide_false, Int.reduceLE, Int.reduceLT, Int.reduceToNat, Int.reduceAdd, Int.reduceSub, Int.reduceMul, Int.reduceEq, hfl, hfl1, hfl2, hfl3, hfl4, hfl5, hfl6, NE, NE9, Nat.add_assoc, j1, j2, j3, j4]
  refine call_of (c1 _ _) ?_
  simp only [↓R1, R2, R3, R4, TY, reduceIte, Nat.reduceEqDiff, Nat.reduceAdd, Nat.reduceMul, Nat.reduceLT, Nat.reduceLeDiff, reduceCtorEq, decide_true, decide_false, Int.reduceLE, Int.reduceLT, Int.reduceToNat, Int.reduceAdd, Int.reduceSub, Int.reduceMul, Int.reduceEq, hfl, hfl1, hfl2, hfl3, hfl4, hfl5, hfl6, NE, NE9, Nat.add_assoc, j1, j2, j3, j4]
  refine call_of (c2 _ _) ?_
  simp only [↓R1, R2, R3, R4, TY, reduceIte, Nat.reduceEqDiff, Nat.reduceAdd, Nat.reduceMul, Nat.reduceLT, Nat.reduceLeDiff, reduceCtorEq, decide_true, decide_false, Int.reduceLE, Int.reduceLT, Int.reduceToNat, Int.reduceAdd, Int.reduceSub, Int.reduceMul, Int.reduceEq, hfl, hfl1, hfl2, hfl3, hfl4, hfl5, hfl6, NE, NE9, Nat.add_assoc, j1, j2, j3, j4]
  refine call_of (s1 _ _) ?_
  simp only [↓R1, R2, R3, R4, TY, reduceIte, Nat.reduceEqDiff, Nat.reduceAdd, Nat.reduceMul, Nat.reduceLT, Nat.reduceLeDiff, reduceCtorEq, decide_true, decide_false, Int.reduceLE, Int.reduceLT, Int.reduceToNat, Int.reduceAdd, Int.reduceSub, Int.reduceMul, Int.reduceEq, hfl, hfl1, hfl2, hfl3, hfl4, hfl5, hfl6, NE, NE9, Nat.add_assoc, j1, j2, j3, j4]
  refine call_of (s2 _ _) ?_
  simp only [↓R1, R2, R3, R4, TY, reduceIte, Nat.reduceEqDiff, Nat.reduceAdd, Nat.reduceMul, Nat.reduceLT, Nat.reduceLeDiff, reduceCtorEq, decide_true, decide_false, Int.reduceLE, Int.reduceLT, Int.reduceToNat, Int.reduceAdd, Int.reduceSub, Int.reduceMul, Int.reduceEq, hfl, hfl1, hfl2, hfl3, hfl4, hfl5, hfl6, NE, NE9, Nat.add_assoc, j1, j2, j3, j4]
  refine call_of (c3 _ _) ?_
  simp only [↓R1, R2, R3, R4, TY, reduceIte, Nat.reduceEqDiff, Nat.reduceAdd, Nat.reduceMul, Nat.reduceLT, Nat.reduceLeDiff, reduceCtorEq, decide_true, decide_false, Int.reduceLE, Int.reduceLT, Int.reduceToNat, Int.reduceAdd, Int.reduceSub, Int.reduceMul, Int.reduceEq, hfl, hfl1, hfl2, hfl3, hfl4, hfl5, hfl6, NE, NE9, Nat.add_assoc, j1, j2, j3, j4]
  refine call_of (s3 _ _) ?_
  simp only [↓R1, R2, R3, R4, TY, reduceIte, Nat.reduceEqDiff, Nat.reduceAdd, Nat.reduceMul, Nat.reduceLT, Nat.reduceLeDiff, reduceCtorEq, decide_true, decide_false, Int.reduceLE, Int.reduceLT, Int.reduceToNat, Int.reduceAdd, Int.reduceSub, Int.reduceMul, Int.reduceEq, hfl, hfl1, hfl2, hfl3, hfl4, hfl5, hfl6, NE, NE9, Nat.add_assoc, j1, j2, j3, j4]
  refine call_of (s4 _ _) ?_
  simp only [↓R1, R2, R3, R4, TY, reduceIte, Nat.reduceEqDiff, Nat.reduceAdd, Nat.reduceMul, Nat.reduceLT, Nat.reduceLeDiff, reduceCtorEq, decide_true, decide_false, Int.reduceLE, Int.reduceLT, Int.reduceToNat, Int.reduceAdd, Int.reduceSub, Int.reduceMul, Int.reduceEq, hfl, hfl1, hfl2, hfl3, hfl4, hfl5, hfl6, NE, NE9, Nat.add_assoc, j1, j2, j3, j4]
  refine call_of (c4 _ _) ?_
  simp only [↓R1, R2, R3, R4, TY, reduceIte, Nat.reduceEqDiff, Nat.reduceAdd, Nat.reduceMul, Nat.reduceLT, Nat.reduceLeDiff, reduceCtorEq, decide_true, decide_false, Int.reduceLE, Int.reduceLT, Int.reduceToNat, Int.reduceAdd, Int.reduceSub, Int.reduceMul, Int.reduceEq, hfl, hfl1, hfl2, hfl3, hfl4, hfl5, hfl6, NE, NE9, Nat.add_assoc, j1, j2, j3, j4]
  refine Ended.back hA ?_ rfl (RB.bool _)
  simp (maxDischargeDepth := 20) only [xt_push, xt_put, xt_refl, Nat.le_refl, Nat.le_add_right, Nat.add_assoc, Nat.reduceAdd]

theorem out_ok {x y : Int} (hG : G 2 = some tabV) (kx : -9223372036854775808 ≤ x ∧ x ≤ 9223372036854775807) (ky : -9223372036854775808 ≤ y ∧ y ≤ 9223372036854775807) : Sound Tryd.prog G 4 [.int .i64 x, .int .i64 y] fl A (.bool true) A := by
  have hm := fun fl A => made_span (G := G) (fl := fl) (A := A) hG kx ky
  have hs := made_sp x y
  obtain ⟨m1, m2⟩ := made_mx x y
  have hq9 : rmax (mrat x) (mrat y) ≤ 64 ∧ -64 ≤ rmin (mrat x) (mrat y) := by
    have h1 := mrat_64 x
    have h2 := mrat_64 y
    constructor
    · unfold rmax; split <;> grind
    · unfold rmin; split <;> grind
  generalize rmin (mrat x) (mrat y) = p at *
  generalize rmax (mrat x) (mrat y) = q at *
  have hpq := hs.le
  obtain ⟨hp9, hq9⟩ := hq9
  have m64 := mx_64
  have ez : rOf 0 = 0 := by rw [rOf_eq]; rfl
  by_cases g1 : p < 0
  · obtain ⟨u1, hu1⟩ := un_ex (a := -p) (by grind)
    obtain ⟨v1, hv1⟩ := ov_ex (a := -p) (by grind) (by rw [← mx_def]; grind)
    have hv1b := hv1.1
    have hp0 : rmax p (rOf 0) = 0 := by rw [rmax_zero]; grind
    have e1 := out_ov (by grind) hv1
    have f1 := fun fl A => from_n (G := G) (fl := fl) (A := A) (n := v1 + 9223372036854775808) (b := v1) hG (by omega) (by omega) hv1b (by omega)
    by_cases g2 : q < 0
    · obtain ⟨u2, hu2⟩ := un_ex (a := -q) (by grind)
      have hu2b := un_mx hu2 (by grind)
      have hq0 : rmax q (rOf 0) = 0 := by rw [rmax_zero]; grind
      by_cases h0 : 0 < u2
      · have to := fun fl A => to_nn0 (G := G) (fl := fl) (A := A) hG hs.low hs.high (by decide) hpq m1 m2 (hp0.symm ▸ un_zero) (hq0.symm ▸ ov_zero) (hq0.symm ▸ un_zero) g1 g2 hu1 hv1 hu2 h0
        have f2 := fun fl A => from_n (G := G) (fl := fl) (A := A) (n := u2 + 9223372036854775808) (b := u2) hG (by omega) (by omega) hu2.1 (by omega)
        have e2 := out_un (by grind) hu2 hu2b
        exact out_run hG hs.low hs.high hm to f1 f2 (bhi_rz hv1b).neg (blo_rz hv1b).neg (bhi_rz hu2.1).neg (blo_rz hu2.1).neg (by grind) (by grind) (by grind) (by grind)
      · obtain rfl : u2 = 0 := by omega
        have to := fun fl A => to_nn1 (G := G) (fl := fl) (A := A) hG hs.low hs.high (by decide) hpq m1 m2 (hp0.symm ▸ un_zero) (hq0.symm ▸ ov_zero) (hq0.symm ▸ un_zero) g1 g2 hu1 hv1 hu2 rfl
        have f2 := fun fl A => from_p (G := G) (fl := fl) (A := A) (n := 0) (b := 0) hG (by decide) rfl (by decide) rfl
        have e2 := out_z g2 hu2
        exact out_run hG hs.low hs.high hm to f1 f2 (bhi_rz hv1b).neg (blo_rz hv1b).neg (blo_rz hu2.1) (bhi_rz hu2.1) (by grind) (by grind) (by grind) (by grind)
    · have hq0 : rmax q (rOf 0) = q := by rw [rmax_zero]; grind
      obtain ⟨v, hv⟩ := ov_ex (a := q) (by grind) (by rw [← mx_def]; grind)
      obtain ⟨v', hv'⟩ := un_ex (a := q) (by grind)
      have to := fun fl A => to_np (G := G) (fl := fl) (A := A) hG hs.low hs.high (by decide) hpq m1 m2 (hp0.symm ▸ un_zero) (hq0.symm ▸ hv) (hq0.symm ▸ hv') g1 g2 hu1 hv1
      have f2 := fun fl A => from_p (G := G) (fl := fl) (A := A) (n := v) (b := v) hG (by have := hv.1; omega) (by have := hv.1; omega) hv.1 (by have := hv.1; omega)
      have e2 := out_ov (by grind) hv
      exact out_run hG hs.low hs.high hm to f1 f2 (bhi_rz hv1b).neg (blo_rz hv1b).neg (blo_rz hv.1) (bhi_rz hv.1) (by grind) (by grind) (by grind) (by grind)
  · have g2 : ¬ q < 0 := by grind
    have hp0 : rmax p (rOf 0) = p := by rw [rmax_zero]; grind
    have hq0 : rmax q (rOf 0) = q := by rw [rmax_zero]; grind
    obtain ⟨u, hu⟩ := un_ex (a := p) (by grind)
    obtain ⟨v, hv⟩ := ov_ex (a := q) (by grind) (by rw [← mx_def]; grind)
    obtain ⟨v', hv'⟩ := un_ex (a := q) (by grind)
    have hub := un_mx hu (by grind)
    have to := fun fl A => to_pp (G := G) (fl := fl) (A := A) hG hs.low hs.high (by decide) hpq m1 m2 (hp0.symm ▸ hu) (hq0.symm ▸ hv) (hq0.symm ▸ hv') g1 g2
    have f1 := fun fl A => from_p (G := G) (fl := fl) (A := A) (n := u) (b := u) hG (by omega) (by omega) hu.1 (by omega)
    have f2 := fun fl A => from_p (G := G) (fl := fl) (A := A) (n := v) (b := v) hG (by have := hv.1; omega) (by have := hv.1; omega) hv.1 (by have := hv.1; omega)
    have e1 := out_un (by grind) hu hub
    have e2 := out_ov (by grind) hv
    exact out_run hG hs.low hs.high hm to f1 f2 (blo_rz hu.1) (bhi_rz hu.1) (blo_rz hv.1) (bhi_rz hv.1) (by grind) (by grind) (by grind) (by grind)
theorem borderNext_calls {x1 : Int} (hG : G 2 = some tabV) (k1 : 0 ≤ x1 ∧ x1 ≤ 18446744073709551615) :
    ∀ (μ : Mu) (w : World) (args' : Array Value), HR G μ fl A w → fl ≤ A.next → VRa μ A [.int .u64 x1].toArray args' →
    Calls Tryd.prog 3 args' w fun e w' => ∃ u, e = .returned u ∧ ∃ ν, VR ν A (.bool true) u ∧ HR G ν fl A w' ∧ Trans fl μ A w ν A w' := by
  obtain ⟨n, rfl⟩ := Int.eq_ofNat_of_zero_le k1.1
  exact Sound.calls Tryd.func3 (by kernel_rfl) (by kernel_rfl) (next_ok hG (by omega))
theorem borderOut_calls {x1 x2 : Int} (hG : G 2 = some tabV) (k1 : -9223372036854775808 ≤ x1 ∧ x1 ≤ 9223372036854775807) (k2 : -9223372036854775808 ≤ x2 ∧ x2 ≤ 9223372036854775807) :
    ∀ (μ : Mu) (w : World) (args' : Array Value), HR G μ fl A w → fl ≤ A.next → VRa μ A [.int .i64 x1, .int .i64 x2].toArray args' →
    Calls Tryd.prog 4 args' w fun e w' => ∃ u, e = .returned u ∧ ∃ ν, VR ν A (.bool true) u ∧ HR G ν fl A w' ∧ Trans fl μ A w ν A w' :=
  Sound.calls Tryd.func4 (by kernel_rfl) (by kernel_rfl) (out_ok hG k1 k2)

end
end Go.Proofs.YtipcpehbgomdeaaDoor.Ab
