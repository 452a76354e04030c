/- The ends of results are reached. -/
import Derived.Test.YtincjhklpgfkgaaDoorVo
namespace Go.Proofs.YtincjhklpgfkgaaDoor.Ab
open Go.RowKit
set_option linter.unusedVariables false
set_option linter.unusedSimpArgs false
set_option maxRecDepth 100000

theorem rup_up (q : Rat) {d : Nat} (h : 0 < d) : rup (rup q d) d = rup q d := by
  have e : -(-rdown (-q) d) = rdown (-q) d := Rat.neg_neg _
  unfold rup
  rw [e, rdown_down _ h]
/-- The products of the ends. -/
def ek (a b c d : Rat) (k : Nat) : Rat := if k = 0 then a * c else if k = 1 then a * d else if k = 2 then b * c else b * d
def hit (a b c d z : Rat) (i : Nat) (p : Bool) : Prop := ∀ k, k < i → ek a b c d k = z → p = true
theorem hit_step {a b c d z : Rat} {i : Nat} {p : Bool} (h : hit a b c d z i p) : hit a b c d z (i + 1) (p || decide (ek a b c d i = z)) := fun k hk e => by
  by_cases hi : k < i
  · rw [h k hi e]; rfl
  · obtain rfl : k = i := by omega
    rw [decide_eq_true e, Bool.or_true]
theorem hit_lo {a b c d : Rat} {p : Bool} (h : hit a b c d (smlo a b c d) 4 p) : p = true := by
  have h0 := h 0 (by omega)
  have h1 := h 1 (by omega)
  have h2 := h 2 (by omega)
  have h3 := h 3 (by omega)
  simp only [ek, if_true, show (1 : Nat) ≠ 0 from by omega, show (2 : Nat) ≠ 0 from by omega, show (3 : Nat) ≠ 0 from by omega, show (2 : Nat) ≠ 1 from by omega, show (3 : Nat) ≠ 1 from by omega, show (3 : Nat) ≠ 2 from by omega, if_false] at h0 h1 h2 h3
  unfold smlo at *
  simp only [rmin_def] at *
  grind
theorem hit_hi {a b c d : Rat} {p : Bool} (h : hit a b c d (smhi a b c d) 4 p) : p = true := by
  have h0 := h 0 (by omega)
  have h1 := h 1 (by omega)
  have h2 := h 2 (by omega)
  have h3 := h 3 (by omega)
  simp only [ek, if_true, show (1 : Nat) ≠ 0 from by omega, show (2 : Nat) ≠ 0 from by omega, show (3 : Nat) ≠ 0 from by omega, show (2 : Nat) ≠ 1 from by omega, show (3 : Nat) ≠ 1 from by omega, show (3 : Nat) ≠ 2 from by omega, if_false] at h0 h1 h2 h3
  unfold smhi at *
  simp only [rmax_def] at *
  grind

section
variable {G : Gl} {fl : Nat} {A : Hp}

set_option maxHeartbeats 16000000 in
theorem spanSharp_calls {x1 x2 x3 x4 x5 : Int} (hG : G 2 = some tabV) (k1 : -9223372036854775808 ≤ x1 ∧ x1 ≤ 9223372036854775807) (k2 : -9223372036854775808 ≤ x2 ∧ x2 ≤ 9223372036854775807) (k3 : -9223372036854775808 ≤ x3 ∧ x3 ≤ 9223372036854775807) (k4 : -9223372036854775808 ≤ x4 ∧ x4 ≤ 9223372036854775807) (k5 : -9223372036854775808 ≤ x5 ∧ x5 ≤ 9223372036854775807) :
    ∀ (μ : Mu) (w : World) (args' : Array Value), HR G μ fl A w → fl ≤ A.next → VRa μ A [.int .i64 x1, .int .i64 x2, .int .i64 x3, .int .i64 x4, .int .i64 x5].toArray args' →
    Calls Tryd.prog 4 args' w fun e w' => ∃ u, e = .returned u ∧ ∃ ν, VR ν A (.bool true) u ∧ HR G ν fl A w' ∧ Trans fl μ A w ν A w' := by
  refine calls_of mixed Tryd.func4 Tryd.ntmps4 Tryd.results4 (by kernel_rfl) rfl (by kernel_rfl) (by simp) fun hA => ?_
  have hfl : fl ≤ A.next := by have := hA.floor; omega
  have hfl1 : fl ≤ A.next + 1 := by have := hA.floor; omega
  have hfl2 : fl ≤ A.next + 2 := by have := hA.floor; omega
  have hfl3 : fl ≤ A.next + 3 := by have := hA.floor; omega
  have hfl4 : fl ≤ A.next + 4 := by have := hA.floor; omega
  have hfl5 : fl ≤ A.next + 5 := by have := hA.floor; omega
  have hfl6 : fl ≤ A.next + 6 := by have := hA.floor; omega
  have hfl7 : fl ≤ A.next + 7 := by have := hA.floor; omega
  have hfl8 : fl ≤ A.next + 8 := by have := hA.floor; omega
  have hfl9 : fl ≤ A.next + 9 := by have := hA.floor; omega
  have hfl10 : fl ≤ A.next + 10 := by have := hA.floor; omega
  have hfl11 : fl ≤ A.next + 11 := by have := hA.floor; omega
  have bg := fun fl A => spanBegun_ok (G := G) (fl := fl) (A := A) hG
  have m1 := fun fl A => made_span (G := G) (fl := fl) (A := A) hG k1 k2
  have m2 := fun fl A => made_span (G := G) (fl := fl) (A := A) hG k3 k4
  have hs := made_sp x1 x2
  have ht := made_sp x3 x4
  generalize rmin (mrat x1) (mrat x2) = a at *
  generalize rmax (mrat x1) (mrat x2) = b at *
  generalize rmin (mrat x3) (mrat x4) = c at *
  generalize rmax (mrat x3) (mrat x4) = d at *
  have b1 := fun fl A => below_ok (G := G) (fl := fl) (A := A) (x := x5) (n := 30) (by omega) (by omega) k5.1 k5.2
  have hbr := below_range (x := x5) (n := 30) (by omega)
  generalize below x5 30 = bl5 at *
  have w1 : IntKind.i64.wrap (1 + bl5) = 1 + bl5 := wrapI (by omega)
  obtain ⟨D, hD⟩ : ∃ D : Nat, (D : Int) = 1 + bl5 := ⟨(1 + bl5).toNat, by omega⟩
  rw [← hD] at w1
  have w2 : 1 + bl5 = (D : Int) := hD.symm
  have hD0 : 0 < D := by omega
  have hD1 : D ≤ 30 := by omega
  clear hD
  have sm := fun fl A => sadd (G := G) (fl := fl) (A := A) hG hs ht (by omega)
  have sb := fun fl A => ssub (G := G) (fl := fl) (A := A) hG hs ht (by omega)
  have so := fun fl A => sout (G := G) (fl := fl) (A := A) hG hs hD0 (by omega) (by omega)
  have o1 := fun fl A => qmul (G := G) (fl := fl) (A := A) hG hs.low ht.low (by omega)
  have o2 := fun fl A => qmul (G := G) (fl := fl) (A := A) hG hs.low ht.high (by omega)
  have o3 := fun fl A => qmul (G := G) (fl := fl) (A := A) hG hs.high ht.low (by omega)
  have o4 := fun fl A => qmul (G := G) (fl := fl) (A := A) hG hs.high ht.high (by omega)
  have sp := fun fl A => smul (G := G) (fl := fl) (A := A) hG hs ht (by omega)
  have nu := fun fl A => num_ok (G := G) (fl := fl) (A := A) (m := 1) (n := (D : Int)) hG (by omega) (by omega) (by omega) (by omega) (by omega)
  have znu := num_rz (m := 1) (n := (D : Int)) (by omega) (by omega) (by omega) (by omega) (by omega)
  have q1' := fun fl A => qadd (G := G) (fl := fl) (A := A) hG hs.low ht.low (by omega)
  have q2' := fun fl A => qadd (G := G) (fl := fl) (A := A) hG hs.high ht.high (by omega)
  have q3' := fun fl A => qsub (G := G) (fl := fl) (A := A) hG hs.low ht.high (by omega)
  have zd := hs.low.down (d := D) (by omega)
  have zu := hs.high.up (d := D) (by omega)
  have q4' := fun fl A => qsub (G := G) (fl := fl) (A := A) hG hs.low zd (by omega)
  have q5' := fun fl A => qcmp (G := G) (fl := fl) (A := A) hG (hs.low.sub zd) znu (by omega)
  have q6' := fun fl A => qsub (G := G) (fl := fl) (A := A) hG zu hs.high (by omega)
  have q7' := fun fl A => qcmp (G := G) (fl := fl) (A := A) hG (zu.sub hs.high) znu (by omega)
  have so2 := fun fl A => sout (G := G) (fl := fl) (A := A) hG (hs.out hD0 (by omega)) hD0 (by omega) (by omega)
  have c1 : rcmp (a - rdown a D) (((1 : Int) : Rat) / ((D : Int) : Rat)) = -1 := by
    refine rcmp_lt ?_
    have := rdown_lt a hD0
    rw [rOf_div] at this
    generalize ((1 : Int) : Rat) / ((D : Int) : Rat) = t at *
    grind
  have c2 : rcmp (rup b D - b) (((1 : Int) : Rat) / ((D : Int) : Rat)) = -1 := by
    refine rcmp_lt ?_
    have := rup_lt b hD0
    rw [rOf_div] at this
    generalize ((1 : Int) : Rat) / ((D : Int) : Rat) = t at *
    grind
  rw [c1] at q5'
  rw [c2] at q7'
  rw [rdown_down a hD0, rup_up b hD0] at so2
  generalize ((1 : Int) : Rat) / ((D : Int) : Rat) = unit at *
  have e1 := eqD_rat (a + c) (a + c)
  have e2 := eqD_rat (b + d) (b + d)
  have e3 := eqD_rat (a - d) (a - d)
  have e4 := eqD_span (rdown a D) (rup b D) (rdown a D) (rup b D)
  have el : ∀ z, eqD Tryd.prog 20 24 (ratV z) (ratV (smlo a b c d)) = some (decide (z = smlo a b c d)) := fun z => eqD_rat z _
  have eh : ∀ z, eqD Tryd.prog 20 24 (ratV z) (ratV (smhi a b c d)) = some (decide (z = smhi a b c d)) := fun z => eqD_rat z _
  simp only [decide_true, Bool.and_self] at e1 e2 e3 e4
  have hlo : ∀ p, hit a b c d (smlo a b c d) 4 p → p = true := fun p h => hit_lo h
  have hhi : ∀ p, hit a b c d (smhi a b c d) 4 p → p = true := fun p h => hit_hi h
  generalize smlo a b c d = lo at *
  generalize smhi a b c d = hi at *
  simp only [ratV_def, prV_def] at m1 m2 sm sb so o1 o2 o3 o4 sp nu q1' q2' q3' q4' q5' q6' q7' so2 e1 e2 e3 e4 el eh
  have fin : ∀ (x : Bool) (C : Hp), Xt A.next A C → x = true → Ended A (.bool x) C (.bool true) A := fun x C hC hx => Ended.back hA hC (congrArg _ hx) (RB.bool _)
  simp only [↓R1, R2, R3, R4, TY, reduceIte, Nat.reduceEqDiff, Nat.reduceAdd, Nat.reduceMul, Nat.reduceLT, Nat.reduceLeDiff, reduceCtorEq, decide_true, decide_false, Int.reduceLE, Int.reduceLT, Int.reduceToNat, Int.reduceAdd, Int.reduceSub, Int.reduceMul, Int.reduceEq, hfl, hfl1, hfl2, hfl3, hfl4, hfl5, hfl6, NE, NE9, Nat.add_assoc, hfl7, hfl8, hfl9, hfl10, hfl11, w1, w2, guard_rat, guard_span, e1, e2, e3, e4, beq_self_eq_true, Bool.and_true, append_eq, List.cons_append, List.nil_append, zl_len, List.length_set]
  refine call_of (bg _ _) ?_
  simp only [↓R1, R2, R3, R4, TY, reduceIte, Nat.reduceEqDiff, Nat.reduceAdd, Nat.reduceMul, Nat.reduceLT, Nat.reduceLeDiff, reduceCtorEq, decide_true, decide_false, Int.reduceLE, Int.reduceLT, Int.reduceToNat, Int.reduceAdd, Int.reduceSub, Int.reduceMul, Int.reduceEq, hfl, hfl1, hfl2, hfl3, hfl4, hfl5, hfl6, NE, NE9, Nat.add_assoc, hfl7, hfl8, hfl9, hfl10, hfl11, w1, w2, guard_rat, guard_span, e1, e2, e3, e4, beq_self_eq_true, Bool.and_true, append_eq, List.cons_append, List.nil_append, zl_len, List.length_set]
  refine call_of (m1 _ _) ?_
  simp only [↓R1, R2, R3, R4, TY, reduceIte, Nat.reduceEqDiff, Nat.reduceAdd, Nat.reduceMul, Nat.reduceLT, Nat.reduceLeDiff, reduceCtorEq, decide_true, decide_false, Int.reduceLE, Int.reduceLT, Int.reduceToNat, Int.reduceAdd, Int.reduceSub, Int.reduceMul, Int.reduceEq, hfl, hfl1, hfl2, hfl3, hfl4, hfl5, hfl6, NE, NE9, Nat.add_assoc, hfl7, hfl8, hfl9, hfl10, hfl11, w1, w2, guard_rat, guard_span, e1, e2, e3, e4, beq_self_eq_true, Bool.and_true, append_eq, List.cons_append, List.nil_append, zl_len, List.length_set]
  refine call_of (m2 _ _) ?_
  simp only [↓R1, R2, R3, R4, TY, reduceIte, Nat.reduceEqDiff, Nat.reduceAdd, Nat.reduceMul, Nat.reduceLT, Nat.reduceLeDiff, reduceCtorEq, decide_true, decide_false, Int.reduceLE, Int.reduceLT, Int.reduceToNat, Int.reduceAdd, Int.reduceSub, Int.reduceMul, Int.reduceEq, hfl, hfl1, hfl2, hfl3, hfl4, hfl5, hfl6, NE, NE9, Nat.add_assoc, hfl7, hfl8, hfl9, hfl10, hfl11, w1, w2, guard_rat, guard_span, e1, e2, e3, e4, beq_self_eq_true, Bool.and_true, append_eq, List.cons_append, List.nil_append, zl_len, List.length_set]
  refine call_of (b1 _ _) ?_
  simp only [↓R1, R2, R3, R4, TY, reduceIte, Nat.reduceEqDiff, Nat.reduceAdd, Nat.reduceMul, Nat.reduceLT, Nat.reduceLeDiff, reduceCtorEq, decide_true, decide_false, Int.reduceLE, Int.reduceLT, Int.reduceToNat, Int.reduceAdd, Int.reduceSub, Int.reduceMul, Int.reduceEq, hfl, hfl1, hfl2, hfl3, hfl4, hfl5, hfl6, NE, NE9, Nat.add_assoc, hfl7, hfl8, hfl9, hfl10, hfl11, w1, w2, guard_rat, guard_span, e1, e2, e3, e4, beq_self_eq_true, Bool.and_true, append_eq, List.cons_append, List.nil_append, zl_len, List.length_set]
  refine call_of (sm _ _) ?_
  simp only [↓R1, R2, R3, R4, TY, reduceIte, Nat.reduceEqDiff, Nat.reduceAdd, Nat.reduceMul, Nat.reduceLT, Nat.reduceLeDiff, reduceCtorEq, decide_true, decide_false, Int.reduceLE, Int.reduceLT, Int.reduceToNat, Int.reduceAdd, Int.reduceSub, Int.reduceMul, Int.reduceEq, hfl, hfl1, hfl2, hfl3, hfl4, hfl5, hfl6, NE, NE9, Nat.add_assoc, hfl7, hfl8, hfl9, hfl10, hfl11, w1, w2, guard_rat, guard_span, e1, e2, e3, e4, beq_self_eq_true, Bool.and_true, append_eq, List.cons_append, List.nil_append, zl_len, List.length_set]
  refine call_of (sb _ _) ?_
  simp only [↓R1, R2, R3, R4, TY, reduceIte, Nat.reduceEqDiff, Nat.reduceAdd, Nat.reduceMul, Nat.reduceLT, Nat.reduceLeDiff, reduceCtorEq, decide_true, decide_false, Int.reduceLE, Int.reduceLT, Int.reduceToNat, Int.reduceAdd, Int.reduceSub, Int.reduceMul, Int.reduceEq, hfl, hfl1, hfl2, hfl3, hfl4, hfl5, hfl6, NE, NE9, Nat.add_assoc, hfl7, hfl8, hfl9, hfl10, hfl11, w1, w2, guard_rat, guard_span, e1, e2, e3, e4, beq_self_eq_true, Bool.and_true, append_eq, List.cons_append, List.nil_append, zl_len, List.length_set]
  refine call_of (so _ _) ?_
  simp only [↓R1, R2, R3, R4, TY, reduceIte, Nat.reduceEqDiff, Nat.reduceAdd, Nat.reduceMul, Nat.reduceLT, Nat.reduceLeDiff, reduceCtorEq, decide_true, decide_false, Int.reduceLE, Int.reduceLT, Int.reduceToNat, Int.reduceAdd, Int.reduceSub, Int.reduceMul, Int.reduceEq, hfl, hfl1, hfl2, hfl3, hfl4, hfl5, hfl6, NE, NE9, Nat.add_assoc, hfl7, hfl8, hfl9, hfl10, hfl11, w1, w2, guard_rat, guard_span, e1, e2, e3, e4, beq_self_eq_true, Bool.and_true, append_eq, List.cons_append, List.nil_append, zl_len, List.length_set]
  rw [floOf_wr (by kernel_rfl)]
  simp only [↓R1, R2, R3, R4, TY, reduceIte, Nat.reduceEqDiff, Nat.reduceAdd, Nat.reduceMul, Nat.reduceLT, Nat.reduceLeDiff, reduceCtorEq, decide_true, decide_false, Int.reduceLE, Int.reduceLT, Int.reduceToNat, Int.reduceAdd, Int.reduceSub, Int.reduceMul, Int.reduceEq, hfl, hfl1, hfl2, hfl3, hfl4, hfl5, hfl6, NE, NE9, Nat.add_assoc, hfl7, hfl8, hfl9, hfl10, hfl11, w1, w2, guard_rat, guard_span, e1, e2, e3, e4, beq_self_eq_true, Bool.and_true, append_eq, List.cons_append, List.nil_append, zl_len, List.length_set]
  rw [floOf_wr (by kernel_rfl)]
  simp only [↓R1, R2, R3, R4, TY, reduceIte, Nat.reduceEqDiff, Nat.reduceAdd, Nat.reduceMul, Nat.reduceLT, Nat.reduceLeDiff, reduceCtorEq, decide_true, decide_false, Int.reduceLE, Int.reduceLT, Int.reduceToNat, Int.reduceAdd, Int.reduceSub, Int.reduceMul, Int.reduceEq, hfl, hfl1, hfl2, hfl3, hfl4, hfl5, hfl6, NE, NE9, Nat.add_assoc, hfl7, hfl8, hfl9, hfl10, hfl11, w1, w2, guard_rat, guard_span, e1, e2, e3, e4, beq_self_eq_true, Bool.and_true, append_eq, List.cons_append, List.nil_append, zl_len, List.length_set]
  rw [floOf_wr (by kernel_rfl)]
  simp only [↓R1, R2, R3, R4, TY, reduceIte, Nat.reduceEqDiff, Nat.reduceAdd, Nat.reduceMul, Nat.reduceLT, Nat.reduceLeDiff, reduceCtorEq, decide_true, decide_false, Int.reduceLE, Int.reduceLT, Int.reduceToNat, Int.reduceAdd, Int.reduceSub, Int.reduceMul, Int.reduceEq, hfl, hfl1, hfl2, hfl3, hfl4, hfl5, hfl6, NE, NE9, Nat.add_assoc, hfl7, hfl8, hfl9, hfl10, hfl11, w1, w2, guard_rat, guard_span, e1, e2, e3, e4, beq_self_eq_true, Bool.and_true, append_eq, List.cons_append, List.nil_append, zl_len, List.length_set]
  refine call_of (o1 _ _) ?_
  simp only [↓R1, R2, R3, R4, TY, reduceIte, Nat.reduceEqDiff, Nat.reduceAdd, Nat.reduceMul, Nat.reduceLT, Nat.reduceLeDiff, reduceCtorEq, decide_true, decide_false, Int.reduceLE, Int.reduceLT, Int.reduceToNat, Int.reduceAdd, Int.reduceSub, Int.reduceMul, Int.reduceEq, hfl, hfl1, hfl2, hfl3, hfl4, hfl5, hfl6, NE, NE9, Nat.add_assoc, hfl7, hfl8, hfl9, hfl10, hfl11, w1, w2, guard_rat, guard_span, e1, e2, e3, e4, beq_self_eq_true, Bool.and_true, append_eq, List.cons_append, List.nil_append, zl_len, List.length_set]
  refine call_of (o2 _ _) ?_
  simp only [↓R1, R2, R3, R4, TY, reduceIte, Nat.reduceEqDiff, Nat.reduceAdd, Nat.reduceMul, Nat.reduceLT, Nat.reduceLeDiff, reduceCtorEq, decide_true, decide_false, Int.reduceLE, Int.reduceLT, Int.reduceToNat, Int.reduceAdd, Int.reduceSub, Int.reduceMul, Int.reduceEq, hfl, hfl1, hfl2, hfl3, hfl4, hfl5, hfl6, NE, NE9, Nat.add_assoc, hfl7, hfl8, hfl9, hfl10, hfl11, w1, w2, guard_rat, guard_span, e1, e2, e3, e4, beq_self_eq_true, Bool.and_true, append_eq, List.cons_append, List.nil_append, zl_len, List.length_set]
  refine call_of (o3 _ _) ?_
  simp only [↓R1, R2, R3, R4, TY, reduceIte, Nat.reduceEqDiff, Nat.reduceAdd, Nat.reduceMul, Nat.reduceLT, Nat.reduceLeDiff, reduceCtorEq, decide_true, decide_false, Int.reduceLE, Int.reduceLT, Int.reduceToNat, Int.reduceAdd, Int.reduceSub, Int.reduceMul, Int.reduceEq, hfl, hfl1, hfl2, hfl3, hfl4, hfl5, hfl6, NE, NE9, Nat.add_assoc, hfl7, hfl8, hfl9, hfl10, hfl11, w1, w2, guard_rat, guard_span, e1, e2, e3, e4, beq_self_eq_true, Bool.and_true, append_eq, List.cons_append, List.nil_append, zl_len, List.length_set]
  refine call_of (o4 _ _) ?_
  simp only [↓R1, R2, R3, R4, TY, reduceIte, Nat.reduceEqDiff, Nat.reduceAdd, Nat.reduceMul, Nat.reduceLT, Nat.reduceLeDiff, reduceCtorEq, decide_true, decide_false, Int.reduceLE, Int.reduceLT, Int.reduceToNat, Int.reduceAdd, Int.reduceSub, Int.reduceMul, Int.reduceEq, hfl, hfl1, hfl2, hfl3, hfl4, hfl5, hfl6, NE, NE9, Nat.add_assoc, hfl7, hfl8, hfl9, hfl10, hfl11, w1, w2, guard_rat, guard_span, e1, e2, e3, e4, beq_self_eq_true, Bool.and_true, append_eq, List.cons_append, List.nil_append, zl_len, List.length_set]
  refine call_of (sp _ _) ?_
  simp only [↓R1, R2, R3, R4, TY, reduceIte, Nat.reduceEqDiff, Nat.reduceAdd, Nat.reduceMul, Nat.reduceLT, Nat.reduceLeDiff, reduceCtorEq, decide_true, decide_false, Int.reduceLE, Int.reduceLT, Int.reduceToNat, Int.reduceAdd, Int.reduceSub, Int.reduceMul, Int.reduceEq, hfl, hfl1, hfl2, hfl3, hfl4, hfl5, hfl6, NE, NE9, Nat.add_assoc, hfl7, hfl8, hfl9, hfl10, hfl11, w1, w2, guard_rat, guard_span, e1, e2, e3, e4, beq_self_eq_true, Bool.and_true, append_eq, List.cons_append, List.nil_append, zl_len, List.length_set]
  generalize hB : Hp.put (Hp.push _ _) (A.next + 6) _ = B
  have hBn : B.next = A.next + 7 := by rw [← hB]; rfl
  have hBx : Xt A.next A B := by
    rw [← hB]
    simp (maxDischargeDepth := 20) only [xt_push, xt_put, xt_refl, Nat.le_refl, Nat.le_add_right, Nat.add_assoc, Nat.reduceAdd]
  have b5 : B.blk (A.next + 5) = some (.row (([a * c, a * d, b * c, b * d].map ratC).flatten) 0 3) := by
    rw [← hB, Hp.put_blk, if_neg (by omega), Hp.push_blk, if_neg (by simp only [Hp.put_next, Hp.push_next]; omega)]; exact (push_at rfl).trans (congrArg (fun c => some (Blk.row c 0 3)) (set4r _ zl_len _ _ _ _))
  have g0 : ∀ i, B.get G ⟨A.next, i, some 0⟩ = ([.bool (decide ((a).num < 0)), .string (S (nb (a).num.natAbs)), .string (S (nb (a).den)), .bool (decide ((b).num < 0)), .string (S (nb (b).num.natAbs)), .string (S (nb (b).den))] : List Value)[i]? := fun i => by rw [← hB]; simp [Hp.get, Hp.put_blk, Hp.push_blk, Nat.add_assoc]
  have g1 : ∀ i, B.get G ⟨A.next + 1, i, some 0⟩ = ([.bool (decide ((c).num < 0)), .string (S (nb (c).num.natAbs)), .string (S (nb (c).den)), .bool (decide ((d).num < 0)), .string (S (nb (d).num.natAbs)), .string (S (nb (d).den))] : List Value)[i]? := fun i => by rw [← hB]; simp [Hp.get, Hp.put_blk, Hp.push_blk, Nat.add_assoc]
  have g2 : ∀ i, B.get G ⟨A.next + 2, i, some 0⟩ = ([.bool (decide ((a + c).num < 0)), .string (S (nb (a + c).num.natAbs)), .string (S (nb (a + c).den)), .bool (decide ((b + d).num < 0)), .string (S (nb (b + d).num.natAbs)), .string (S (nb (b + d).den))] : List Value)[i]? := fun i => by rw [← hB]; simp [Hp.get, Hp.put_blk, Hp.push_blk, Nat.add_assoc]
  have g3 : ∀ i, B.get G ⟨A.next + 3, i, some 0⟩ = ([.bool (decide ((a - d).num < 0)), .string (S (nb (a - d).num.natAbs)), .string (S (nb (a - d).den)), .bool (decide ((b - c).num < 0)), .string (S (nb (b - c).num.natAbs)), .string (S (nb (b - c).den))] : List Value)[i]? := fun i => by rw [← hB]; simp [Hp.get, Hp.put_blk, Hp.push_blk, Nat.add_assoc]
  have g4 : ∀ i, B.get G ⟨A.next + 4, i, some 0⟩ = ([.bool (decide ((rdown a D).num < 0)), .string (S (nb (rdown a D).num.natAbs)), .string (S (nb (rdown a D).den)), .bool (decide ((rup b D).num < 0)), .string (S (nb (rup b D).num.natAbs)), .string (S (nb (rup b D).den))] : List Value)[i]? := fun i => by rw [← hB]; simp [Hp.get, Hp.put_blk, Hp.push_blk, Nat.add_assoc]
  have g6 : ∀ i, B.get G ⟨A.next + 6, i, some 0⟩ = ([.bool (decide ((lo).num < 0)), .string (S (nb (lo).num.natAbs)), .string (S (nb (lo).den)), .bool (decide ((hi).num < 0)), .string (S (nb (hi).num.natAbs)), .string (S (nb (hi).den))] : List Value)[i]? := fun i => by rw [← hB]; simp [Hp.get, Hp.put_blk, Hp.push_blk, Nat.add_assoc]
  clear hB
  have g5 : ∀ i, B.get G ⟨A.next + 5, i, some 0⟩ = ([.bool (decide ((a * c).num < 0)), .string (S (nb (a * c).num.natAbs)), .string (S (nb (a * c).den)), .bool (decide ((a * d).num < 0)), .string (S (nb (a * d).num.natAbs)), .string (S (nb (a * d).den)), .bool (decide ((b * c).num < 0)), .string (S (nb (b * c).num.natAbs)), .string (S (nb (b * c).den)), .bool (decide ((b * d).num < 0)), .string (S (nb (b * d).num.natAbs)), .string (S (nb (b * d).den))] : List Value)[i]? := fun i => by simp only [Hp.get, b5, if_true]; rfl
  refine range_of 70 4 (fun i τ C => Xt A.next A C ∧ C.next = A.next + 7 + i ∧ (∀ k i', k < 7 → C.get G ⟨A.next + k, i', some 0⟩ = B.get G ⟨A.next + k, i', some 0⟩) ∧ (∃ p q : Bool, hit a b c d lo i p ∧ hit a b c d hi i q ∧ τ 19 = some (.bool p) ∧ τ 20 = some (.bool q)) ∧
    τ 11 = some (.pointer (some ⟨A.next, 0, some 0⟩)) ∧ τ 12 = some (.pointer (some ⟨A.next + 1, 0, some 0⟩)) ∧ τ 13 = some (.int .i64 (D : Int)) ∧ τ 14 = some (.pointer (some ⟨A.next + 2, 0, some 0⟩)) ∧ τ 15 = some (.pointer (some ⟨A.next + 3, 0, some 0⟩)) ∧ τ 16 = some (.pointer (some ⟨A.next + 4, 0, some 0⟩)) ∧ τ 18 = some (.pointer (some ⟨A.next + 6, 0, some 0⟩)) ∧ τ 68 = some (.slice (some ⟨A.next + 5, 0, some 0⟩) 4 4) ∧ τ 69 = some (.int .i64 4) ∧ τ 70 = some (.int .i64 i)) ?_ ?_
  · exact ⟨hBx, hBn, fun _ _ _ => rfl, ⟨false, false, fun k hk => by omega, fun k hk => by omega, rfl, rfl⟩, rfl, rfl, rfl, rfl, rfl, rfl, rfl, rfl, rfl, rfl⟩
  rintro i τ C hi4 ⟨hCx, hCn, up, ⟨p, q, hp, hq, q19, q20⟩, q11, q12, q13, q14, q15, q16, q18, q68, q69, q70⟩
  have d0 := fun i => (up 0 i (by omega)).trans (g0 i)
  have d1 := fun i => (up 1 i (by omega)).trans (g1 i)
  have d2 := fun i => (up 2 i (by omega)).trans (g2 i)
  have d3 := fun i => (up 3 i (by omega)).trans (g3 i)
  have d4 := fun i => (up 4 i (by omega)).trans (g4 i)
  have d5 := fun i => (up 5 i (by omega)).trans (g5 i)
  have d6 := fun i => (up 6 i (by omega)).trans (g6 i)
  rw [Nat.add_zero] at d0
  simp only [↓R1, R2, R3, R4, TY, reduceIte, Nat.reduceEqDiff, Nat.reduceAdd, Nat.reduceMul, Nat.reduceLT, Nat.reduceLeDiff, reduceCtorEq, decide_true, decide_false, Int.reduceLE, Int.reduceLT, Int.reduceToNat, Int.reduceAdd, Int.reduceSub, Int.reduceMul, Int.reduceEq, q69, q70]
  have lit : (i : Int) < 4 ↔ i < 4 := by omega
  refine ⟨fun hlt => ?_, fun hlt => ?_⟩
  · have hi3 : i = 0 ∨ i = 1 ∨ i = 2 ∨ i = 3 := by omega
    rcases hi3 with rfl | rfl | rfl | rfl
    · have hj : ((0 : Nat) : Int) < ((4 : Nat) : Int) := by decide
      have s1 := hit_step hp
      have s2 := hit_step hq
      cases p <;> cases q <;> simp only [↓R1, R2, R3, R4, TY, reduceIte, Nat.reduceEqDiff, Nat.reduceAdd, Nat.reduceMul, Nat.reduceLT, Nat.reduceLeDiff, reduceCtorEq, decide_true, decide_false, Int.reduceLE, Int.reduceLT, Int.reduceToNat, Int.reduceAdd, Int.reduceSub, Int.reduceMul, Int.reduceEq, hj, q11, q12, q13, q14, q15, q16, q18, q19, q20, q68, q69, q70, d0, d1, d2, d3, d4, d5, d6, hCn, List.getElem?_cons_zero, List.getElem?_cons_succ, el, eh, w1, w2, guard_rat, guard_span, e1, e2, e3, e4, beq_self_eq_true, Bool.and_true, append_eq, List.cons_append, List.nil_append, hfl, hfl1, hfl2, hfl3, hfl4, hfl5, hfl6, NE, NE9, Nat.add_assoc, hfl7, hfl8, hfl9, hfl10, hfl11]
      all_goals
        refine range_on q70 (by omega) rfl ⟨?_, ?_, fun k i' hk => ?_, ⟨_, _, s1, s2, rfl, rfl⟩, q11, q12, q13, q14, q15, q16, q18, q68, q69, rfl⟩
        · simp (maxDischargeDepth := 20) only [xt_push, xt_put, hCx, Nat.le_refl, Nat.le_add_right, Nat.add_assoc, Nat.reduceAdd]
        · simp only [Hp.put_next, Hp.push_next, hCn, Nat.add_assoc, Nat.reduceAdd]
        · rw [← up k i' hk]
          have hne : ¬ k = 7 := by omega
          simp only [Hp.get, Hp.put_blk, Hp.push_blk, hCn, Nat.add_assoc, Nat.reduceAdd, Nat.add_left_cancel_iff, hne, if_false]
    · have hj : ((1 : Nat) : Int) < ((4 : Nat) : Int) := by decide
      have s1 := hit_step hp
      have s2 := hit_step hq
      cases p <;> cases q <;> simp only [↓R1, R2, R3, R4, TY, reduceIte, Nat.reduceEqDiff, Nat.reduceAdd, Nat.reduceMul, Nat.reduceLT, Nat.reduceLeDiff, reduceCtorEq, decide_true, decide_false, Int.reduceLE, Int.reduceLT, Int.reduceToNat, Int.reduceAdd, Int.reduceSub, Int.reduceMul, Int.reduceEq, hj, q11, q12, q13, q14, q15, q16, q18, q19, q20, q68, q69, q70, d0, d1, d2, d3, d4, d5, d6, hCn, List.getElem?_cons_zero, List.getElem?_cons_succ, el, eh, w1, w2, guard_rat, guard_span, e1, e2, e3, e4, beq_self_eq_true, Bool.and_true, append_eq, List.cons_append, List.nil_append, hfl, hfl1, hfl2, hfl3, hfl4, hfl5, hfl6, NE, NE9, Nat.add_assoc, hfl7, hfl8, hfl9, hfl10, hfl11]
      all_goals
        refine range_on q70 (by omega) rfl ⟨?_, ?_, fun k i' hk => ?_, ⟨_, _, s1, s2, rfl, rfl⟩, q11, q12, q13, q14, q15, q16, q18, q68, q69, rfl⟩
        · simp (maxDischargeDepth := 20) only [xt_push, xt_put, hCx, Nat.le_refl, Nat.le_add_right, Nat.add_assoc, Nat.reduceAdd]
        · simp only [Hp.put_next, Hp.push_next, hCn, Nat.add_assoc, Nat.reduceAdd]
        · rw [← up k i' hk]
          have hne : ¬ k = 8 := by omega
          simp only [Hp.get, Hp.put_blk, Hp.push_blk, hCn, Nat.add_assoc, Nat.reduceAdd, Nat.add_left_cancel_iff, hne, if_false]
    · have hj : ((2 : Nat) : Int) < ((4 : Nat) : Int) := by decide
      have s1 := hit_step hp
      have s2 := hit_step hq
      cases p <;> cases q <;> simp only [↓R1, R2, R3, R4, TY, reduceIte, Nat.reduceEqDiff, Nat.reduceAdd, Nat.reduceMul, Nat.reduceLT, Nat.reduceLeDiff, reduceCtorEq, decide_true, decide_false, Int.reduceLE, Int.reduceLT, Int.reduceToNat, Int.reduceAdd, Int.reduceSub, Int.reduceMul, Int.reduceEq, hj, q11, q12, q13, q14, q15, q16, q18, q19, q20, q68, q69, q70, d0, d1, d2, d3, d4, d5, d6, hCn, List.getElem?_cons_zero, List.getElem?_cons_succ, el, eh, w1, w2, guard_rat, guard_span, e1, e2, e3, e4, beq_self_eq_true, Bool.and_true, append_eq, List.cons_append, List.nil_append, hfl, hfl1, hfl2, hfl3, hfl4, hfl5, hfl6, NE, NE9, Nat.add_assoc, hfl7, hfl8, hfl9, hfl10, hfl11]
      all_goals
        refine range_on q70 (by omega) rfl ⟨?_, ?_, fun k i' hk => ?_, ⟨_, _, s1, s2, rfl, rfl⟩, q11, q12, q13, q14, q15, q16, q18, q68, q69, rfl⟩
        · simp (maxDischargeDepth := 20) only [xt_push, xt_put, hCx, Nat.le_refl, Nat.le_add_right, Nat.add_assoc, Nat.reduceAdd]
        · simp only [Hp.put_next, Hp.push_next, hCn, Nat.add_assoc, Nat.reduceAdd]
        · rw [← up k i' hk]
          have hne : ¬ k = 9 := by omega
          simp only [Hp.get, Hp.put_blk, Hp.push_blk, hCn, Nat.add_assoc, Nat.reduceAdd, Nat.add_left_cancel_iff, hne, if_false]
    · have hj : ((3 : Nat) : Int) < ((4 : Nat) : Int) := by decide
      have s1 := hit_step hp
      have s2 := hit_step hq
      cases p <;> cases q <;> simp only [↓R1, R2, R3, R4, TY, reduceIte, Nat.reduceEqDiff, Nat.reduceAdd, Nat.reduceMul, Nat.reduceLT, Nat.reduceLeDiff, reduceCtorEq, decide_true, decide_false, Int.reduceLE, Int.reduceLT, Int.reduceToNat, Int.reduceAdd, Int.reduceSub, Int.reduceMul, Int.reduceEq, hj, q11, q12, q13, q14, q15, q16, q18, q19, q20, q68, q69, q70, d0, d1, d2, d3, d4, d5, d6, hCn, List.getElem?_cons_zero, List.getElem?_cons_succ, el, eh, w1, w2, guard_rat, guard_span, e1, e2, e3, e4, beq_self_eq_true, Bool.and_true, append_eq, List.cons_append, List.nil_append, hfl, hfl1, hfl2, hfl3, hfl4, hfl5, hfl6, NE, NE9, Nat.add_assoc, hfl7, hfl8, hfl9, hfl10, hfl11]
      all_goals
        refine range_on q70 (by omega) rfl ⟨?_, ?_, fun k i' hk => ?_, ⟨_, _, s1, s2, rfl, rfl⟩, q11, q12, q13, q14, q15, q16, q18, q68, q69, rfl⟩
        · simp (maxDischargeDepth := 20) only [xt_push, xt_put, hCx, Nat.le_refl, Nat.le_add_right, Nat.add_assoc, Nat.reduceAdd]
        · simp only [Hp.put_next, Hp.push_next, hCn, Nat.add_assoc, Nat.reduceAdd]
        · rw [← up k i' hk]
          have hne : ¬ k = 10 := by omega
          simp only [Hp.get, Hp.put_blk, Hp.push_blk, hCn, Nat.add_assoc, Nat.reduceAdd, Nat.add_left_cancel_iff, hne, if_false]
  · obtain rfl : i = 4 := by omega
    rw [hlo p hp] at q19
    rw [hhi q hq] at q20
    simp only [↓R1, R2, R3, R4, TY, reduceIte, Nat.reduceEqDiff, Nat.reduceAdd, Nat.reduceMul, Nat.reduceLT, Nat.reduceLeDiff, reduceCtorEq, decide_true, decide_false, Int.reduceLE, Int.reduceLT, Int.reduceToNat, Int.reduceAdd, Int.reduceSub, Int.reduceMul, Int.reduceEq, q11, q12, q13, q14, q15, q16, q18, q19, q20, q68, q69, q70, d0, d1, d2, d3, d4, d5, d6, hCn, List.getElem?_cons_zero, List.getElem?_cons_succ, el, eh, w1, w2, guard_rat, guard_span, e1, e2, e3, e4, beq_self_eq_true, Bool.and_true, append_eq, List.cons_append, List.nil_append, hfl, hfl1, hfl2, hfl3, hfl4, hfl5, hfl6, NE, NE9, Nat.add_assoc, hfl7, hfl8, hfl9, hfl10, hfl11]
    refine call_of (nu _ _) ?_
    simp only [↓R1, R2, R3, R4, TY, reduceIte, Nat.reduceEqDiff, Nat.reduceAdd, Nat.reduceMul, Nat.reduceLT, Nat.reduceLeDiff, reduceCtorEq, decide_true, decide_false, Int.reduceLE, Int.reduceLT, Int.reduceToNat, Int.reduceAdd, Int.reduceSub, Int.reduceMul, Int.reduceEq, q11, q12, q13, q14, q15, q16, q18, q19, q20, q68, q69, q70, d0, d1, d2, d3, d4, d5, d6, hCn, List.getElem?_cons_zero, List.getElem?_cons_succ, el, eh, w1, w2, guard_rat, guard_span, e1, e2, e3, e4, beq_self_eq_true, Bool.and_true, append_eq, List.cons_append, List.nil_append, hfl, hfl1, hfl2, hfl3, hfl4, hfl5, hfl6, NE, NE9, Nat.add_assoc, hfl7, hfl8, hfl9, hfl10, hfl11]
    refine call_of (q1' _ _) ?_
    simp only [↓R1, R2, R3, R4, TY, reduceIte, Nat.reduceEqDiff, Nat.reduceAdd, Nat.reduceMul, Nat.reduceLT, Nat.reduceLeDiff, reduceCtorEq, decide_true, decide_false, Int.reduceLE, Int.reduceLT, Int.reduceToNat, Int.reduceAdd, Int.reduceSub, Int.reduceMul, Int.reduceEq, q11, q12, q13, q14, q15, q16, q18, q19, q20, q68, q69, q70, d0, d1, d2, d3, d4, d5, d6, hCn, List.getElem?_cons_zero, List.getElem?_cons_succ, el, eh, w1, w2, guard_rat, guard_span, e1, e2, e3, e4, beq_self_eq_true, Bool.and_true, append_eq, List.cons_append, List.nil_append, hfl, hfl1, hfl2, hfl3, hfl4, hfl5, hfl6, NE, NE9, Nat.add_assoc, hfl7, hfl8, hfl9, hfl10, hfl11]
    refine call_of (q2' _ _) ?_
    simp only [↓R1, R2, R3, R4, TY, reduceIte, Nat.reduceEqDiff, Nat.reduceAdd, Nat.reduceMul, Nat.reduceLT, Nat.reduceLeDiff, reduceCtorEq, decide_true, decide_false, Int.reduceLE, Int.reduceLT, Int.reduceToNat, Int.reduceAdd, Int.reduceSub, Int.reduceMul, Int.reduceEq, q11, q12, q13, q14, q15, q16, q18, q19, q20, q68, q69, q70, d0, d1, d2, d3, d4, d5, d6, hCn, List.getElem?_cons_zero, List.getElem?_cons_succ, el, eh, w1, w2, guard_rat, guard_span, e1, e2, e3, e4, beq_self_eq_true, Bool.and_true, append_eq, List.cons_append, List.nil_append, hfl, hfl1, hfl2, hfl3, hfl4, hfl5, hfl6, NE, NE9, Nat.add_assoc, hfl7, hfl8, hfl9, hfl10, hfl11]
    refine call_of (q3' _ _) ?_
    simp only [↓R1, R2, R3, R4, TY, reduceIte, Nat.reduceEqDiff, Nat.reduceAdd, Nat.reduceMul, Nat.reduceLT, Nat.reduceLeDiff, reduceCtorEq, decide_true, decide_false, Int.reduceLE, Int.reduceLT, Int.reduceToNat, Int.reduceAdd, Int.reduceSub, Int.reduceMul, Int.reduceEq, q11, q12, q13, q14, q15, q16, q18, q19, q20, q68, q69, q70, d0, d1, d2, d3, d4, d5, d6, hCn, List.getElem?_cons_zero, List.getElem?_cons_succ, el, eh, w1, w2, guard_rat, guard_span, e1, e2, e3, e4, beq_self_eq_true, Bool.and_true, append_eq, List.cons_append, List.nil_append, hfl, hfl1, hfl2, hfl3, hfl4, hfl5, hfl6, NE, NE9, Nat.add_assoc, hfl7, hfl8, hfl9, hfl10, hfl11]
    refine call_of (q4' _ _) ?_
    simp only [↓R1, R2, R3, R4, TY, reduceIte, Nat.reduceEqDiff, Nat.reduceAdd, Nat.reduceMul, Nat.reduceLT, Nat.reduceLeDiff, reduceCtorEq, decide_true, decide_false, Int.reduceLE, Int.reduceLT, Int.reduceToNat, Int.reduceAdd, Int.reduceSub, Int.reduceMul, Int.reduceEq, q11, q12, q13, q14, q15, q16, q18, q19, q20, q68, q69, q70, d0, d1, d2, d3, d4, d5, d6, hCn, List.getElem?_cons_zero, List.getElem?_cons_succ, el, eh, w1, w2, guard_rat, guard_span, e1, e2, e3, e4, beq_self_eq_true, Bool.and_true, append_eq, List.cons_append, List.nil_append, hfl, hfl1, hfl2, hfl3, hfl4, hfl5, hfl6, NE, NE9, Nat.add_assoc, hfl7, hfl8, hfl9, hfl10, hfl11]
    refine call_of (q5' _ _) ?_
    simp only [↓R1, R2, R3, R4, TY, reduceIte, Nat.reduceEqDiff, Nat.reduceAdd, Nat.reduceMul, Nat.reduceLT, Nat.reduceLeDiff, reduceCtorEq, decide_true, decide_false, Int.reduceLE, Int.reduceLT, Int.reduceToNat, Int.reduceAdd, Int.reduceSub, Int.reduceMul, Int.reduceEq, q11, q12, q13, q14, q15, q16, q18, q19, q20, q68, q69, q70, d0, d1, d2, d3, d4, d5, d6, hCn, List.getElem?_cons_zero, List.getElem?_cons_succ, el, eh, w1, w2, guard_rat, guard_span, e1, e2, e3, e4, beq_self_eq_true, Bool.and_true, append_eq, List.cons_append, List.nil_append, hfl, hfl1, hfl2, hfl3, hfl4, hfl5, hfl6, NE, NE9, Nat.add_assoc, hfl7, hfl8, hfl9, hfl10, hfl11]
    refine call_of (q6' _ _) ?_
    simp only [↓R1, R2, R3, R4, TY, reduceIte, Nat.reduceEqDiff, Nat.reduceAdd, Nat.reduceMul, Nat.reduceLT, Nat.reduceLeDiff, reduceCtorEq, decide_true, decide_false, Int.reduceLE, Int.reduceLT, Int.reduceToNat, Int.reduceAdd, Int.reduceSub, Int.reduceMul, Int.reduceEq, q11, q12, q13, q14, q15, q16, q18, q19, q20, q68, q69, q70, d0, d1, d2, d3, d4, d5, d6, hCn, List.getElem?_cons_zero, List.getElem?_cons_succ, el, eh, w1, w2, guard_rat, guard_span, e1, e2, e3, e4, beq_self_eq_true, Bool.and_true, append_eq, List.cons_append, List.nil_append, hfl, hfl1, hfl2, hfl3, hfl4, hfl5, hfl6, NE, NE9, Nat.add_assoc, hfl7, hfl8, hfl9, hfl10, hfl11]
    refine call_of (q7' _ _) ?_
    simp only [↓R1, R2, R3, R4, TY, reduceIte, Nat.reduceEqDiff, Nat.reduceAdd, Nat.reduceMul, Nat.reduceLT, Nat.reduceLeDiff, reduceCtorEq, decide_true, decide_false, Int.reduceLE, Int.reduceLT, Int.reduceToNat, Int.reduceAdd, Int.reduceSub, Int.reduceMul, Int.reduceEq, q11, q12, q13, q14, q15, q16, q18, q19, q20, q68, q69, q70, d0, d1, d2, d3, d4, d5, d6, hCn, List.getElem?_cons_zero, List.getElem?_cons_succ, el, eh, w1, w2, guard_rat, guard_span, e1, e2, e3, e4, beq_self_eq_true, Bool.and_true, append_eq, List.cons_append, List.nil_append, hfl, hfl1, hfl2, hfl3, hfl4, hfl5, hfl6, NE, NE9, Nat.add_assoc, hfl7, hfl8, hfl9, hfl10, hfl11]
    refine call_of (so2 _ _) ?_
    simp only [↓R1, R2, R3, R4, TY, reduceIte, Nat.reduceEqDiff, Nat.reduceAdd, Nat.reduceMul, Nat.reduceLT, Nat.reduceLeDiff, reduceCtorEq, decide_true, decide_false, Int.reduceLE, Int.reduceLT, Int.reduceToNat, Int.reduceAdd, Int.reduceSub, Int.reduceMul, Int.reduceEq, q11, q12, q13, q14, q15, q16, q18, q19, q20, q68, q69, q70, d0, d1, d2, d3, d4, d5, d6, hCn, List.getElem?_cons_zero, List.getElem?_cons_succ, el, eh, w1, w2, guard_rat, guard_span, e1, e2, e3, e4, beq_self_eq_true, Bool.and_true, append_eq, List.cons_append, List.nil_append, hfl, hfl1, hfl2, hfl3, hfl4, hfl5, hfl6, NE, NE9, Nat.add_assoc, hfl7, hfl8, hfl9, hfl10, hfl11]
    refine fin _ _ ?_ rfl
    simp (maxDischargeDepth := 20) only [xt_push, xt_put, hCx, Nat.le_refl, Nat.le_add_right, Nat.add_assoc, Nat.reduceAdd]
end
end Go.Proofs.YtincjhklpgfkgaaDoor.Ab
