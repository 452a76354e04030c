/- Rational numbers: the lesser and the greater, whole ones, quotients of whole ones, texts; equality. -/
import Derived.Test.YtpaffoiiipgkeaaDoorRe
namespace Go.Proofs.YtpaffoiiipgkeaaDoor.Ab
open Go.RowKit
set_option linter.unusedVariables false
set_option linter.unusedSimpArgs false
set_option maxRecDepth 100000

def rmin (p q : Rat) : Rat := if rcmp p q ≤ 0 then p else q
def rmax (p q : Rat) : Rat := if 0 ≤ rcmp p q then p else q
/-- A whole number. -/
def rOf (n : Int) : Rat := mkRat n 1
theorem sz_of {n : Int} {k : Nat} (h : n.natAbs ≤ k) (h1 : 1 ≤ k) : Sz (rOf n) k := Sz.mk h h1 h1
theorem rOf_num (n : Int) : (rOf n).num = n := by unfold rOf; rw [Rat.num_mkRat]; simp
theorem rOf_den (n : Int) : (rOf n).den = 1 := by unfold rOf; rw [Rat.den_mkRat]; simp
theorem rOf_eq (n : Int) : rOf n = (n : Rat) := Rat.ext (by rw [rOf_num]; rfl) (by rw [rOf_den]; rfl)
/-- A number's text. -/
def rtext (q : Rat) : List UInt8 := (if q.num < 0 then [45] else []) ++ dec q.num.natAbs ++ (if q.den = 1 then [] else 47 :: dec q.den)

theorem ratV_inj {p q : Rat} : ratV p = ratV q ↔ p = q := by
  constructor
  · intro h
    simp only [ratV, Value.agg.injEq] at h
    have h1 := congrArg Array.toList h
    simp only [List.cons.injEq, Value.bool.injEq, Value.string.injEq, and_true] at h1
    obtain ⟨a, b, c⟩ := h1
    have b' := nb_inj (S_inj.mp b)
    have c' := nb_inj (S_inj.mp c)
    refine Rat.ext ?_ c'
    have := sgn_num p.num
    rw [← this, ← sgn_num q.num, a, b']
  · rintro rfl; rfl

section
variable {G : Gl} {fl : Nat} {A : Hp}

theorem eqD_rat (p q : Rat) : eqD Tryd.prog 20 35 (ratV p) (ratV q) = some (decide (p = q)) := by
  have hst : Tryd.prog.stoodInHeld 35 = false := by kernel_rfl
  have h1 : eqD Tryd.prog 20 35 (ratV p) (ratV q) = some ((decide (p.num < 0) == decide (q.num < 0)) && (decide (S (nb p.num.natAbs) = S (nb q.num.natAbs)) && (decide (S (nb p.den) = S (nb q.den)) && true))) := by
    simp [eqD, ratV, Tryd.underlying35, Tryd.underlying9, Tryd.underlying4, eqFs, partV, ty9, ty4, hst]
  rw [h1]
  simp only [S_nb]
  congr 1
  by_cases h : p = q
  · subst h; simp
  · rw [decide_eq_false h]
    apply Bool.eq_false_iff.2
    intro hc
    simp only [Bool.and_eq_true, beq_iff_eq, decide_eq_true_eq, Bool.true_and, Bool.and_true] at hc
    apply h
    refine Rat.ext ?_ hc.2.2
    rw [← sgn_num p.num, ← sgn_num q.num, hc.1, hc.2.1]

theorem rof_ok {n : Int} (h1 : -9223372036854775808 ≤ n) (h2 : n ≤ 9223372036854775807) : Sound Tryd.prog G 32 [.int .i64 n] fl A (ratV (rOf n)) A := by
  refine Sound.of mixed Tryd.func32 Tryd.ntmps32 Tryd.results32 (by kernel_rfl) rfl (by kernel_rfl) (by simp) fun hA => ?_
  have hfl : fl ≤ A.next := hA.floor
  have hrb := ratV_rb A.next (rOf n)
  simp only [↓R1, R2, R3, R4, TY, reduceIte, Nat.reduceEqDiff, Nat.reduceAdd, Nat.reduceMul, Nat.reduceLT, Nat.reduceLeDiff, reduceCtorEq, decide_true, decide_false, Int.reduceLE, Int.reduceLT, Int.reduceToNat, Int.reduceAdd, Int.reduceSub, Int.reduceMul, Int.reduceEq]
  refine ⟨fun h => ?_, fun h => ?_⟩
  · refine call_of (of_ok h2) ?_
    simp only [↓R1, R2, R3, R4, TY, reduceIte, Nat.reduceEqDiff, Nat.reduceAdd, Nat.reduceMul, Nat.reduceLT, Nat.reduceLeDiff, reduceCtorEq, decide_true, decide_false, Int.reduceLE, Int.reduceLT, Int.reduceToNat, Int.reduceAdd, Int.reduceSub, Int.reduceMul, Int.reduceEq]
    have hm := made_ok (G := G) (fl := fl) (A := A.push (.row [.bool false, .string (S []), .string (S [])] 0 3)) (neg := false) (m := n.toNat) (d := 1) (by omega) (by omega) (by omega)
    have e : mkRat (sgn false n.toNat) 1 = rOf n := by unfold rOf sgn; simp; congr 1; omega
    rw [e, nb_one] at hm
    refine call_of hm ?_
    rw [ratV] at hrb ⊢
    simp only [↓R1, R2, R3, R4, TY, reduceIte, Nat.reduceEqDiff, Nat.reduceAdd, Nat.reduceMul, Nat.reduceLT, Nat.reduceLeDiff, reduceCtorEq, decide_true, decide_false, Int.reduceLE, Int.reduceLT, Int.reduceToNat, Int.reduceAdd, Int.reduceSub, Int.reduceMul, Int.reduceEq, hfl]
    exact Ended.back hA (by simp (maxDischargeDepth := 20) only [xt_push, xt_put, xt_refl, Nat.le_refl]) rfl hrb
  · have w1 : IntKind.i64.wrap (n + 1) = n + 1 := wrapI (by omega)
    have w2 : IntKind.i64.wrap (0 - (n + 1)) = -(n + 1) := by rw [wrapI (by omega)]; omega
    simp only [↓R1, R2, R3, R4, TY, reduceIte, Nat.reduceEqDiff, Nat.reduceAdd, Nat.reduceMul, Nat.reduceLT, Nat.reduceLeDiff, reduceCtorEq, decide_true, decide_false, Int.reduceLE, Int.reduceLT, Int.reduceToNat, Int.reduceAdd, Int.reduceSub, Int.reduceMul, Int.reduceEq, w1, w2]
    refine call_of (of_ok (by omega)) ?_
    have ha := addN (G := G) (fl := fl) (A := A.push (.row [.bool false, .string (S []), .string (S [])] 0 3)) (m := (-(n + 1)).toNat) (n := 1) (by have := nb8.2 (show (-(n + 1)).toNat < 18446744073709551616 by omega); omega) (by rw [nb_one]; decide)
    rw [nb_one] at ha
    simp only [↓R1, R2, R3, R4, TY, reduceIte, Nat.reduceEqDiff, Nat.reduceAdd, Nat.reduceMul, Nat.reduceLT, Nat.reduceLeDiff, reduceCtorEq, decide_true, decide_false, Int.reduceLE, Int.reduceLT, Int.reduceToNat, Int.reduceAdd, Int.reduceSub, Int.reduceMul, Int.reduceEq]
    refine call_of ha ?_
    simp only [↓R1, R2, R3, R4, TY, reduceIte, Nat.reduceEqDiff, Nat.reduceAdd, Nat.reduceMul, Nat.reduceLT, Nat.reduceLeDiff, reduceCtorEq, decide_true, decide_false, Int.reduceLE, Int.reduceLT, Int.reduceToNat, Int.reduceAdd, Int.reduceSub, Int.reduceMul, Int.reduceEq]
    have hm := made_ok (G := G) (fl := fl) (A := A.push (.row [.bool false, .string (S []), .string (S [])] 0 3)) (neg := true) (m := (-(n + 1)).toNat + 1) (d := 1) (by omega) (by omega) (by omega)
    have e : mkRat (sgn true ((-(n + 1)).toNat + 1)) 1 = rOf n := by unfold rOf sgn; simp; congr 1; omega
    rw [e, nb_one] at hm
    refine call_of hm ?_
    rw [ratV] at hrb ⊢
    simp only [↓R1, R2, R3, R4, TY, reduceIte, Nat.reduceEqDiff, Nat.reduceAdd, Nat.reduceMul, Nat.reduceLT, Nat.reduceLeDiff, reduceCtorEq, decide_true, decide_false, Int.reduceLE, Int.reduceLT, Int.reduceToNat, Int.reduceAdd, Int.reduceSub, Int.reduceMul, Int.reduceEq, hfl]
    exact Ended.back hA (by simp (maxDischargeDepth := 20) only [xt_push, xt_put, xt_refl, Nat.le_refl]) rfl hrb

theorem rmin_ok {p q : Rat} {j k : Nat} (hp : Sz p j) (hq : Sz q k) (hb : j * k < 18446744073709551616) : Sound Tryd.prog G 34 [ratV p, ratV q] fl A (ratV (rmin p q)) A := by
  refine Sound.of mixed Tryd.func34 Tryd.ntmps34 Tryd.results34 (by kernel_rfl) rfl (by kernel_rfl) (by simp) fun hA => ?_
  have hjk1 : j ≤ j * k := Nat.le_mul_of_pos_right _ hq.pos
  have hjk2 : k ≤ j * k := Nat.le_mul_of_pos_left _ hp.pos
  have fp := fun fl A => fit_ok (G := G) (fl := fl) (A := A) (q := p) (by have := hp.1; omega) (by have := hp.2; omega)
  have fq := fun fl A => fit_ok (G := G) (fl := fl) (A := A) (q := q) (by have := hq.1; omega) (by have := hq.2; omega)
  have hc := fun fl A => rcmp_ok (G := G) (fl := fl) (A := A) hp hq hb
  have hfl2 : fl ≤ A.next + 2 := by have := hA.floor; omega
  have hrp := ratV_rb A.next p
  have hrq := ratV_rb A.next q
  unfold rmin
  rw [ratV, ratV] at *
  simp only [↓R1, R2, R3, R4, TY, reduceIte, Nat.reduceEqDiff, Nat.reduceAdd, Nat.reduceMul, Nat.reduceLT, Nat.reduceLeDiff, reduceCtorEq, decide_true, decide_false, Int.reduceLE, Int.reduceLT, Int.reduceToNat, Int.reduceAdd, Int.reduceSub, Int.reduceMul, Int.reduceEq]
  refine call_of (hc _ _) ?_
  simp only [↓R1, R2, R3, R4, TY, reduceIte, Nat.reduceEqDiff, Nat.reduceAdd, Nat.reduceMul, Nat.reduceLT, Nat.reduceLeDiff, reduceCtorEq, decide_true, decide_false, Int.reduceLE, Int.reduceLT, Int.reduceToNat, Int.reduceAdd, Int.reduceSub, Int.reduceMul, Int.reduceEq, hfl2, NE]
  refine ⟨fun h => ?_, fun h => ?_⟩
  · refine call_of (fp _ _) ?_
    rw [if_pos h]
    simp only [↓R1, R2, R3, R4, TY, reduceIte, Nat.reduceEqDiff, Nat.reduceAdd, Nat.reduceMul, Nat.reduceLT, Nat.reduceLeDiff, reduceCtorEq, decide_true, decide_false, Int.reduceLE, Int.reduceLT, Int.reduceToNat, Int.reduceAdd, Int.reduceSub, Int.reduceMul, Int.reduceEq, hfl2, NE]
    exact Ended.back hA ((((Xt.refl A).push _).push _).push _ |>.put (by omega) _) rfl hrp
  · refine call_of (fq _ _) ?_
    rw [if_neg h]
    simp only [↓R1, R2, R3, R4, TY, reduceIte, Nat.reduceEqDiff, Nat.reduceAdd, Nat.reduceMul, Nat.reduceLT, Nat.reduceLeDiff, reduceCtorEq, decide_true, decide_false, Int.reduceLE, Int.reduceLT, Int.reduceToNat, Int.reduceAdd, Int.reduceSub, Int.reduceMul, Int.reduceEq, hfl2, NE]
    exact Ended.back hA ((((Xt.refl A).push _).push _).push _ |>.put (by omega) _) rfl hrq

theorem rmax_ok {p q : Rat} {j k : Nat} (hp : Sz p j) (hq : Sz q k) (hb : j * k < 18446744073709551616) : Sound Tryd.prog G 35 [ratV p, ratV q] fl A (ratV (rmax p q)) A := by
  refine Sound.of mixed Tryd.func35 Tryd.ntmps35 Tryd.results35 (by kernel_rfl) rfl (by kernel_rfl) (by simp) fun hA => ?_
  have hjk1 : j ≤ j * k := Nat.le_mul_of_pos_right _ hq.pos
  have hjk2 : k ≤ j * k := Nat.le_mul_of_pos_left _ hp.pos
  have fp := fun fl A => fit_ok (G := G) (fl := fl) (A := A) (q := p) (by have := hp.1; omega) (by have := hp.2; omega)
  have fq := fun fl A => fit_ok (G := G) (fl := fl) (A := A) (q := q) (by have := hq.1; omega) (by have := hq.2; omega)
  have hc := fun fl A => rcmp_ok (G := G) (fl := fl) (A := A) hp hq hb
  have hfl2 : fl ≤ A.next + 2 := by have := hA.floor; omega
  have hrp := ratV_rb A.next p
  have hrq := ratV_rb A.next q
  unfold rmax
  rw [ratV, ratV] at *
  simp only [↓R1, R2, R3, R4, TY, reduceIte, Nat.reduceEqDiff, Nat.reduceAdd, Nat.reduceMul, Nat.reduceLT, Nat.reduceLeDiff, reduceCtorEq, decide_true, decide_false, Int.reduceLE, Int.reduceLT, Int.reduceToNat, Int.reduceAdd, Int.reduceSub, Int.reduceMul, Int.reduceEq]
  refine call_of (hc _ _) ?_
  simp only [↓R1, R2, R3, R4, TY, reduceIte, Nat.reduceEqDiff, Nat.reduceAdd, Nat.reduceMul, Nat.reduceLT, Nat.reduceLeDiff, reduceCtorEq, decide_true, decide_false, Int.reduceLE, Int.reduceLT, Int.reduceToNat, Int.reduceAdd, Int.reduceSub, Int.reduceMul, Int.reduceEq, hfl2, NE]
  refine ⟨fun h => ?_, fun h => ?_⟩
  · refine call_of (fp _ _) ?_
    rw [if_pos h]
    simp only [↓R1, R2, R3, R4, TY, reduceIte, Nat.reduceEqDiff, Nat.reduceAdd, Nat.reduceMul, Nat.reduceLT, Nat.reduceLeDiff, reduceCtorEq, decide_true, decide_false, Int.reduceLE, Int.reduceLT, Int.reduceToNat, Int.reduceAdd, Int.reduceSub, Int.reduceMul, Int.reduceEq, hfl2, NE]
    exact Ended.back hA ((((Xt.refl A).push _).push _).push _ |>.put (by omega) _) rfl hrp
  · refine call_of (fq _ _) ?_
    rw [if_neg h]
    simp only [↓R1, R2, R3, R4, TY, reduceIte, Nat.reduceEqDiff, Nat.reduceAdd, Nat.reduceMul, Nat.reduceLT, Nat.reduceLeDiff, reduceCtorEq, decide_true, decide_false, Int.reduceLE, Int.reduceLT, Int.reduceToNat, Int.reduceAdd, Int.reduceSub, Int.reduceMul, Int.reduceEq, hfl2, NE]
    exact Ended.back hA ((((Xt.refl A).push _).push _).push _ |>.put (by omega) _) rfl hrq
end
end Go.Proofs.YtpaffoiiipgkeaaDoor.Ab
