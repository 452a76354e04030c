/- Cosines and sines of spans. -/
import Derived.Test.YtjkimjmocfjjnaaDoorVh
import Derived.Test.YtjkimjmocfjjnaaDoorVo
namespace Go.Proofs.YtjkimjmocfjjnaaDoor.Ab
open Go.RowKit
set_option linter.unusedVariables false
set_option linter.unusedSimpArgs false
set_option maxRecDepth 100000

/-- The cosine by the square. -/
def csq (a : Rat) : Rat := (1 - a) / (1 + a)
theorem rz_csq {a : Rat} {k : Nat} (h : Rz a k) (h0 : 1 + a ≠ 0) : Rz (csq a) (2 * k + 4) := ((rz_one.sub h).div (rz_one.add h) (num_ne h0)).mono (by omega)
theorem one_nn {a : Rat} (h : 0 ≤ a) : 1 + a ≠ 0 := by grind

section
variable {G : Gl} {fl : Nat} {A : Hp}

set_option maxHeartbeats 2000000 in
theorem csq_ok {a : Rat} {k : Nat} (hG : G 1 = some tabV) (h : Rz a k) (h0 : 1 + a ≠ 0) (hk : k ≤ 1000000000) : Sound Tryd.prog G 99 [ratV a] fl A (ratV (csq a)) A := by
  refine Sound.of mixed Tryd.func99 Tryd.ntmps99 Tryd.results99 (by kernel_rfl) rfl (by kernel_rfl) (by kernel_rfl) fun hA => ?_
  have hfl : fl ≤ A.next := by have := hA.floor; omega
  have hfl1 : fl ≤ A.next + 1 := by have := hA.floor; omega
  have hfl2 : fl ≤ A.next + 2 := by have := hA.floor; omega
  have hfl3 : fl ≤ A.next + 3 := by have := hA.floor; omega
  have hfl4 : fl ≤ A.next + 4 := by have := hA.floor; omega
  have hfl5 : fl ≤ A.next + 5 := by have := hA.floor; omega
  have hfl6 : fl ≤ A.next + 6 := by have := hA.floor; omega
  have z1 := fun fl A => rof_ok (G := G) (fl := fl) (A := A) (n := 1) (by decide) (by decide)
  have s1 := fun fl A => qsub (G := G) (fl := fl) (A := A) hG rz_one h (by omega)
  have a1 := fun fl A => qadd (G := G) (fl := fl) (A := A) hG rz_one h (by omega)
  have d1 := fun fl A => qdiv (G := G) (fl := fl) (A := A) hG (rz_one.sub h) (rz_one.add h) (by omega) (num_ne h0)
  have hrb := ratV_rb A.next (csq a)
  rw [rOf_one] at z1
  rw [show (1 - a) / (1 + a) = csq a from rfl] at d1
  simp only [tnV_def, ratV_def, prV_def, Option.getD_some] at z1 s1 a1 d1 hrb ⊢
  simp only [↓R1, R2, R3, R4, TY, reduceIte, Nat.reduceEqDiff, Nat.reduceAdd, Nat.reduceMul, Nat.reduceLT, Nat.reduceLeDiff, reduceCtorEq, decide_true, decide_false, Int.reduceLE, Int.reduceLT, Int.reduceToNat, Int.reduceAdd, Int.reduceSub, Int.reduceMul, Int.reduceEq, hfl, hfl1, hfl2, hfl3, hfl4, hfl5, hfl6, NE, NE9, Nat.add_assoc]
  refine call_of (z1 _ _) ?_
  simp only [↓R1, R2, R3, R4, TY, reduceIte, Nat.reduceEqDiff, Nat.reduceAdd, Nat.reduceMul, Nat.reduceLT, Nat.reduceLeDiff, reduceCtorEq, decide_true, decide_false, Int.reduceLE, Int.reduceLT, Int.reduceToNat, Int.reduceAdd, Int.reduceSub, Int.reduceMul, Int.reduceEq, hfl, hfl1, hfl2, hfl3, hfl4, hfl5, hfl6, NE, NE9, Nat.add_assoc]
  refine call_of (s1 _ _) ?_
  simp only [↓R1, R2, R3, R4, TY, reduceIte, Nat.reduceEqDiff, Nat.reduceAdd, Nat.reduceMul, Nat.reduceLT, Nat.reduceLeDiff, reduceCtorEq, decide_true, decide_false, Int.reduceLE, Int.reduceLT, Int.reduceToNat, Int.reduceAdd, Int.reduceSub, Int.reduceMul, Int.reduceEq, hfl, hfl1, hfl2, hfl3, hfl4, hfl5, hfl6, NE, NE9, Nat.add_assoc]
  refine call_of (z1 _ _) ?_
  simp only [↓R1, R2, R3, R4, TY, reduceIte, Nat.reduceEqDiff, Nat.reduceAdd, Nat.reduceMul, Nat.reduceLT, Nat.reduceLeDiff, reduceCtorEq, decide_true, decide_false, Int.reduceLE, Int.reduceLT, Int.reduceToNat, Int.reduceAdd, Int.reduceSub, Int.reduceMul, Int.reduceEq, hfl, hfl1, hfl2, hfl3, hfl4, hfl5, hfl6, NE, NE9, Nat.add_assoc]
  refine call_of (a1 _ _) ?_
  simp only [↓R1, R2, R3, R4, TY, reduceIte, Nat.reduceEqDiff, Nat.reduceAdd, Nat.reduceMul, Nat.reduceLT, Nat.reduceLeDiff, reduceCtorEq, decide_true, decide_false, Int.reduceLE, Int.reduceLT, Int.reduceToNat, Int.reduceAdd, Int.reduceSub, Int.reduceMul, Int.reduceEq, hfl, hfl1, hfl2, hfl3, hfl4, hfl5, hfl6, NE, NE9, Nat.add_assoc]
  refine call_of (d1 _ _) ?_
  simp only [↓R1, R2, R3, R4, TY, reduceIte, Nat.reduceEqDiff, Nat.reduceAdd, Nat.reduceMul, Nat.reduceLT, Nat.reduceLeDiff, reduceCtorEq, decide_true, decide_false, Int.reduceLE, Int.reduceLT, Int.reduceToNat, Int.reduceAdd, Int.reduceSub, Int.reduceMul, Int.reduceEq, hfl, hfl1, hfl2, hfl3, hfl4, hfl5, hfl6, NE, NE9, Nat.add_assoc]
  rw [floOf_wr (by kernel_rfl)]
  simp only [↓R1, R2, R3, R4, TY, reduceIte, Nat.reduceEqDiff, Nat.reduceAdd, Nat.reduceMul, Nat.reduceLT, Nat.reduceLeDiff, reduceCtorEq, decide_true, decide_false, Int.reduceLE, Int.reduceLT, Int.reduceToNat, Int.reduceAdd, Int.reduceSub, Int.reduceMul, Int.reduceEq, hfl, hfl1, hfl2, hfl3, hfl4, hfl5, hfl6, NE, NE9, Nat.add_assoc]
  refine Ended.back hA ?_ rfl hrb
  simp (maxDischargeDepth := 20) only [xt_push, xt_put, xt_refl, Nat.le_refl, Nat.le_add_right, Nat.add_assoc, Nat.reduceAdd]

set_option maxHeartbeats 2000000 in
theorem coss {a b : Rat} {k : Nat} (hG : G 1 = some tabV) (h : Sp a b k) (hl : 0 ≤ sqlo a b) (hh : 0 ≤ sqhi a b) (hk : 2 * k ≤ 500000000) : Sound Tryd.prog G 69 [prV a b] fl A (prV (csq (sqhi a b)) (csq (sqlo a b))) A := by
  refine Sound.of mixed Tryd.func69 Tryd.ntmps69 Tryd.results69 (by kernel_rfl) rfl (by kernel_rfl) (by kernel_rfl) fun hA => ?_
  have hfl : fl ≤ A.next := by have := hA.floor; omega
  have hfl1 : fl ≤ A.next + 1 := by have := hA.floor; omega
  have hfl2 : fl ≤ A.next + 2 := by have := hA.floor; omega
  have hfl3 : fl ≤ A.next + 3 := by have := hA.floor; omega
  have hfl4 : fl ≤ A.next + 4 := by have := hA.floor; omega
  have hfl5 : fl ≤ A.next + 5 := by have := hA.floor; omega
  have hfl6 : fl ≤ A.next + 6 := by have := hA.floor; omega
  have sq := fun fl A => ssq (G := G) (fl := fl) (A := A) hG h (by omega)
  have c1 := fun fl A => csq_ok (G := G) (fl := fl) (A := A) hG h.sq.high (one_nn hh) (by omega)
  have c2 := fun fl A => csq_ok (G := G) (fl := fl) (A := A) hG h.sq.low (one_nn hl) (by omega)
  have hrb := prV_rb A.next (csq (sqhi a b)) (csq (sqlo a b))
  simp only [tnV_def, ratV_def, prV_def, Option.getD_some] at sq c1 c2 hrb ⊢
  simp only [↓R1, R2, R3, R4, TY, reduceIte, Nat.reduceEqDiff, Nat.reduceAdd, Nat.reduceMul, Nat.reduceLT, Nat.reduceLeDiff, reduceCtorEq, decide_true, decide_false, Int.reduceLE, Int.reduceLT, Int.reduceToNat, Int.reduceAdd, Int.reduceSub, Int.reduceMul, Int.reduceEq, hfl, hfl1, hfl2, hfl3, hfl4, hfl5, hfl6, NE, NE9, Nat.add_assoc]
  refine call_of (sq _ _) ?_
  simp only [↓R1, R2, R3, R4, TY, reduceIte, Nat.reduceEqDiff, Nat.reduceAdd, Nat.reduceMul, Nat.reduceLT, Nat.reduceLeDiff, reduceCtorEq, decide_true, decide_false, Int.reduceLE, Int.reduceLT, Int.reduceToNat, Int.reduceAdd, Int.reduceSub, Int.reduceMul, Int.reduceEq, hfl, hfl1, hfl2, hfl3, hfl4, hfl5, hfl6, NE, NE9, Nat.add_assoc]
  refine call_of (c1 _ _) ?_
  simp only [↓R1, R2, R3, R4, TY, reduceIte, Nat.reduceEqDiff, Nat.reduceAdd, Nat.reduceMul, Nat.reduceLT, Nat.reduceLeDiff, reduceCtorEq, decide_true, decide_false, Int.reduceLE, Int.reduceLT, Int.reduceToNat, Int.reduceAdd, Int.reduceSub, Int.reduceMul, Int.reduceEq, hfl, hfl1, hfl2, hfl3, hfl4, hfl5, hfl6, NE, NE9, Nat.add_assoc]
  refine call_of (c2 _ _) ?_
  simp only [↓R1, R2, R3, R4, TY, reduceIte, Nat.reduceEqDiff, Nat.reduceAdd, Nat.reduceMul, Nat.reduceLT, Nat.reduceLeDiff, reduceCtorEq, decide_true, decide_false, Int.reduceLE, Int.reduceLT, Int.reduceToNat, Int.reduceAdd, Int.reduceSub, Int.reduceMul, Int.reduceEq, hfl, hfl1, hfl2, hfl3, hfl4, hfl5, hfl6, NE, NE9, Nat.add_assoc]
  rw [floOf_wr (by kernel_rfl)]
  simp only [↓R1, R2, R3, R4, TY, reduceIte, Nat.reduceEqDiff, Nat.reduceAdd, Nat.reduceMul, Nat.reduceLT, Nat.reduceLeDiff, reduceCtorEq, decide_true, decide_false, Int.reduceLE, Int.reduceLT, Int.reduceToNat, Int.reduceAdd, Int.reduceSub, Int.reduceMul, Int.reduceEq, hfl, hfl1, hfl2, hfl3, hfl4, hfl5, hfl6, NE, NE9, Nat.add_assoc]
  refine Ended.back hA ?_ rfl hrb
  simp (maxDischargeDepth := 20) only [xt_push, xt_put, xt_refl, Nat.le_refl, Nat.le_add_right, Nat.add_assoc, Nat.reduceAdd]

end
end Go.Proofs.YtjkimjmocfjjnaaDoor.Ab

/- The sines of a span. -/
namespace Go.Proofs.YtjkimjmocfjjnaaDoor.Ab
open Go.RowKit
set_option linter.unusedVariables false
set_option linter.unusedSimpArgs false
set_option maxRecDepth 100000

def prC (p q : Rat) : List Value := [.bool (decide (p.num < 0)), .string (S (nb p.num.natAbs)), .string (S (nb p.den)), .bool (decide (q.num < 0)), .string (S (nb q.num.natAbs)), .string (S (nb q.den))]
/-- One more number in a span, if it is between a and b. -/
def jlo (a b n l : Rat) : Rat := if a ≤ n ∧ n ≤ b then rmin l n else l
def jhi (a b n h : Rat) : Rat := if a ≤ n ∧ n ≤ b then rmax h n else h
def snl (a b : Rat) (i : Nat) : Rat := if i = 0 then rmin (tsin (some a)) (tsin (some b)) else if i = 1 then jlo a b (-1) (rmin (tsin (some a)) (tsin (some b))) else jlo a b 1 (jlo a b (-1) (rmin (tsin (some a)) (tsin (some b))))
def snh (a b : Rat) (i : Nat) : Rat := if i = 0 then rmax (tsin (some a)) (tsin (some b)) else if i = 1 then jhi a b (-1) (rmax (tsin (some a)) (tsin (some b))) else jhi a b 1 (jhi a b (-1) (rmax (tsin (some a)) (tsin (some b))))
theorem sp_jo {a b n l h : Rat} {k : Nat} (s : Sp l h k) (hn : Rz n 1) : Sp (jlo a b n l) (jhi a b n h) (k + 1) := by
  unfold jlo jhi
  split
  · exact s.join ⟨hn, hn, Rat.le_refl⟩
  · exact ⟨s.low.mono (by omega), s.high.mono (by omega), s.le⟩
theorem snl_sp {a b : Rat} {k : Nat} (h : Sp a b k) (i : Nat) : Sp (snl a b i) (snh a b i) (4 * k + 6) := by
  have s0 : Sp (rmin (tsin (some a)) (tsin (some b))) (rmax (tsin (some a)) (tsin (some b))) (4 * k + 4) := ⟨(rz_sin (o := some a) h.low).min (rz_sin (o := some b) h.high), (rz_sin (o := some a) h.low).max (rz_sin (o := some b) h.high), rmin_le_rmax _ _⟩
  unfold snl snh
  split
  · exact ⟨s0.low.mono (by omega), s0.high.mono (by omega), s0.le⟩
  · split
    · exact ⟨(sp_jo s0 rz_neg1).low.mono (by omega), (sp_jo s0 rz_neg1).high.mono (by omega), (sp_jo s0 rz_neg1).le⟩
    · exact (sp_jo (sp_jo s0 rz_neg1) rz_one).low.mono (by omega) |> fun l => ⟨l, (sp_jo (sp_jo s0 rz_neg1) rz_one).high.mono (by omega), (sp_jo (sp_jo s0 rz_neg1) rz_one).le⟩

section
variable {G : Gl} {fl : Nat} {A : Hp}

set_option maxHeartbeats 8000000 in
theorem sins {a b : Rat} {k : Nat} (hG : G 1 = some tabV) (h : Sp a b k) (hk : k ≤ 100000000) : Sound Tryd.prog G 70 [prV a b] fl A (prV (snl a b 2) (snh a b 2)) A := by
  refine Sound.of mixed Tryd.func70 Tryd.ntmps70 Tryd.results70 (by kernel_rfl) rfl (by kernel_rfl) (by kernel_rfl) fun hA => ?_
  have hfl : fl ≤ A.next := by have := hA.floor; omega
  have hfl1 : fl ≤ A.next + 1 := by have := hA.floor; omega
  have hfl2 : fl ≤ A.next + 2 := by have := hA.floor; omega
  have hfl3 : fl ≤ A.next + 3 := by have := hA.floor; omega
  have hfl4 : fl ≤ A.next + 4 := by have := hA.floor; omega
  have hfl5 : fl ≤ A.next + 5 := by have := hA.floor; omega
  have hfl6 : fl ≤ A.next + 6 := by have := hA.floor; omega
  have hfl7 : fl ≤ A.next + 7 := by have := hA.floor; omega
  have hfl8 : fl ≤ A.next + 8 := by have := hA.floor; omega
  have hfl9 : fl ≤ A.next + 9 := by have := hA.floor; omega
  have hfl10 : fl ≤ A.next + 10 := by have := hA.floor; omega
  have hfl11 : fl ≤ A.next + 11 := by have := hA.floor; omega
  have jj := fun fl A => sjoin (G := G) (fl := fl) (A := A) hG h h (by omega)
  have t1 := fun fl A => tof (G := G) (fl := fl) (A := A) hG h.low (by omega)
  have t2 := fun fl A => tof (G := G) (fl := fl) (A := A) hG h.high (by omega)
  have za := rz_sin (o := some a) h.low
  have zb := rz_sin (o := some b) h.high
  have s1 := fun fl A => tsin_some (G := G) (fl := fl) (A := A) hG h.low (by omega)
  have s2 := fun fl A => tsin_some (G := G) (fl := fl) (A := A) hG h.high (by omega)
  have f1 := fun fl A => sof (G := G) (fl := fl) (A := A) hG za (by omega)
  have f2 := fun fl A => sof (G := G) (fl := fl) (A := A) hG zb (by omega)
  have j0 := fun fl A => sjoin (G := G) (fl := fl) (A := A) hG ⟨za, za, Rat.le_refl⟩ ⟨zb, zb, Rat.le_refl⟩ (by omega)
  have zn := fun fl A => rof_ok (G := G) (fl := fl) (A := A) (n := -1) (by decide) (by decide)
  have z1 := fun fl A => rof_ok (G := G) (fl := fl) (A := A) (n := 1) (by decide) (by decide)
  have rm : ∀ x : Rat, rmin x x = x := fun x => by unfold rmin; split <;> rfl
  have rM : ∀ x : Rat, rmax x x = x := fun x => by unfold rmax; split <;> rfl
  rw [rm, rM] at jj
  have hrb := prV_rb A.next (snl a b 2) (snh a b 2)
  have w4 : ((8 : Nat) : Int) * ((2 : Nat) : Int) ≤ 281474976710656 := by decide
  have sp0 := snl_sp h 0
  have hn := fun fl A => shas (G := G) (fl := fl) (A := A) (c := -1) hG h rz_neg1 (by omega)
  have on := fun fl A => sof (G := G) (fl := fl) (A := A) (a := -1) hG rz_neg1 (by omega)
  have kn := fun fl A => sjoin (G := G) (fl := fl) (A := A) (c := -1) (d := -1) hG sp0 ⟨rz_neg1, rz_neg1, Rat.le_refl⟩ (by omega)
  have sp1 := snl_sp h 1
  have h1 := fun fl A => shas (G := G) (fl := fl) (A := A) (c := 1) hG h rz_one (by omega)
  have o1 := fun fl A => sof (G := G) (fl := fl) (A := A) (a := 1) hG rz_one (by omega)
  have k1 := fun fl A => sjoin (G := G) (fl := fl) (A := A) (c := 1) (d := 1) hG sp1 ⟨rz_one, rz_one, Rat.le_refl⟩ (by omega)
  rw [rOf_neg1] at zn
  rw [rOf_one] at z1
  have l0 : rmin (tsin (some a)) (tsin (some b)) = snl a b 0 := rfl
  have l1 : rmax (tsin (some a)) (tsin (some b)) = snh a b 0 := rfl
  rw [l0, l1] at j0
  simp only [tnV_def, ratV_def, prV_def, Option.getD_some] at jj t1 t2 s1 s2 f1 f2 j0 zn z1 hn h1 on o1 kn k1 hrb ⊢
  simp only [↓R1, R2, R3, R4, TY, reduceIte, Nat.reduceEqDiff, Nat.reduceAdd, Nat.reduceMul, Nat.reduceLT, Nat.reduceLeDiff, reduceCtorEq, decide_true, decide_false, Int.reduceLE, Int.reduceLT, Int.reduceToNat, Int.reduceAdd, Int.reduceSub, Int.reduceMul, Int.reduceEq, hfl, hfl1, hfl2, hfl3, hfl4, hfl5, hfl6, NE, NE9, Nat.add_assoc, hfl7, hfl8, hfl9, hfl10, hfl11, w4, zl_len, List.length_set, append_eq, List.cons_append, List.nil_append]
  refine call_of (jj _ _) ?_
  simp only [↓R1, R2, R3, R4, TY, reduceIte, Nat.reduceEqDiff, Nat.reduceAdd, Nat.reduceMul, Nat.reduceLT, Nat.reduceLeDiff, reduceCtorEq, decide_true, decide_false, Int.reduceLE, Int.reduceLT, Int.reduceToNat, Int.reduceAdd, Int.reduceSub, Int.reduceMul, Int.reduceEq, hfl, hfl1, hfl2, hfl3, hfl4, hfl5, hfl6, NE, NE9, Nat.add_assoc, hfl7, hfl8, hfl9, hfl10, hfl11, w4, zl_len, List.length_set, append_eq, List.cons_append, List.nil_append]
  refine call_of (t1 _ _) ?_
  simp only [↓R1, R2, R3, R4, TY, reduceIte, Nat.reduceEqDiff, Nat.reduceAdd, Nat.reduceMul, Nat.reduceLT, Nat.reduceLeDiff, reduceCtorEq, decide_true, decide_false, Int.reduceLE, Int.reduceLT, Int.reduceToNat, Int.reduceAdd, Int.reduceSub, Int.reduceMul, Int.reduceEq, hfl, hfl1, hfl2, hfl3, hfl4, hfl5, hfl6, NE, NE9, Nat.add_assoc, hfl7, hfl8, hfl9, hfl10, hfl11, w4, zl_len, List.length_set, append_eq, List.cons_append, List.nil_append]
  refine call_of (s1 _ _) ?_
  simp only [↓R1, R2, R3, R4, TY, reduceIte, Nat.reduceEqDiff, Nat.reduceAdd, Nat.reduceMul, Nat.reduceLT, Nat.reduceLeDiff, reduceCtorEq, decide_true, decide_false, Int.reduceLE, Int.reduceLT, Int.reduceToNat, Int.reduceAdd, Int.reduceSub, Int.reduceMul, Int.reduceEq, hfl, hfl1, hfl2, hfl3, hfl4, hfl5, hfl6, NE, NE9, Nat.add_assoc, hfl7, hfl8, hfl9, hfl10, hfl11, w4, zl_len, List.length_set, append_eq, List.cons_append, List.nil_append]
  refine call_of (f1 _ _) ?_
  simp only [↓R1, R2, R3, R4, TY, reduceIte, Nat.reduceEqDiff, Nat.reduceAdd, Nat.reduceMul, Nat.reduceLT, Nat.reduceLeDiff, reduceCtorEq, decide_true, decide_false, Int.reduceLE, Int.reduceLT, Int.reduceToNat, Int.reduceAdd, Int.reduceSub, Int.reduceMul, Int.reduceEq, hfl, hfl1, hfl2, hfl3, hfl4, hfl5, hfl6, NE, NE9, Nat.add_assoc, hfl7, hfl8, hfl9, hfl10, hfl11, w4, zl_len, List.length_set, append_eq, List.cons_append, List.nil_append]
  refine call_of (t2 _ _) ?_
  simp only [↓R1, R2, R3, R4, TY, reduceIte, Nat.reduceEqDiff, Nat.reduceAdd, Nat.reduceMul, Nat.reduceLT, Nat.reduceLeDiff, reduceCtorEq, decide_true, decide_false, Int.reduceLE, Int.reduceLT, Int.reduceToNat, Int.reduceAdd, Int.reduceSub, Int.reduceMul, Int.reduceEq, hfl, hfl1, hfl2, hfl3, hfl4, hfl5, hfl6, NE, NE9, Nat.add_assoc, hfl7, hfl8, hfl9, hfl10, hfl11, w4, zl_len, List.length_set, append_eq, List.cons_append, List.nil_append]
  refine call_of (s2 _ _) ?_
  simp only [↓R1, R2, R3, R4, TY, reduceIte, Nat.reduceEqDiff, Nat.reduceAdd, Nat.reduceMul, Nat.reduceLT, Nat.reduceLeDiff, reduceCtorEq, decide_true, decide_false, Int.reduceLE, Int.reduceLT, Int.reduceToNat, Int.reduceAdd, Int.reduceSub, Int.reduceMul, Int.reduceEq, hfl, hfl1, hfl2, hfl3, hfl4, hfl5, hfl6, NE, NE9, Nat.add_assoc, hfl7, hfl8, hfl9, hfl10, hfl11, w4, zl_len, List.length_set, append_eq, List.cons_append, List.nil_append]
  refine call_of (f2 _ _) ?_
  simp only [↓R1, R2, R3, R4, TY, reduceIte, Nat.reduceEqDiff, Nat.reduceAdd, Nat.reduceMul, Nat.reduceLT, Nat.reduceLeDiff, reduceCtorEq, decide_true, decide_false, Int.reduceLE, Int.reduceLT, Int.reduceToNat, Int.reduceAdd, Int.reduceSub, Int.reduceMul, Int.reduceEq, hfl, hfl1, hfl2, hfl3, hfl4, hfl5, hfl6, NE, NE9, Nat.add_assoc, hfl7, hfl8, hfl9, hfl10, hfl11, w4, zl_len, List.length_set, append_eq, List.cons_append, List.nil_append]
  refine call_of (j0 _ _) ?_
  simp only [↓R1, R2, R3, R4, TY, reduceIte, Nat.reduceEqDiff, Nat.reduceAdd, Nat.reduceMul, Nat.reduceLT, Nat.reduceLeDiff, reduceCtorEq, decide_true, decide_false, Int.reduceLE, Int.reduceLT, Int.reduceToNat, Int.reduceAdd, Int.reduceSub, Int.reduceMul, Int.reduceEq, hfl, hfl1, hfl2, hfl3, hfl4, hfl5, hfl6, NE, NE9, Nat.add_assoc, hfl7, hfl8, hfl9, hfl10, hfl11, w4, zl_len, List.length_set, append_eq, List.cons_append, List.nil_append]
  rw [floOf_wr (by kernel_rfl)]
  simp only [↓R1, R2, R3, R4, TY, reduceIte, Nat.reduceEqDiff, Nat.reduceAdd, Nat.reduceMul, Nat.reduceLT, Nat.reduceLeDiff, reduceCtorEq, decide_true, decide_false, Int.reduceLE, Int.reduceLT, Int.reduceToNat, Int.reduceAdd, Int.reduceSub, Int.reduceMul, Int.reduceEq, hfl, hfl1, hfl2, hfl3, hfl4, hfl5, hfl6, NE, NE9, Nat.add_assoc, hfl7, hfl8, hfl9, hfl10, hfl11, w4, zl_len, List.length_set, append_eq, List.cons_append, List.nil_append]
  refine range_of 23 2 (fun i τ C => Xt A.next A C ∧ C.next = A.next + 4 + i ∧ C.blk A.next = some (.row (prC a b) 0 6) ∧ C.blk (A.next + 1) = some (.row [.bool false, .string (S []), .string (S []), .bool false, .string (S []), .string (S [])] 0 6) ∧ C.blk (A.next + 2) = some (.row (prC (snl a b i) (snh a b i)) 0 6) ∧ C.blk (A.next + 3) = some (.row [.int .i64 (-1), .int .i64 1] 0 1) ∧
    τ 1 = some (.pointer (some ⟨A.next, 0, some 0⟩)) ∧ τ 2 = some (.pointer (some ⟨A.next + 1, 0, some 0⟩)) ∧ τ 3 = some (.pointer (some ⟨A.next + 2, 0, some 0⟩)) ∧ τ 21 = some (.slice (some ⟨A.next + 3, 0, some 0⟩) 2 2) ∧ τ 22 = some (.int .i64 2) ∧ τ 23 = some (.int .i64 i)) ?_ ?_
  · generalize hB : Hp.push _ _ = B
    refine ⟨?_, ?_, ?_, ?_, ?_, ?_, rfl, rfl, rfl, rfl, rfl, rfl⟩
    · rw [← hB]
      simp (maxDischargeDepth := 20) only [xt_push, xt_put, xt_refl, Nat.le_refl, Nat.le_add_right, Nat.add_assoc, Nat.reduceAdd]
    · rw [← hB]; rfl
    · rw [← hB]; simp [Hp.put_blk, Hp.push_blk, Nat.add_assoc, prC]
    · rw [← hB]; simp [Hp.put_blk, Hp.push_blk, Nat.add_assoc]
    · rw [← hB]; simp [Hp.put_blk, Hp.push_blk, Nat.add_assoc, prC]
    · rw [← hB]; exact (push_at rfl).trans rfl
  rintro i τ C hi2 ⟨hCx, hCn, hC0, hC1, hC2, hC3, q1, q2, q3, q21, q22, q23⟩
  have d0 : ∀ i, C.get G ⟨A.next, i, some 0⟩ = (prC a b)[i]? := fun i => by simp only [Hp.get, hC0, if_true]
  have d2 : ∀ j, C.get G ⟨A.next + 2, j, some 0⟩ = (prC (snl a b i) (snh a b i))[j]? := fun i => by simp only [Hp.get, hC2, if_true]
  have d3 : ∀ i, C.get G ⟨A.next + 3, i, some 0⟩ = ([.int .i64 (-1), .int .i64 1] : List Value)[i]? := fun i => by simp only [Hp.get, hC3, if_true]
  simp only [↓R1, R2, R3, R4, TY, reduceIte, Nat.reduceEqDiff, Nat.reduceAdd, Nat.reduceMul, Nat.reduceLT, Nat.reduceLeDiff, reduceCtorEq, decide_true, decide_false, Int.reduceLE, Int.reduceLT, Int.reduceToNat, Int.reduceAdd, Int.reduceSub, Int.reduceMul, Int.reduceEq, q22, q23]
  refine ⟨fun hlt => ?_, fun hlt => ?_⟩
  · have hi3 : i = 0 ∨ i = 1 := by omega
    rcases hi3 with rfl | rfl
    · have hj : ((0 : Nat) : Int) < ((2 : Nat) : Int) := by decide
      simp only [↓R1, R2, R3, R4, TY, reduceIte, Nat.reduceEqDiff, Nat.reduceAdd, Nat.reduceMul, Nat.reduceLT, Nat.reduceLeDiff, reduceCtorEq, decide_true, decide_false, Int.reduceLE, Int.reduceLT, Int.reduceToNat, Int.reduceAdd, Int.reduceSub, Int.reduceMul, Int.reduceEq, hj, q1, q2, q3, q21, q22, q23, d0, d2, d3, hC2, hCn, prC, List.getElem?_cons_zero, List.getElem?_cons_succ, List.length_cons, List.length_nil, append_eq, List.cons_append, List.nil_append, hfl, hfl1, hfl2, hfl3, hfl4, hfl5, hfl6, NE, NE9, Nat.add_assoc, hfl7, hfl8, hfl9, hfl10, hfl11]
      refine call_of (zn _ _) ?_
      simp only [↓R1, R2, R3, R4, TY, reduceIte, Nat.reduceEqDiff, Nat.reduceAdd, Nat.reduceMul, Nat.reduceLT, Nat.reduceLeDiff, reduceCtorEq, decide_true, decide_false, Int.reduceLE, Int.reduceLT, Int.reduceToNat, Int.reduceAdd, Int.reduceSub, Int.reduceMul, Int.reduceEq, hj, q1, q2, q3, q21, q22, q23, d0, d2, d3, hC2, hCn, prC, List.getElem?_cons_zero, List.getElem?_cons_succ, List.length_cons, List.length_nil, append_eq, List.cons_append, List.nil_append, hfl, hfl1, hfl2, hfl3, hfl4, hfl5, hfl6, NE, NE9, Nat.add_assoc, hfl7, hfl8, hfl9, hfl10, hfl11]
      refine call_of (hn _ _) ?_
      simp only [↓R1, R2, R3, R4, TY, reduceIte, Nat.reduceEqDiff, Nat.reduceAdd, Nat.reduceMul, Nat.reduceLT, Nat.reduceLeDiff, reduceCtorEq, decide_true, decide_false, Int.reduceLE, Int.reduceLT, Int.reduceToNat, Int.reduceAdd, Int.reduceSub, Int.reduceMul, Int.reduceEq, hj, q1, q2, q3, q21, q22, q23, d0, d2, d3, hC2, hCn, prC, List.getElem?_cons_zero, List.getElem?_cons_succ, List.length_cons, List.length_nil, append_eq, List.cons_append, List.nil_append, hfl, hfl1, hfl2, hfl3, hfl4, hfl5, hfl6, NE, NE9, Nat.add_assoc, hfl7, hfl8, hfl9, hfl10, hfl11]
      refine ⟨fun hy => ?_, fun hy => ?_⟩
      · have e1 : snl a b 1 = rmin (snl a b 0) (-1) := if_pos hy
        have e2 : snh a b 1 = rmax (snh a b 0) (-1) := if_pos hy
        refine call_of (on _ _) ?_
        simp only [↓R1, R2, R3, R4, TY, reduceIte, Nat.reduceEqDiff, Nat.reduceAdd, Nat.reduceMul, Nat.reduceLT, Nat.reduceLeDiff, reduceCtorEq, decide_true, decide_false, Int.reduceLE, Int.reduceLT, Int.reduceToNat, Int.reduceAdd, Int.reduceSub, Int.reduceMul, Int.reduceEq, hj, q1, q2, q3, q21, q22, q23, d0, d2, d3, hC2, hCn, prC, List.getElem?_cons_zero, List.getElem?_cons_succ, List.length_cons, List.length_nil, append_eq, List.cons_append, List.nil_append, hfl, hfl1, hfl2, hfl3, hfl4, hfl5, hfl6, NE, NE9, Nat.add_assoc, hfl7, hfl8, hfl9, hfl10, hfl11]
        refine call_of (kn _ _) ?_
        simp only [↓R1, R2, R3, R4, TY, reduceIte, Nat.reduceEqDiff, Nat.reduceAdd, Nat.reduceMul, Nat.reduceLT, Nat.reduceLeDiff, reduceCtorEq, decide_true, decide_false, Int.reduceLE, Int.reduceLT, Int.reduceToNat, Int.reduceAdd, Int.reduceSub, Int.reduceMul, Int.reduceEq, hj, q1, q2, q3, q21, q22, q23, d0, d2, d3, hC2, hCn, prC, List.getElem?_cons_zero, List.getElem?_cons_succ, List.length_cons, List.length_nil, append_eq, List.cons_append, List.nil_append, hfl, hfl1, hfl2, hfl3, hfl4, hfl5, hfl6, NE, NE9, Nat.add_assoc, hfl7, hfl8, hfl9, hfl10, hfl11]
        rw [floOf_wr (by kernel_rfl)]
        simp only [↓R1, R2, R3, R4, TY, reduceIte, Nat.reduceEqDiff, Nat.reduceAdd, Nat.reduceMul, Nat.reduceLT, Nat.reduceLeDiff, reduceCtorEq, decide_true, decide_false, Int.reduceLE, Int.reduceLT, Int.reduceToNat, Int.reduceAdd, Int.reduceSub, Int.reduceMul, Int.reduceEq, hj, q1, q2, q3, q21, q22, q23, d0, d2, d3, hC2, hCn, prC, List.getElem?_cons_zero, List.getElem?_cons_succ, List.length_cons, List.length_nil, append_eq, List.cons_append, List.nil_append, hfl, hfl1, hfl2, hfl3, hfl4, hfl5, hfl6, NE, NE9, Nat.add_assoc, hfl7, hfl8, hfl9, hfl10, hfl11]
        refine range_on q23 (by omega) rfl ⟨?_, ?_, ?_, ?_, ?_, ?_, q1, q2, q3, q21, q22, rfl⟩
        · simp (maxDischargeDepth := 20) only [xt_push, xt_put, hCx, Nat.le_refl, Nat.le_add_right, Nat.add_assoc, Nat.reduceAdd]
        · simp only [Hp.put_next, Hp.push_next, hCn, Nat.add_assoc, Nat.reduceAdd]
        · simp only [Hp.put_blk, Hp.push_blk, hCn, Nat.add_assoc, Nat.reduceAdd, Nat.reduceEqDiff, NE, NE9, if_false]; exact hC0
        · simp only [Hp.put_blk, Hp.push_blk, hCn, Nat.add_assoc, Nat.reduceAdd, Nat.add_left_cancel_iff, Nat.reduceEqDiff, NE, NE9, if_false]; exact hC1
        · simp only [Hp.put_blk, if_true]; rw [e1, e2]
        · simp only [Hp.put_blk, Hp.push_blk, hCn, Nat.add_assoc, Nat.reduceAdd, Nat.add_left_cancel_iff, Nat.reduceEqDiff, NE, NE9, if_false]; exact hC3
      · have e1 : snl a b 1 = snl a b 0 := if_neg hy
        have e2 : snh a b 1 = snh a b 0 := if_neg hy
        refine range_on q23 (by omega) rfl ⟨?_, ?_, ?_, ?_, ?_, ?_, q1, q2, q3, q21, q22, rfl⟩
        · simp (maxDischargeDepth := 20) only [xt_push, xt_put, hCx, Nat.le_refl, Nat.le_add_right, Nat.add_assoc, Nat.reduceAdd]
        · simp only [Hp.put_next, Hp.push_next, hCn, Nat.add_assoc, Nat.reduceAdd]
        · simp only [Hp.put_blk, Hp.push_blk, hCn, Nat.add_assoc, Nat.reduceAdd, Nat.reduceEqDiff, NE, NE9, if_false]; exact hC0
        · simp only [Hp.put_blk, Hp.push_blk, hCn, Nat.add_assoc, Nat.reduceAdd, Nat.add_left_cancel_iff, Nat.reduceEqDiff, NE, NE9, if_false]; exact hC1
        · simp only [Hp.put_blk, Hp.push_blk, hCn, Nat.add_assoc, Nat.reduceAdd, Nat.add_left_cancel_iff, Nat.reduceEqDiff, NE, NE9, if_false]; rw [e1, e2]; exact hC2
        · simp only [Hp.put_blk, Hp.push_blk, hCn, Nat.add_assoc, Nat.reduceAdd, Nat.add_left_cancel_iff, Nat.reduceEqDiff, NE, NE9, if_false]; exact hC3
    · have hj : ((1 : Nat) : Int) < ((2 : Nat) : Int) := by decide
      simp only [↓R1, R2, R3, R4, TY, reduceIte, Nat.reduceEqDiff, Nat.reduceAdd, Nat.reduceMul, Nat.reduceLT, Nat.reduceLeDiff, reduceCtorEq, decide_true, decide_false, Int.reduceLE, Int.reduceLT, Int.reduceToNat, Int.reduceAdd, Int.reduceSub, Int.reduceMul, Int.reduceEq, hj, q1, q2, q3, q21, q22, q23, d0, d2, d3, hC2, hCn, prC, List.getElem?_cons_zero, List.getElem?_cons_succ, List.length_cons, List.length_nil, append_eq, List.cons_append, List.nil_append, hfl, hfl1, hfl2, hfl3, hfl4, hfl5, hfl6, NE, NE9, Nat.add_assoc, hfl7, hfl8, hfl9, hfl10, hfl11]
      refine call_of (z1 _ _) ?_
      simp only [↓R1, R2, R3, R4, TY, reduceIte, Nat.reduceEqDiff, Nat.reduceAdd, Nat.reduceMul, Nat.reduceLT, Nat.reduceLeDiff, reduceCtorEq, decide_true, decide_false, Int.reduceLE, Int.reduceLT, Int.reduceToNat, Int.reduceAdd, Int.reduceSub, Int.reduceMul, Int.reduceEq, hj, q1, q2, q3, q21, q22, q23, d0, d2, d3, hC2, hCn, prC, List.getElem?_cons_zero, List.getElem?_cons_succ, List.length_cons, List.length_nil, append_eq, List.cons_append, List.nil_append, hfl, hfl1, hfl2, hfl3, hfl4, hfl5, hfl6, NE, NE9, Nat.add_assoc, hfl7, hfl8, hfl9, hfl10, hfl11]
      refine call_of (h1 _ _) ?_
      simp only [↓R1, R2, R3, R4, TY, reduceIte, Nat.reduceEqDiff, Nat.reduceAdd, Nat.reduceMul, Nat.reduceLT, Nat.reduceLeDiff, reduceCtorEq, decide_true, decide_false, Int.reduceLE, Int.reduceLT, Int.reduceToNat, Int.reduceAdd, Int.reduceSub, Int.reduceMul, Int.reduceEq, hj, q1, q2, q3, q21, q22, q23, d0, d2, d3, hC2, hCn, prC, List.getElem?_cons_zero, List.getElem?_cons_succ, List.length_cons, List.length_nil, append_eq, List.cons_append, List.nil_append, hfl, hfl1, hfl2, hfl3, hfl4, hfl5, hfl6, NE, NE9, Nat.add_assoc, hfl7, hfl8, hfl9, hfl10, hfl11]
      refine ⟨fun hy => ?_, fun hy => ?_⟩
      · have e1 : snl a b 2 = rmin (snl a b 1) (1) := if_pos hy
        have e2 : snh a b 2 = rmax (snh a b 1) (1) := if_pos hy
        refine call_of (o1 _ _) ?_
        simp only [↓R1, R2, R3, R4, TY, reduceIte, Nat.reduceEqDiff, Nat.reduceAdd, Nat.reduceMul, Nat.reduceLT, Nat.reduceLeDiff, reduceCtorEq, decide_true, decide_false, Int.reduceLE, Int.reduceLT, Int.reduceToNat, Int.reduceAdd, Int.reduceSub, Int.reduceMul, Int.reduceEq, hj, q1, q2, q3, q21, q22, q23, d0, d2, d3, hC2, hCn, prC, List.getElem?_cons_zero, List.getElem?_cons_succ, List.length_cons, List.length_nil, append_eq, List.cons_append, List.nil_append, hfl, hfl1, hfl2, hfl3, hfl4, hfl5, hfl6, NE, NE9, Nat.add_assoc, hfl7, hfl8, hfl9, hfl10, hfl11]
        refine call_of (k1 _ _) ?_
        simp only [↓R1, R2, R3, R4, TY, reduceIte, Nat.reduceEqDiff, Nat.reduceAdd, Nat.reduceMul, Nat.reduceLT, Nat.reduceLeDiff, reduceCtorEq, decide_true, decide_false, Int.reduceLE, Int.reduceLT, Int.reduceToNat, Int.reduceAdd, Int.reduceSub, Int.reduceMul, Int.reduceEq, hj, q1, q2, q3, q21, q22, q23, d0, d2, d3, hC2, hCn, prC, List.getElem?_cons_zero, List.getElem?_cons_succ, List.length_cons, List.length_nil, append_eq, List.cons_append, List.nil_append, hfl, hfl1, hfl2, hfl3, hfl4, hfl5, hfl6, NE, NE9, Nat.add_assoc, hfl7, hfl8, hfl9, hfl10, hfl11]
        rw [floOf_wr (by kernel_rfl)]
        simp only [↓R1, R2, R3, R4, TY, reduceIte, Nat.reduceEqDiff, Nat.reduceAdd, Nat.reduceMul, Nat.reduceLT, Nat.reduceLeDiff, reduceCtorEq, decide_true, decide_false, Int.reduceLE, Int.reduceLT, Int.reduceToNat, Int.reduceAdd, Int.reduceSub, Int.reduceMul, Int.reduceEq, hj, q1, q2, q3, q21, q22, q23, d0, d2, d3, hC2, hCn, prC, List.getElem?_cons_zero, List.getElem?_cons_succ, List.length_cons, List.length_nil, append_eq, List.cons_append, List.nil_append, hfl, hfl1, hfl2, hfl3, hfl4, hfl5, hfl6, NE, NE9, Nat.add_assoc, hfl7, hfl8, hfl9, hfl10, hfl11]
        refine range_on q23 (by omega) rfl ⟨?_, ?_, ?_, ?_, ?_, ?_, q1, q2, q3, q21, q22, rfl⟩
        · simp (maxDischargeDepth := 20) only [xt_push, xt_put, hCx, Nat.le_refl, Nat.le_add_right, Nat.add_assoc, Nat.reduceAdd]
        · simp only [Hp.put_next, Hp.push_next, hCn, Nat.add_assoc, Nat.reduceAdd]
        · simp only [Hp.put_blk, Hp.push_blk, hCn, Nat.add_assoc, Nat.reduceAdd, Nat.reduceEqDiff, NE, NE9, if_false]; exact hC0
        · simp only [Hp.put_blk, Hp.push_blk, hCn, Nat.add_assoc, Nat.reduceAdd, Nat.add_left_cancel_iff, Nat.reduceEqDiff, NE, NE9, if_false]; exact hC1
        · simp only [Hp.put_blk, if_true]; rw [e1, e2]
        · simp only [Hp.put_blk, Hp.push_blk, hCn, Nat.add_assoc, Nat.reduceAdd, Nat.add_left_cancel_iff, Nat.reduceEqDiff, NE, NE9, if_false]; exact hC3
      · have e1 : snl a b 2 = snl a b 1 := if_neg hy
        have e2 : snh a b 2 = snh a b 1 := if_neg hy
        refine range_on q23 (by omega) rfl ⟨?_, ?_, ?_, ?_, ?_, ?_, q1, q2, q3, q21, q22, rfl⟩
        · simp (maxDischargeDepth := 20) only [xt_push, xt_put, hCx, Nat.le_refl, Nat.le_add_right, Nat.add_assoc, Nat.reduceAdd]
        · simp only [Hp.put_next, Hp.push_next, hCn, Nat.add_assoc, Nat.reduceAdd]
        · simp only [Hp.put_blk, Hp.push_blk, hCn, Nat.add_assoc, Nat.reduceAdd, Nat.reduceEqDiff, NE, NE9, if_false]; exact hC0
        · simp only [Hp.put_blk, Hp.push_blk, hCn, Nat.add_assoc, Nat.reduceAdd, Nat.add_left_cancel_iff, Nat.reduceEqDiff, NE, NE9, if_false]; exact hC1
        · simp only [Hp.put_blk, Hp.push_blk, hCn, Nat.add_assoc, Nat.reduceAdd, Nat.add_left_cancel_iff, Nat.reduceEqDiff, NE, NE9, if_false]; rw [e1, e2]; exact hC2
        · simp only [Hp.put_blk, Hp.push_blk, hCn, Nat.add_assoc, Nat.reduceAdd, Nat.add_left_cancel_iff, Nat.reduceEqDiff, NE, NE9, if_false]; exact hC3
  · obtain rfl : i = 2 := by omega
    simp only [↓R1, R2, R3, R4, TY, reduceIte, Nat.reduceEqDiff, Nat.reduceAdd, Nat.reduceMul, Nat.reduceLT, Nat.reduceLeDiff, reduceCtorEq, decide_true, decide_false, Int.reduceLE, Int.reduceLT, Int.reduceToNat, Int.reduceAdd, Int.reduceSub, Int.reduceMul, Int.reduceEq, q1, q2, q3, q21, q22, q23, d0, d2, d3, hC2, hCn, prC, List.getElem?_cons_zero, List.getElem?_cons_succ, List.length_cons, List.length_nil, append_eq, List.cons_append, List.nil_append, hfl, hfl1, hfl2, hfl3, hfl4, hfl5, hfl6, NE, NE9, Nat.add_assoc, hfl7, hfl8, hfl9, hfl10, hfl11, hC1]
    refine Ended.back hA ?_ rfl hrb
    simp (maxDischargeDepth := 20) only [xt_push, xt_put, hCx, Nat.le_refl, Nat.le_add_right, Nat.add_assoc, Nat.reduceAdd]
end
end Go.Proofs.YtjkimjmocfjjnaaDoor.Ab
