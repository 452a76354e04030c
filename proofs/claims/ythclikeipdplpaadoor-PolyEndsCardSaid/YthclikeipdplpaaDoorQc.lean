/- Rational numbers are ordered: plain facts. -/
import Derived.Test.YthclikeipdplpaaDoorRi
import Derived.Test.YthclikeipdplpaaDoorQa
namespace Go.Proofs.YthclikeipdplpaaDoor.Ab
open Go.RowKit
set_option linter.unusedVariables false
set_option linter.unusedSimpArgs false
set_option maxRecDepth 100000

theorem num_neg_iff {q : Rat} : q.num < 0 ↔ q < 0 := by
  have := Rat.num_nonneg (q := q)
  rw [← Rat.not_le, ← this]; omega
theorem rsign_eq (q : Rat) : rsign q = if q = 0 then 0 else if q < 0 then -1 else 1 := by
  unfold rsign
  simp only [num_neg_iff, Rat.num_eq_zero]
theorem rabs_eq (q : Rat) : rabs q = if q < 0 then -q else q := by
  unfold rabs
  simp only [num_neg_iff]
theorem rlt_asymm {p q : Rat} (h : p < q) : ¬ q < p := Rat.not_lt.2 (Rat.le_of_lt h)
theorem req_of {p q : Rat} (h : ¬ p < q) (h2 : ¬ q < p) : p = q := Rat.le_antisymm (Rat.not_lt.1 h2) (Rat.not_lt.1 h)
theorem rlt_irrefl (p : Rat) : ¬ p < p := Rat.lt_irrefl
theorem rcmp_sub (p q : Rat) : rsign (p - q) = rcmp p q := by
  rw [rsign_eq, rcmp]
  have h1 : p - q < 0 ↔ p < q := by rw [Rat.sub_lt_iff, Rat.zero_add]
  have h2 : p - q = 0 ↔ p = q := ⟨fun h => by have := Rat.sub_add_cancel (a := p) (b := q); rw [h, Rat.zero_add] at this; exact this.symm, fun h => by rw [h, Rat.sub_self]⟩
  by_cases ha : p < q
  · have : p ≠ q := fun e => by rw [e] at ha; exact rlt_irrefl _ ha
    rw [if_neg (fun e => this (h2.1 e)), if_pos (h1.2 ha), if_pos ha]
  · by_cases hb : q < p
    · have : p ≠ q := fun e => by rw [e] at hb; exact rlt_irrefl _ hb
      rw [if_neg (fun e => this (h2.1 e)), if_neg (fun e => ha (h1.1 e)), if_neg ha, if_pos hb]
    · rw [if_pos (h2.2 (req_of ha hb)), if_neg ha, if_neg hb]
theorem rcmp_swap (p q : Rat) : rcmp q p = -rcmp p q := by
  unfold rcmp
  by_cases ha : p < q
  · rw [if_neg (rlt_asymm ha), if_pos ha, if_pos ha]; rfl
  · by_cases hb : q < p
    · rw [if_pos hb, if_neg ha, if_pos hb]
    · rw [if_neg hb, if_neg ha, if_neg ha, if_neg hb]; rfl
theorem rcmp_zero (p q : Rat) : (rcmp p q = 0) = (p = q) := by
  apply propext
  unfold rcmp
  by_cases ha : p < q
  · rw [if_pos ha]; exact ⟨fun h => absurd h (by decide), fun e => absurd ha (by rw [e]; exact rlt_irrefl _)⟩
  · by_cases hb : q < p
    · rw [if_neg ha, if_pos hb]; exact ⟨fun h => absurd h (by decide), fun e => absurd hb (by rw [e]; exact rlt_irrefl _)⟩
    · rw [if_neg ha, if_neg hb]; exact ⟨fun _ => req_of ha hb, fun _ => rfl⟩
theorem rminmax (p q : Rat) : rcmp (rmin p q) (rmax p q) ≤ 0 ∧ rmin p q + rmax p q = p + q := by
  unfold rmin rmax
  by_cases ha : p < q
  · have e : rcmp p q = -1 := by rw [rcmp, if_pos ha]
    rw [e, if_pos (by omega), if_neg (by omega), e]; exact ⟨by omega, rfl⟩
  · by_cases hb : q < p
    · have e : rcmp p q = 1 := by rw [rcmp, if_neg ha, if_pos hb]
      have e' : rcmp q p = -1 := by rw [rcmp_swap, e]
      rw [e, if_neg (by omega), if_pos (by omega), e']; exact ⟨by omega, Rat.add_comm _ _⟩
    · have h := req_of ha hb
      subst h
      have e : rcmp p p = 0 := by rw [rcmp_zero]
      simp [e]
theorem rcmp_add (p q r : Rat) : rcmp (p + r) (q + r) = rcmp p q := by
  unfold rcmp
  simp only [Rat.add_lt_add_right]
theorem rcmp_mul (p q r : Rat) : rcmp (p * r) (q * r) = rcmp p q * rsign r := by
  rw [rsign_eq]
  by_cases h0 : r = 0
  · subst h0
    rw [if_pos rfl, Rat.mul_zero, Rat.mul_zero, Int.mul_zero, rcmp_zero]
  · rw [if_neg h0]
    by_cases hn : r < 0
    · rw [if_pos hn]
      have hs : 0 < -r := by rw [← Rat.neg_zero]; exact Rat.neg_lt_neg hn
      have e : ∀ x : Rat, x * r = -(x * -r) := fun x => by rw [Rat.mul_neg, Rat.neg_neg]
      rw [e p, e q]
      unfold rcmp
      simp only [Rat.neg_lt_neg_iff, Rat.mul_lt_mul_right hs]
      by_cases ha : p < q
      · rw [if_neg (rlt_asymm ha), if_pos ha, if_pos ha]; rfl
      · by_cases hb : q < p
        · rw [if_pos hb, if_neg ha, if_pos hb]; rfl
        · rw [if_neg hb, if_neg ha, if_neg ha, if_neg hb]; rfl
    · rw [if_neg hn]
      have hs : 0 < r := Rat.lt_of_le_of_ne (Rat.not_lt.1 hn) (Ne.symm h0)
      unfold rcmp
      simp only [Rat.mul_lt_mul_right hs, Int.mul_one]

theorem rabs_mul (p q : Rat) : rabs p * rabs q = rabs (p * q) := by
  rw [rabs_eq, rabs_eq, rabs_eq]
  have hneg : ∀ {x : Rat}, x < 0 → 0 < -x := fun {x} h => by rw [← Rat.neg_zero]; exact Rat.neg_lt_neg h
  by_cases hp : p < 0
  · rw [if_pos hp]
    by_cases hq : q < 0
    · rw [if_pos hq, Rat.neg_mul, Rat.mul_neg, Rat.neg_neg, if_neg]
      have := Rat.mul_pos (hneg hp) (hneg hq)
      rw [Rat.neg_mul, Rat.mul_neg, Rat.neg_neg] at this
      exact rlt_asymm this
    · rw [if_neg hq]
      by_cases h0 : q = 0
      · subst h0; rw [Rat.mul_zero, Rat.mul_zero, if_neg (rlt_irrefl _)]
      · have hs : 0 < q := Rat.lt_of_le_of_ne (Rat.not_lt.1 hq) (Ne.symm h0)
        have := Rat.mul_pos (hneg hp) hs
        rw [Rat.neg_mul] at this
        rw [if_pos, Rat.neg_mul]
        have := Rat.neg_lt_neg this
        rwa [Rat.neg_neg, Rat.neg_zero] at this
  · rw [if_neg hp]
    by_cases hq : q < 0
    · rw [if_pos hq]
      by_cases h0 : p = 0
      · subst h0; rw [Rat.zero_mul, Rat.zero_mul, if_neg (rlt_irrefl _)]
      · have hs : 0 < p := Rat.lt_of_le_of_ne (Rat.not_lt.1 hp) (Ne.symm h0)
        have := Rat.mul_pos hs (hneg hq)
        rw [Rat.mul_neg] at this
        rw [if_pos, Rat.mul_neg]
        have := Rat.neg_lt_neg this
        rwa [Rat.neg_neg, Rat.neg_zero] at this
    · rw [if_neg hq, if_neg]
      exact Rat.not_lt.2 (Rat.mul_nonneg (Rat.not_lt.1 hp) (Rat.not_lt.1 hq))

theorem rcmp_bound (p q : Rat) : -1 ≤ rcmp p q ∧ rcmp p q ≤ 1 := by
  unfold rcmp
  split
  · omega
  · split <;> omega
theorem rsign_bound (q : Rat) : -1 ≤ rsign q ∧ rsign q ≤ 1 := by
  unfold rsign
  split
  · omega
  · split <;> omega
theorem Sz.abs {q : Rat} {k : Nat} (h : Sz q k) : Sz (rabs q) k := by unfold rabs; split; exact h.neg; exact h
theorem Sz.min {p q : Rat} {k : Nat} (hp : Sz p k) (hq : Sz q k) : Sz (rmin p q) k := by unfold rmin; split; exact hp; exact hq
theorem Sz.max {p q : Rat} {k : Nat} (hp : Sz p k) (hq : Sz q k) : Sz (rmax p q) k := by unfold rmax; split; exact hp; exact hq

end Go.Proofs.YthclikeipdplpaaDoor.Ab

/- Rational numbers, rounded. -/
namespace Go.Proofs.YthclikeipdplpaaDoor.Ab
open Go.RowKit
set_option linter.unusedVariables false
set_option linter.unusedSimpArgs false
set_option maxRecDepth 100000

def rdown (q : Rat) (d : Nat) : Rat := mkRat (q * rOf d).floor d
def rup (q : Rat) (d : Nat) : Rat := -rdown (-q) d
theorem rOf_pos {d : Nat} (h : 0 < d) : (0 : Rat) < rOf d := by
  rw [rOf_eq]
  exact Rat.intCast_pos.2 (by omega)
theorem mkRat_mul_of {F : Int} {d : Nat} (h : 0 < d) : mkRat F d * rOf d = rOf F := by
  rw [rOf, rOf, Rat.mkRat_mul_mkRat, Nat.mul_one, Rat.mkRat_eq_iff (by omega) (by omega)]
  simp
theorem rdown_mul (q : Rat) {d : Nat} (h : 0 < d) : rdown q d * rOf d = rOf (q * rOf d).floor := mkRat_mul_of h
theorem unit_mul {d : Nat} (h : 0 < d) : rOf 1 / rOf d * rOf d = rOf 1 := Rat.div_mul_cancel (fun e => by have := rOf_pos h; rw [e] at this; exact Rat.lt_irrefl this)
theorem rOf_one : rOf 1 = 1 := by rw [rOf_eq]; rfl
theorem rdown_le (q : Rat) {d : Nat} (h : 0 < d) : rdown q d ≤ q := by
  refine Rat.le_of_mul_le_mul_right ?_ (rOf_pos h)
  rw [rdown_mul q h, rOf_eq]
  exact Rat.floor_le _
theorem rdown_lt (q : Rat) {d : Nat} (h : 0 < d) : q < rdown q d + rOf 1 / rOf d := by
  rw [← Rat.mul_lt_mul_right (rOf_pos h), Rat.add_mul, rdown_mul q h, unit_mul h, rOf_eq (q * rOf d).floor, rOf_one]
  have := Rat.lt_floor_add_one (q * rOf d)
  rw [Rat.intCast_add] at this
  exact this
theorem rup_ge (q : Rat) {d : Nat} (h : 0 < d) : q ≤ rup q d := by
  unfold rup
  have := Rat.neg_le_neg (rdown_le (-q) h)
  rwa [Rat.neg_neg] at this
theorem rup_lt (q : Rat) {d : Nat} (h : 0 < d) : rup q d - rOf 1 / rOf d < q := by
  have h1 := Rat.neg_lt_neg (rdown_lt (-q) h)
  rw [Rat.neg_neg, Rat.neg_add] at h1
  rw [Rat.sub_eq_add_neg]; exact h1
theorem floor_of (n : Int) : (rOf n).floor = n := by rw [rOf_eq]; exact Rat.floor_intCast n
theorem mkRat_unit {F : Int} {d : Nat} (h : 0 < d) : rOf F * (rOf 1 / rOf d) = mkRat F d := by
  have hne : rOf d ≠ 0 := fun e => by have := rOf_pos h; rw [e] at this; exact Rat.lt_irrefl this
  rw [← mkRat_mul_of (F := F) h, Rat.mul_assoc, Rat.mul_comm (rOf d), unit_mul h, rOf_one, Rat.mul_one]
theorem rdown_down (q : Rat) {d : Nat} (h : 0 < d) : rdown (rdown q d) d = rdown q d := by
  conv => lhs; unfold rdown
  rw [show mkRat (q * rOf d).floor d = rdown q d from rfl, rdown_mul q h, floor_of]; rfl
theorem rup_down (q : Rat) {d : Nat} (h : 0 < d) : rup (rdown q d) d = rdown q d := by
  unfold rup
  conv => lhs; unfold rdown
  rw [show mkRat (q * rOf d).floor d = rdown q d from rfl, Rat.neg_mul, rdown_mul q h]
  have e : -rOf (q * rOf d).floor = rOf (-(q * rOf d).floor) := Rat.neg_mkRat _ _
  rw [e, floor_of, Rat.neg_mkRat, Int.neg_neg]; rfl
theorem rdown_one (q : Rat) : rOf q.floor = rdown q 1 := by
  unfold rdown
  rw [show rOf ((1 : Nat) : Int) = 1 from rOf_one, Rat.mul_one]; rfl
theorem rcmp_le {p q : Rat} (h : p ≤ q) : rcmp p q ≤ 0 := by
  unfold rcmp
  split
  · omega
  · rw [if_neg (Rat.not_lt.2 h)]; omega
theorem rcmp_lt {p q : Rat} (h : p < q) : rcmp p q = -1 := by rw [rcmp, if_pos h]
theorem rcmp_ge {p q : Rat} (h : q ≤ p) : 0 ≤ rcmp p q := by
  unfold rcmp
  rw [if_neg (Rat.not_lt.2 h)]
  split <;> omega
theorem floor_abs (q : Rat) : q.floor.natAbs ≤ q.num.natAbs := by
  rw [Rat.floor_def]
  exact Int.natAbs_ediv_le_natAbs _ _
theorem floor_sgn (q : Rat) : sgn (decide (q.num < 0)) (if q.num < 0 ∧ q.num.natAbs % q.den ≠ 0 then q.num.natAbs / q.den + 1 else q.num.natAbs / q.den) = q.floor := by
  rw [Rat.floor_def]
  have hd := q.den_pos
  by_cases hn : q.num < 0
  · have e : q.num = -(q.num.natAbs : Int) := by omega
    rw [decide_eq_true hn]
    conv => rhs; rw [e]
    rw [Int.neg_ediv]
    by_cases hm : q.num.natAbs % q.den = 0
    · have hdv : (q.den : Int) ∣ (q.num.natAbs : Int) := Int.natCast_dvd_natCast.2 (Nat.dvd_of_mod_eq_zero hm)
      rw [if_neg (fun h => h.2 hm), if_pos hdv]
      unfold sgn; simp
    · have hdv : ¬ (q.den : Int) ∣ (q.num.natAbs : Int) := fun h => hm (Nat.mod_eq_zero_of_dvd (Int.natCast_dvd_natCast.1 h))
      rw [if_pos ⟨hn, hm⟩, if_neg hdv, Int.sign_eq_one_of_pos (by omega)]
      unfold sgn; simp; omega
  · rw [decide_eq_false hn, if_neg (fun h => hn h.1)]
    have e : q.num = (q.num.natAbs : Int) := by omega
    conv => rhs; rw [e]
    unfold sgn; simp

theorem Sz.floor {q : Rat} {k : Nat} (h : Sz q k) : Sz (rOf q.floor) k := sz_of (Nat.le_trans (floor_abs q) h.1) h.pos
theorem sz_nat {d k : Nat} (h1 : d ≤ k) (h2 : 1 ≤ k) : Sz (rOf d) k := sz_of (by omega) h2
theorem Sz.down {q : Rat} {d j k : Nat} (h : Sz q j) (hd : d ≤ k) (hk : 1 ≤ k) : Sz (rdown q d) (j * k) := by
  have h1 := h.mul (sz_nat hd hk)
  unfold rdown
  refine Sz.mk (Nat.le_trans (floor_abs _) h1.1) ?_ h1.pos
  have := Nat.le_mul_of_pos_left k h.pos
  omega
theorem Rz.floor {q : Rat} {k : Nat} (h : Rz q k) : Rz (rOf q.floor) k := by
  refine Rz.mk (nb_len_le' (floor_abs q) h.1) ?_ h.pos
  rw [nb_one]; exact h.pos
theorem Rz.of {n : Int} {k : Nat} (h : (nb n.natAbs).length ≤ k) (hk : 1 ≤ k) : Rz (rOf n) k := Rz.mk h (by rw [nb_one]; exact hk) hk
theorem Rz.down {q : Rat} {d j : Nat} (h : Rz q j) (hd : d ≤ 1000) : Rz (rdown q d) (j + 2) := by
  have h1 : Rz (rOf d) 2 := (sz_nat hd (by omega)).rz (nb_len_le.2 (by omega))
  have h2 := h.mul h1
  exact Rz.mk (nb_len_le' (floor_abs _) h2.1) (Nat.le_trans (nb_len_le.2 (show d < 256 ^ 2 by omega)) (by omega)) (by omega)
theorem Rz.up {q : Rat} {d j : Nat} (h : Rz q j) (hd : d ≤ 1000) : Rz (rup q d) (j + 2) := (h.neg.down hd).neg

section
variable {G : Gl} {fl : Nat} {A : Hp}

theorem qwhole {q : Rat} {k : Nat} (hG : G 1 = some tabV) (hq : Rz q k) (hb : k ≤ 300000) : Sound Tryd.prog G 141 [ratV q] fl A (ratV (rOf q.floor)) A := by
  refine Sound.of mixed Tryd.func141 Tryd.ntmps141 Tryd.results141 (by kernel_rfl) rfl (by kernel_rfl) (by simp) fun hA => ?_
  obtain ⟨q1, q2⟩ := id hq
  have hfl : fl ≤ A.next := hA.floor
  have hfl1 : fl ≤ A.next + 1 := by omega
  have hd := rat_den_pos q
  have hrb := ratV_rb A.next (rOf q.floor)
  have hlq := nb_len_le' (Nat.div_le_self q.num.natAbs q.den) q1
  have hlq1 : (nb (q.num.natAbs / q.den + 1)).length ≤ k + 1 := nb_len_add hlq (by rw [nb_one]; exact hq.pos)
  have hfs := floor_sgn q
  have hm := fun neg m (h : (nb m).length ≤ 400000) fl A => qmade (G := G) (fl := fl) (A := A) (neg := neg) (m := m) (d := 1) hG (by omega) h (by rw [nb_one]; decide)
  have ha := fun fl A => addN (G := G) (fl := fl) (A := A) (m := q.num.natAbs / q.den) (n := 1) (by omega) (by rw [nb_one]; decide)
  rw [nb_one] at hm ha
  have hmod : (nb (q.num.natAbs % q.den) = []) = (q.num.natAbs % q.den = 0) := nb_nil_eq _
  rw [ratV_def]
  simp only [↓R1, R2, R3, R4, TY, reduceIte, Nat.reduceEqDiff, Nat.reduceAdd, Nat.reduceMul, Nat.reduceLT, Nat.reduceLeDiff, reduceCtorEq, decide_true, decide_false, Int.reduceLE, Int.reduceLT, Int.reduceToNat, Int.reduceAdd, Int.reduceSub, Int.reduceMul, Int.reduceEq]
  refine call_of (divG (by omega) (by omega) hd) ?_
  have hend : ∀ b1 b2 b3, Ended A (ratV (rOf q.floor)) (((A.push b1).push b2).put (A.next + 1) b3) (ratV (rOf q.floor)) A := fun b1 b2 b3 => Ended.back hA (((Xt.refl A).push _).push _ |>.put (by omega) _) rfl hrb
  by_cases hn : q.num < 0
  · have hn' : (q.num < 0) = True := eq_true hn
    by_cases hz : q.num.natAbs % q.den = 0
    · have hz' : (q.num.natAbs % q.den = 0) = True := eq_true hz
      rw [if_neg (fun h => h.2 hz), decide_eq_true hn] at hfs
      have hmm := hm true (q.num.natAbs / q.den) (by omega)
      rw [hfs] at hmm
      simp only [↓R1, R2, R3, R4, TY, reduceIte, Nat.reduceEqDiff, Nat.reduceAdd, Nat.reduceMul, Nat.reduceLT, Nat.reduceLeDiff, reduceCtorEq, decide_true, decide_false, Int.reduceLE, Int.reduceLT, Int.reduceToNat, Int.reduceAdd, Int.reduceSub, Int.reduceMul, Int.reduceEq, hn', S_inj, hmod, hz', NE]
      refine call_of (hmm _ _) ?_
      unfold rOf at hend ⊢
      rw [ratV_def] at hend ⊢
      simp only [↓R1, R2, R3, R4, TY, reduceIte, Nat.reduceEqDiff, Nat.reduceAdd, Nat.reduceMul, Nat.reduceLT, Nat.reduceLeDiff, reduceCtorEq, decide_true, decide_false, Int.reduceLE, Int.reduceLT, Int.reduceToNat, Int.reduceAdd, Int.reduceSub, Int.reduceMul, Int.reduceEq, hfl1, NE]
      exact hend _ _ _
    · have hz' : (q.num.natAbs % q.den = 0) = False := eq_false hz
      rw [if_pos ⟨hn, hz⟩, decide_eq_true hn] at hfs
      have hmm := hm true (q.num.natAbs / q.den + 1) (by omega)
      rw [hfs] at hmm
      simp only [↓R1, R2, R3, R4, TY, reduceIte, Nat.reduceEqDiff, Nat.reduceAdd, Nat.reduceMul, Nat.reduceLT, Nat.reduceLeDiff, reduceCtorEq, decide_true, decide_false, Int.reduceLE, Int.reduceLT, Int.reduceToNat, Int.reduceAdd, Int.reduceSub, Int.reduceMul, Int.reduceEq, hn', S_inj, hmod, hz', NE]
      refine call_of (ha _ _) ?_
      simp only [↓R1, R2, R3, R4, TY, reduceIte, Nat.reduceEqDiff, Nat.reduceAdd, Nat.reduceMul, Nat.reduceLT, Nat.reduceLeDiff, reduceCtorEq, decide_true, decide_false, Int.reduceLE, Int.reduceLT, Int.reduceToNat, Int.reduceAdd, Int.reduceSub, Int.reduceMul, Int.reduceEq, hn', NE]
      refine call_of (hmm _ _) ?_
      unfold rOf at hend ⊢
      rw [ratV_def] at hend ⊢
      simp only [↓R1, R2, R3, R4, TY, reduceIte, Nat.reduceEqDiff, Nat.reduceAdd, Nat.reduceMul, Nat.reduceLT, Nat.reduceLeDiff, reduceCtorEq, decide_true, decide_false, Int.reduceLE, Int.reduceLT, Int.reduceToNat, Int.reduceAdd, Int.reduceSub, Int.reduceMul, Int.reduceEq, hfl1, NE]
      exact hend _ _ _
  · have hn' : (q.num < 0) = False := eq_false hn
    rw [if_neg (fun h => hn h.1), decide_eq_false hn] at hfs
    have hmm := hm false (q.num.natAbs / q.den) (by omega)
    rw [hfs] at hmm
    simp only [↓R1, R2, R3, R4, TY, reduceIte, Nat.reduceEqDiff, Nat.reduceAdd, Nat.reduceMul, Nat.reduceLT, Nat.reduceLeDiff, reduceCtorEq, decide_true, decide_false, Int.reduceLE, Int.reduceLT, Int.reduceToNat, Int.reduceAdd, Int.reduceSub, Int.reduceMul, Int.reduceEq, hn', NE]
    refine call_of (hmm _ _) ?_
    unfold rOf at hend ⊢
    rw [ratV_def] at hend ⊢
    simp only [↓R1, R2, R3, R4, TY, reduceIte, Nat.reduceEqDiff, Nat.reduceAdd, Nat.reduceMul, Nat.reduceLT, Nat.reduceLeDiff, reduceCtorEq, decide_true, decide_false, Int.reduceLE, Int.reduceLT, Int.reduceToNat, Int.reduceAdd, Int.reduceSub, Int.reduceMul, Int.reduceEq, hfl1, NE]
    exact hend _ _ _


end
end Go.Proofs.YthclikeipdplpaaDoor.Ab
