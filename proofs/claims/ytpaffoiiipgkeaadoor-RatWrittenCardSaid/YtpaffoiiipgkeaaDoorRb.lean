/- Rational numbers: their values; zero, Good, fit, made, signed. -/
import Derived.Test.YtpaffoiiipgkeaaDoorRa
namespace Go.Proofs.YtpaffoiiipgkeaaDoor.Ab
open Go.RowKit
set_option linter.unusedVariables false
set_option linter.unusedSimpArgs false
set_option maxRecDepth 100000

/-- A number's value. -/
def ratV (q : Rat) : Value := .agg #[.bool (decide (q.num < 0)), .string (S (nb q.num.natAbs)), .string (S (nb q.den))]
/-- A whole number by its sign. -/
def sgn (neg : Bool) (m : Nat) : Int := if neg then -(m : Int) else m
/-- Numerator and denominator are within bounds. -/
def Sz (q : Rat) (k : Nat) : Prop := q.num.natAbs ≤ k ∧ q.den ≤ k
theorem sgn_abs (neg : Bool) (m : Nat) : (sgn neg m).natAbs = m := by unfold sgn; split <;> simp
theorem sgn_num (x : Int) : sgn (decide (x < 0)) x.natAbs = x := by unfold sgn; split <;> (rename_i h; simp at h; omega)
theorem mk_num {neg : Bool} {m d : Nat} (hd : d ≠ 0) : (mkRat (sgn neg m) d).num = sgn neg (m / Nat.gcd m d) := by
  rw [Rat.num_mkRat, if_neg hd, sgn_abs, Nat.gcd_comm]
  have h : (Nat.gcd m d : Int) ∣ (m : Int) := Int.natCast_dvd_natCast.2 (Nat.gcd_dvd_left m d)
  unfold sgn
  split
  · rw [Int.neg_ediv_of_dvd h]; simp
  · simp
theorem mk_den {neg : Bool} {m d : Nat} (hd : d ≠ 0) : (mkRat (sgn neg m) d).den = d / Nat.gcd m d := by
  rw [Rat.den_mkRat, if_neg hd, sgn_abs, Nat.gcd_comm]
theorem rat_den_pos (q : Rat) : q.den ≠ 0 := q.den_nz
theorem rat_gcd (q : Rat) : Nat.gcd q.num.natAbs q.den = 1 := q.reduced
theorem rat_num0 {q : Rat} (h : q.num = 0) : q.den = 1 := by
  have := rat_gcd q
  rw [h] at this; simpa using this
theorem Sz.mk {n : Int} {d k : Nat} (h1 : n.natAbs ≤ k) (h2 : d ≤ k) (hk : 1 ≤ k) : Sz (mkRat n d) k := by
  constructor
  · rw [Rat.num_mkRat]
    split
    · simp
    · have h : (Nat.gcd d n.natAbs : Int) ∣ n := Int.dvd_natAbs.1 (Int.natCast_dvd_natCast.2 (Nat.gcd_dvd_right d n.natAbs))
      rw [Int.natAbs_ediv_of_dvd h]
      exact Nat.le_trans (Nat.div_le_self _ _) h1
  · rw [Rat.den_mkRat]
    split
    · exact hk
    · exact Nat.le_trans (Nat.div_le_self _ _) h2
theorem Sz.mono {q : Rat} {j k : Nat} (h : Sz q j) (hk : j ≤ k) : Sz q k := ⟨Nat.le_trans h.1 hk, Nat.le_trans h.2 hk⟩
theorem Sz.pos {q : Rat} {k : Nat} (h : Sz q k) : 1 ≤ k := Nat.le_trans (Nat.one_le_iff_ne_zero.2 (rat_den_pos q)) h.2
theorem Sz.add {p q : Rat} {j k : Nat} (hp : Sz p j) (hq : Sz q k) : Sz (p + q) (2 * (j * k)) := by
  rw [Rat.add_def']
  have hj := hp.pos
  have hk := hq.pos
  have h0 : 1 ≤ j * k := Nat.mul_pos hj hk
  have a1 : (p.num * (q.den : Int)).natAbs ≤ j * k := by rw [Int.natAbs_mul]; exact Nat.mul_le_mul hp.1 (by simpa using hq.2)
  have a2 : (q.num * (p.den : Int)).natAbs ≤ j * k := by rw [Int.natAbs_mul, Nat.mul_comm j k]; exact Nat.mul_le_mul hq.1 (by simpa using hp.2)
  refine Sz.mk (by omega) ?_ (by omega)
  have := Nat.mul_le_mul hp.2 hq.2; omega
theorem Sz.mul {p q : Rat} {j k : Nat} (hp : Sz p j) (hq : Sz q k) : Sz (p * q) (j * k) := by
  rw [Rat.mul_def']
  refine Sz.mk ?_ (Nat.mul_le_mul hp.2 hq.2) (Nat.mul_pos hp.pos hq.pos)
  rw [Int.natAbs_mul]; exact Nat.mul_le_mul hp.1 hq.1
theorem Sz.neg {q : Rat} {k : Nat} (h : Sz q k) : Sz (-q) k := ⟨by rw [Rat.neg_num, Int.natAbs_neg]; exact h.1, h.2⟩
theorem Sz.sub {p q : Rat} {j k : Nat} (hp : Sz p j) (hq : Sz q k) : Sz (p - q) (2 * (j * k)) := by
  rw [Rat.sub_eq_add_neg]; exact hp.add hq.neg

theorem nb_head_of {n : Nat} (h : n ≠ 0) : ∃ b l, nb n = b :: l ∧ ¬ (((b.toNat : Nat) : Int) = 0) := by
  cases hn : nb n with
  | nil => exact absurd (nb_eq_nil.1 hn) h
  | cons b l => exact ⟨b, l, rfl, fun e => nb_head hn (UInt8.toNat_inj.1 (by simp; omega))⟩

section
variable {G : Gl} {fl : Nat} {A : Hp}

theorem ratV_cells (q : Rat) : (ratV q).cells.toList = [.bool (decide (q.num < 0)), .string (S (nb q.num.natAbs)), .string (S (nb q.den))] := rfl
theorem ratV_rb (n : Nat) (q : Rat) : RB n (ratV q) := ⟨ratV q, .agg rfl fun i h h' => by
  have : i < 3 := h
  match i, this with
  | 0, _ => exact .bool _
  | 1, _ => exact .string _
  | 2, _ => exact .string _⟩
theorem nb_one : nb 1 = [1] := nb_small (by omega) (by omega)

theorem zero_ok : Sound Tryd.prog G 76 [] fl A (ratV 0) A := by
  refine Sound.of mixed Tryd.func76 Tryd.ntmps76 Tryd.results76 (by kernel_rfl) rfl (by kernel_rfl) (by simp) fun hA => ?_
  have hfl : fl ≤ A.next := hA.floor
  simp only [↓R1, R2, R3, R4, TY, reduceIte, Nat.reduceEqDiff, Nat.reduceAdd, Nat.reduceMul, Nat.reduceLT, Nat.reduceLeDiff, reduceCtorEq, decide_true, decide_false, Int.reduceLE, Int.reduceLT, Int.reduceToNat, Int.reduceAdd, Int.reduceSub, Int.reduceMul, Int.reduceEq, hfl]
  refine Ended.back hA ?_ ?_ (ratV_rb _ _)
  · simp (maxDischargeDepth := 20) only [xt_push, xt_put, xt_refl, Nat.le_refl]
  · have e : ratV 0 = .agg #[.bool false, .string (S (nb 0)), .string (S (nb 1))] := rfl
    rw [e, nb_one, nb_zero]

theorem good_ok {q : Rat} (h1 : q.num.natAbs < 18446744073709551616) (h2 : q.den < 18446744073709551616) : Sound Tryd.prog G 29 [ratV q] fl A (.bool true) A := by
  refine Sound.of mixed Tryd.func29 Tryd.ntmps29 Tryd.results29 (by kernel_rfl) rfl (by kernel_rfl) (by simp) fun hA => ?_
  rw [ratV]
  have hd := rat_den_pos q
  have hg := rat_gcd q
  have hfl : fl ≤ A.next := hA.floor
  have hdf : (q.den = 0) = False := eq_false hd
  obtain ⟨b, l, hbl, hb0⟩ := nb_head_of hd
  have hlen : ((0 : Int) < ((nb q.den).length : Nat)) = True := eq_true (by rw [hbl]; simp)
  have hbyte : byteAt (S (nb q.den)) 0 = ((b.toNat : Nat) : Int) := by rw [hbl]; rfl
  have hbz : (((b.toNat : Nat) : Int) = 0) = False := eq_false hb0
  by_cases hn : q.num.natAbs = 0
  · have hn0 : q.num = 0 := by omega
    have hneg : decide (q.num < 0) = false := by rw [hn0]; rfl
    have hden : nb q.den = [1] := by rw [rat_num0 hn0, nb_one]
    have hneg2 : (q.num < 0) = False := eq_false (by omega)
    rw [hneg]
    rw [hden] at hbyte hlen ⊢
    have hlen1 : ((0 : Int) < ((1 : Nat) : Int)) = True := eq_true (by decide)
    simp only [↓R1, R2, R3, R4, TY, reduceIte, Nat.reduceEqDiff, Nat.reduceAdd, Nat.reduceMul, Nat.reduceLT, Nat.reduceLeDiff, reduceCtorEq, decide_true, decide_false, Int.reduceLE, Int.reduceLT, Int.reduceToNat, Int.reduceAdd, Int.reduceSub, Int.reduceMul, Int.reduceEq, append_eq, List.cons_append, List.nil_append, S_inj, nb_nil_eq, S_size, hlen1, hbyte, hbz, hn, hneg2]
    exact Ended.back hA ((Xt.refl A).push _) rfl (RB.bool _)
  · have hnf : (q.num.natAbs = 0) = False := eq_false hn
    obtain ⟨c, k, hck, hc0⟩ := nb_head_of hn
    have hlen2 : ((0 : Int) < ((nb q.num.natAbs).length : Nat)) = True := eq_true (by rw [hck]; simp)
    have hbyte2 : byteAt (S (nb q.num.natAbs)) 0 = ((c.toNat : Nat) : Int) := by rw [hck]; rfl
    have hcz : (((c.toNat : Nat) : Int) = 0) = False := eq_false hc0
    simp only [↓R1, R2, R3, R4, TY, reduceIte, Nat.reduceEqDiff, Nat.reduceAdd, Nat.reduceMul, Nat.reduceLT, Nat.reduceLeDiff, reduceCtorEq, decide_true, decide_false, Int.reduceLE, Int.reduceLT, Int.reduceToNat, Int.reduceAdd, Int.reduceSub, Int.reduceMul, Int.reduceEq, append_eq, List.cons_append, List.nil_append, S_inj, nb_nil_eq, S_size, hdf, hlen, hbyte, hbz, hnf, hlen2, hbyte2, hcz]
    refine ⟨fun h => Ended.back hA (by simp (maxDischargeDepth := 20) only [xt_push, xt_refl]) rfl (RB.bool _), fun h => ?_⟩
    refine call_of (gcdN h1 h2) ?_
    rw [hg]
    simp only [↓R1, R2, R3, R4, TY, reduceIte, Nat.reduceEqDiff, Nat.reduceAdd, Nat.reduceMul, Nat.reduceLT, Nat.reduceLeDiff, reduceCtorEq, decide_true, decide_false, Int.reduceLE, Int.reduceLT, Int.reduceToNat, Int.reduceAdd, Int.reduceSub, Int.reduceMul, Int.reduceEq, S_inj, nb_one]
    exact Ended.back hA (by simp (maxDischargeDepth := 20) only [xt_push, xt_refl]) rfl (RB.bool _)

theorem fit_ok {q : Rat} (h1 : q.num.natAbs < 18446744073709551616) (h2 : q.den < 18446744073709551616) : Sound Tryd.prog G 56 [ratV q] fl A (ratV q) A := by
  refine Sound.of mixed Tryd.func56 Tryd.ntmps56 Tryd.results56 (by kernel_rfl) rfl (by kernel_rfl) (by simp) fun hA => ?_
  have hg := fun A => good_ok (G := G) (fl := fl) (A := A) h1 h2
  have hfl : fl ≤ A.next := hA.floor
  have hfl1 : fl ≤ A.next + 1 := by omega
  rw [ratV] at hg ⊢
  simp only [↓R1, R2, R3, R4, TY, reduceIte, Nat.reduceEqDiff, Nat.reduceAdd, Nat.reduceMul, Nat.reduceLT, Nat.reduceLeDiff, reduceCtorEq, decide_true, decide_false, Int.reduceLE, Int.reduceLT, Int.reduceToNat, Int.reduceAdd, Int.reduceSub, Int.reduceMul, Int.reduceEq, hfl, hfl1]
  refine call_of (hg _) ?_
  simp only [↓R1, R2, R3, R4, TY, reduceIte, Nat.reduceEqDiff, Nat.reduceAdd, Nat.reduceMul, Nat.reduceLT, Nat.reduceLeDiff, reduceCtorEq, decide_true, decide_false, Int.reduceLE, Int.reduceLT, Int.reduceToNat, Int.reduceAdd, Int.reduceSub, Int.reduceMul, Int.reduceEq, hfl, hfl1]
  refine Ended.back hA (by simp (maxDischargeDepth := 20) only [xt_push, xt_put, xt_refl, Nat.le_refl, Nat.le_add_right]) rfl (ratV_rb _ q)

theorem made_ok {neg : Bool} {m d : Nat} (hd : d ≠ 0) (h1 : m < 18446744073709551616) (h2 : d < 18446744073709551616) :
    Sound Tryd.prog G 58 [.bool neg, .string (S (nb m)), .string (S (nb d))] fl A (ratV (mkRat (sgn neg m) d)) A := by
  refine Sound.of mixed Tryd.func58 Tryd.ntmps58 Tryd.results58 (by kernel_rfl) rfl (by kernel_rfl) (by simp) fun hA => ?_
  have hfl : fl ≤ A.next := hA.floor
  have hone : (nb d = [1]) = (d = 1) := by rw [← nb_one]; exact propext ⟨nb_inj, fun h => by rw [h]⟩
  have hg1 : (nb (Nat.gcd m d) = [1]) = (Nat.gcd m d = 1) := by rw [← nb_one]; exact propext ⟨nb_inj, fun h => by rw [h]⟩
  have hgd : Nat.gcd m d ≠ 0 := fun h => hd (Nat.eq_zero_of_gcd_eq_zero_right h)
  have hgd2 : Nat.gcd m d ≤ d := Nat.gcd_le_right _ (by omega)
  simp only [↓R1, R2, R3, R4, TY, reduceIte, Nat.reduceEqDiff, Nat.reduceAdd, Nat.reduceMul, Nat.reduceLT, Nat.reduceLeDiff, reduceCtorEq, decide_true, decide_false, Int.reduceLE, Int.reduceLT, Int.reduceToNat, Int.reduceAdd, Int.reduceSub, Int.reduceMul, Int.reduceEq, S_inj, nb_nil_eq, hone]
  refine ⟨fun h => ?_, fun h => ?_⟩
  · refine call_of zero_ok ?_
    have e : ratV 0 = .agg #[.bool false, .string (S (nb 0)), .string (S (nb 1))] := rfl
    have e2 : mkRat (sgn neg m) d = 0 := by rw [h]; unfold sgn; split <;> simp
    rw [e2, e]
    simp only [↓R1, R2, R3, R4, TY, reduceIte, Nat.reduceEqDiff, Nat.reduceAdd, Nat.reduceMul, Nat.reduceLT, Nat.reduceLeDiff, reduceCtorEq, decide_true, decide_false, Int.reduceLE, Int.reduceLT, Int.reduceToNat, Int.reduceAdd, Int.reduceSub, Int.reduceMul, Int.reduceEq, hfl]
    exact Ended.back hA (by simp (maxDischargeDepth := 20) only [xt_push, xt_put, xt_refl, Nat.le_refl]) rfl (ratV_rb _ 0)
  have hend : ∀ (a b : Nat) (B : Hp), Xt A.next A B → a = m / Nat.gcd m d → b = d / Nat.gcd m d → Ended A (.agg #[.bool neg, .string (S (nb a)), .string (S (nb b))]) B (ratV (mkRat (sgn neg m) d)) A := by
    rintro a b B hx rfl rfl
    refine Ended.back hA hx ?_ (ratV_rb _ _)
    have hpos : 0 < m / Nat.gcd m d := Nat.div_pos (Nat.gcd_le_left _ (by omega)) (by omega)
    rw [ratV, mk_num hd, mk_den hd, sgn_abs]
    have : decide (sgn neg (m / Nat.gcd m d) < 0) = neg := by unfold sgn; cases neg <;> simp <;> omega
    rw [this]
  have hx1 : Xt A.next A ((A.push (.row [.bool false, .string (S []), .string (S [])] 0 3)).put A.next (.row [.bool neg, .string (S (nb m)), .string (S (nb d))] 0 3)) := by simp (maxDischargeDepth := 20) only [xt_push, xt_put, xt_refl, Nat.le_refl]
  refine ⟨fun h3 => ?_, fun h3 => ?_⟩
  · simp only [↓R1, R2, R3, R4, TY, reduceIte, Nat.reduceEqDiff, Nat.reduceAdd, Nat.reduceMul, Nat.reduceLT, Nat.reduceLeDiff, reduceCtorEq, decide_true, decide_false, Int.reduceLE, Int.reduceLT, Int.reduceToNat, Int.reduceAdd, Int.reduceSub, Int.reduceMul, Int.reduceEq, hfl]
    exact hend m d _ hx1 (by rw [h3]; simp) (by rw [h3]; simp)
  · refine call_of (gcdN h1 h2) ?_
    simp only [↓R1, R2, R3, R4, TY, reduceIte, Nat.reduceEqDiff, Nat.reduceAdd, Nat.reduceMul, Nat.reduceLT, Nat.reduceLeDiff, reduceCtorEq, decide_true, decide_false, Int.reduceLE, Int.reduceLT, Int.reduceToNat, Int.reduceAdd, Int.reduceSub, Int.reduceMul, Int.reduceEq, S_inj, hg1]
    refine ⟨fun h4 => ?_, fun h4 => ?_⟩
    · simp only [↓R1, R2, R3, R4, TY, reduceIte, Nat.reduceEqDiff, Nat.reduceAdd, Nat.reduceMul, Nat.reduceLT, Nat.reduceLeDiff, reduceCtorEq, decide_true, decide_false, Int.reduceLE, Int.reduceLT, Int.reduceToNat, Int.reduceAdd, Int.reduceSub, Int.reduceMul, Int.reduceEq, hfl]
      exact hend m d _ hx1 (by rw [h4]; simp) (by rw [h4]; simp)
    · refine call_of (divN h1 (by omega) hgd) ?_
      simp only [↓R1, R2, R3, R4, TY, reduceIte, Nat.reduceEqDiff, Nat.reduceAdd, Nat.reduceMul, Nat.reduceLT, Nat.reduceLeDiff, reduceCtorEq, decide_true, decide_false, Int.reduceLE, Int.reduceLT, Int.reduceToNat, Int.reduceAdd, Int.reduceSub, Int.reduceMul, Int.reduceEq]
      refine call_of (divN h2 (by omega) hgd) ?_
      simp only [↓R1, R2, R3, R4, TY, reduceIte, Nat.reduceEqDiff, Nat.reduceAdd, Nat.reduceMul, Nat.reduceLT, Nat.reduceLeDiff, reduceCtorEq, decide_true, decide_false, Int.reduceLE, Int.reduceLT, Int.reduceToNat, Int.reduceAdd, Int.reduceSub, Int.reduceMul, Int.reduceEq, hfl]
      exact hend _ _ _ (by simp (maxDischargeDepth := 20) only [xt_push, xt_put, xt_refl, Nat.le_refl]) rfl rfl
end
end Go.Proofs.YtpaffoiiipgkeaaDoor.Ab
