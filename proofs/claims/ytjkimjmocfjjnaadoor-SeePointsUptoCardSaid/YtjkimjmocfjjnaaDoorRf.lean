/- Numbers: common divisors and quotients of short ones. -/
import Derived.Test.YtjkimjmocfjjnaaDoorNk
namespace Go.Proofs.YtjkimjmocfjjnaaDoor.Ab
open Go.RowKit
set_option linter.unusedVariables false
set_option linter.unusedSimpArgs false
set_option maxRecDepth 100000

theorem nb8 {n : Nat} : (nb n).length ≤ 8 ↔ n < 18446744073709551616 := nb_len_le (k := 8)

section
variable {G : Gl} {fl : Nat} {A : Hp}

theorem common_ok {m n : Nat} (hm : m < 18446744073709551616) (hn : n < 18446744073709551616) : Sound Tryd.prog G 110 [.int .u64 (m : Nat), .int .u64 (n : Nat)] fl A (.int .u64 (Nat.gcd m n : Nat)) A := by
  refine Sound.of mixed Tryd.func110 Tryd.ntmps110 Tryd.results110 (by kernel_rfl) rfl (by kernel_rfl) (by kernel_rfl) fun hA => ?_
  simp only [↓R1, R2, R3, R4, TY, reduceIte, Nat.reduceEqDiff, Nat.reduceAdd, Nat.reduceMul, Nat.reduceLT, Nat.reduceLeDiff, reduceCtorEq, decide_true, decide_false, Int.reduceLE, Int.reduceLT, Int.reduceToNat, Int.reduceAdd, Int.reduceSub, Int.reduceMul, Int.reduceEq]
  refine loop_of (fun τ B => B = A ∧ ∃ x y : Nat, x < 18446744073709551616 ∧ y < 18446744073709551616 ∧ Nat.gcd x y = Nat.gcd m n ∧ τ 0 = some (.int .u64 (x : Nat)) ∧ τ 1 = some (.int .u64 (y : Nat))) (fun τ _ => match τ 1 with | some (.int _ y) => y.toNat | _ => 0) ⟨rfl, m, n, hm, hn, rfl, rfl, rfl⟩ ?_
  rintro τ B ⟨rfl, x, y, hx, hy, hg, q0, q1⟩
  have hpos : ((0 : Int) < ((y : Nat) : Int)) = (0 < y) := propext (by omega)
  simp only [↓R1, R2, R3, R4, TY, reduceIte, Nat.reduceEqDiff, Nat.reduceAdd, Nat.reduceMul, Nat.reduceLT, Nat.reduceLeDiff, reduceCtorEq, decide_true, decide_false, Int.reduceLE, Int.reduceLT, Int.reduceToNat, Int.reduceAdd, Int.reduceSub, Int.reduceMul, Int.reduceEq, q0, q1, hpos]
  refine ⟨fun h => ?_, fun h => ?_⟩
  · have hne : ¬ ((y : Nat) : Int) = 0 := by omega
    have hne2 : (((y : Nat) : Int) ≠ 0) = True := eq_true (by omega)
    simp only [↓R1, R2, R3, R4, TY, reduceIte, Nat.reduceEqDiff, Nat.reduceAdd, Nat.reduceMul, Nat.reduceLT, Nat.reduceLeDiff, reduceCtorEq, decide_true, decide_false, Int.reduceLE, Int.reduceLT, Int.reduceToNat, Int.reduceAdd, Int.reduceSub, Int.reduceMul, Int.reduceEq, q0, q1, hpos, hne, hne2, ne_eq, not_false_eq_true, UN]
    have hlt : x % y < y := Nat.mod_lt _ h
    refine loop_on ⟨rfl, y, x % y, hy, by omega, ?_, rfl, rfl⟩ ?_
    · rw [← hg, Nat.gcd_comm x y, Nat.gcd_rec y x, Nat.gcd_comm]
    · simp only [upd, if_true, q1, Int.toNat_natCast]; exact hlt
  · have : y = 0 := by omega
    subst this
    refine Ended.back hA (Xt.refl _) ?_ (RB.int _ _)
    rw [← hg, Nat.gcd_zero_right]

theorem shortN {m : Nat} (hm : m < 18446744073709551616) : Sound Tryd.prog G 92 [.string (S (nb m))] fl A (.int .u64 (m : Nat)) A := by
  have := short_ok (G := G) (fl := fl) (A := A) (nb8.2 hm)
  rwa [nv_nb] at this
theorem nb_nil_eq (n : Nat) : (nb n = []) = (n = 0) := propext nb_eq_nil
theorem len_lt_iff {m n : Nat} : (((nb m).length : Int) < ((nb n).length : Int)) = ((nb m).length < (nb n).length) := propext (by omega)
theorem len_le8 {m : Nat} : (((nb m).length : Int) ≤ 8) = ((nb m).length ≤ 8) := propext (by omega)

theorem gcdN {m n : Nat} (hm : m < 18446744073709551616) (hn : n < 18446744073709551616) : Sound Tryd.prog G 95 [.string (S (nb m)), .string (S (nb n))] fl A (.string (S (nb (Nat.gcd m n)))) A := by
  refine Sound.of mixed Tryd.func95 Tryd.ntmps95 Tryd.results95 (by kernel_rfl) rfl (by kernel_rfl) (by kernel_rfl) fun hA => ?_
  have h8m := nb8.2 hm
  have h8n := nb8.2 hn
  simp only [↓R1, R2, R3, R4, TY, reduceIte, Nat.reduceEqDiff, Nat.reduceAdd, Nat.reduceMul, Nat.reduceLT, Nat.reduceLeDiff, reduceCtorEq, decide_true, decide_false, Int.reduceLE, Int.reduceLT, Int.reduceToNat, Int.reduceAdd, Int.reduceSub, Int.reduceMul, Int.reduceEq]
  refine call_of (trim_ok _) ?_
  simp only [↓R1, R2, R3, R4, TY, reduceIte, Nat.reduceEqDiff, Nat.reduceAdd, Nat.reduceMul, Nat.reduceLT, Nat.reduceLeDiff, reduceCtorEq, decide_true, decide_false, Int.reduceLE, Int.reduceLT, Int.reduceToNat, Int.reduceAdd, Int.reduceSub, Int.reduceMul, Int.reduceEq, nv_nb]
  refine call_of (trim_ok _) ?_
  simp only [↓R1, R2, R3, R4, TY, reduceIte, Nat.reduceEqDiff, Nat.reduceAdd, Nat.reduceMul, Nat.reduceLT, Nat.reduceLeDiff, reduceCtorEq, decide_true, decide_false, Int.reduceLE, Int.reduceLT, Int.reduceToNat, Int.reduceAdd, Int.reduceSub, Int.reduceMul, Int.reduceEq, nv_nb]
  refine loop_of (fun τ B => B = A ∧ τ 0 = some (.string (S (nb m))) ∧ τ 1 = some (.string (S (nb n)))) (fun _ _ => 0) ⟨rfl, rfl, rfl⟩ ?_
  rintro τ B ⟨rfl, q0, q1⟩
  simp only [↓R1, R2, R3, R4, TY, reduceIte, Nat.reduceEqDiff, Nat.reduceAdd, Nat.reduceMul, Nat.reduceLT, Nat.reduceLeDiff, reduceCtorEq, decide_true, decide_false, Int.reduceLE, Int.reduceLT, Int.reduceToNat, Int.reduceAdd, Int.reduceSub, Int.reduceMul, Int.reduceEq, q0, q1, S_inj, nb_nil_eq, S_size, len_lt_iff, len_le8, h8m, h8n]
  have hcat : (nb m).length + (nb n).length ≤ 9223372036854775807 := by omega
  refine ⟨fun h => ?_, fun h => ⟨fun h2 => ?_, fun h2 => ⟨fun h3 => ?_, fun h3 => ?_⟩⟩⟩
  · simp only [↓R1, R2, R3, R4, TY, reduceIte, Nat.reduceEqDiff, Nat.reduceAdd, Nat.reduceMul, Nat.reduceLT, Nat.reduceLeDiff, reduceCtorEq, decide_true, decide_false, Int.reduceLE, Int.reduceLT, Int.reduceToNat, Int.reduceAdd, Int.reduceSub, Int.reduceMul, Int.reduceEq, hcat, S_append]
    refine Ended.back hA (Xt.refl _) ?_ (RB.string _)
    rw [h, nb_zero, Nat.gcd_zero_left]; rfl
  · simp only [↓R1, R2, R3, R4, TY, reduceIte, Nat.reduceEqDiff, Nat.reduceAdd, Nat.reduceMul, Nat.reduceLT, Nat.reduceLeDiff, reduceCtorEq, decide_true, decide_false, Int.reduceLE, Int.reduceLT, Int.reduceToNat, Int.reduceAdd, Int.reduceSub, Int.reduceMul, Int.reduceEq, hcat, S_append]
    refine Ended.back hA (Xt.refl _) ?_ (RB.string _)
    rw [h2, nb_zero, Nat.gcd_zero_right, List.append_nil]
  · refine call_of (shortN hn) ?_
    simp only [↓R1, R2, R3, R4, TY, reduceIte, Nat.reduceEqDiff, Nat.reduceAdd, Nat.reduceMul, Nat.reduceLT, Nat.reduceLeDiff, reduceCtorEq, decide_true, decide_false, Int.reduceLE, Int.reduceLT, Int.reduceToNat, Int.reduceAdd, Int.reduceSub, Int.reduceMul, Int.reduceEq, q0, q1]
    refine call_of (shortN hm) ?_
    simp only [↓R1, R2, R3, R4, TY, reduceIte, Nat.reduceEqDiff, Nat.reduceAdd, Nat.reduceMul, Nat.reduceLT, Nat.reduceLeDiff, reduceCtorEq, decide_true, decide_false, Int.reduceLE, Int.reduceLT, Int.reduceToNat, Int.reduceAdd, Int.reduceSub, Int.reduceMul, Int.reduceEq, q0, q1]
    refine call_of (common_ok hn hm) ?_
    simp only [↓R1, R2, R3, R4, TY, reduceIte, Nat.reduceEqDiff, Nat.reduceAdd, Nat.reduceMul, Nat.reduceLT, Nat.reduceLeDiff, reduceCtorEq, decide_true, decide_false, Int.reduceLE, Int.reduceLT, Int.reduceToNat, Int.reduceAdd, Int.reduceSub, Int.reduceMul, Int.reduceEq, q0, q1]
    refine call_of (fromShort_ok (Nat.lt_of_le_of_lt (Nat.gcd_le_left _ (by omega)) hn)) ?_
    simp only [↓R1, R2, R3, R4, TY, reduceIte, Nat.reduceEqDiff, Nat.reduceAdd, Nat.reduceMul, Nat.reduceLT, Nat.reduceLeDiff, reduceCtorEq, decide_true, decide_false, Int.reduceLE, Int.reduceLT, Int.reduceToNat, Int.reduceAdd, Int.reduceSub, Int.reduceMul, Int.reduceEq, q0, q1]
    refine Ended.back hA (Xt.refl _) ?_ (RB.string _)
    rw [Nat.gcd_comm]
  · refine call_of (shortN hm) ?_
    simp only [↓R1, R2, R3, R4, TY, reduceIte, Nat.reduceEqDiff, Nat.reduceAdd, Nat.reduceMul, Nat.reduceLT, Nat.reduceLeDiff, reduceCtorEq, decide_true, decide_false, Int.reduceLE, Int.reduceLT, Int.reduceToNat, Int.reduceAdd, Int.reduceSub, Int.reduceMul, Int.reduceEq, q0, q1]
    refine call_of (shortN hn) ?_
    simp only [↓R1, R2, R3, R4, TY, reduceIte, Nat.reduceEqDiff, Nat.reduceAdd, Nat.reduceMul, Nat.reduceLT, Nat.reduceLeDiff, reduceCtorEq, decide_true, decide_false, Int.reduceLE, Int.reduceLT, Int.reduceToNat, Int.reduceAdd, Int.reduceSub, Int.reduceMul, Int.reduceEq, q0, q1]
    refine call_of (common_ok hm hn) ?_
    simp only [↓R1, R2, R3, R4, TY, reduceIte, Nat.reduceEqDiff, Nat.reduceAdd, Nat.reduceMul, Nat.reduceLT, Nat.reduceLeDiff, reduceCtorEq, decide_true, decide_false, Int.reduceLE, Int.reduceLT, Int.reduceToNat, Int.reduceAdd, Int.reduceSub, Int.reduceMul, Int.reduceEq, q0, q1]
    refine call_of (fromShort_ok (Nat.lt_of_le_of_lt (Nat.gcd_le_left _ (by omega)) hm)) ?_
    simp only [↓R1, R2, R3, R4, TY, reduceIte, Nat.reduceEqDiff, Nat.reduceAdd, Nat.reduceMul, Nat.reduceLT, Nat.reduceLeDiff, reduceCtorEq, decide_true, decide_false, Int.reduceLE, Int.reduceLT, Int.reduceToNat, Int.reduceAdd, Int.reduceSub, Int.reduceMul, Int.reduceEq, q0, q1]
    exact Ended.back hA (Xt.refl _) rfl (RB.string _)

theorem divN {m n : Nat} (hm : m < 18446744073709551616) (hn : n < 18446744073709551616) (h0 : n ≠ 0) :
    Sound Tryd.prog G 96 [.string (S (nb m)), .string (S (nb n))] fl A (.tuple [Value.string (S (nb (m / n))), .string (S (nb (m % n))), .int .i64 0].toArray) A := by
  refine Sound.of mixed Tryd.func96 Tryd.ntmps96 Tryd.results96 (by kernel_rfl) rfl (by kernel_rfl) (by kernel_rfl) fun hA => ?_
  have h8m := nb8.2 hm
  have h8n := nb8.2 hn
  have hz : (n = 0) = False := eq_false h0
  simp only [↓R1, R2, R3, R4, TY, reduceIte, Nat.reduceEqDiff, Nat.reduceAdd, Nat.reduceMul, Nat.reduceLT, Nat.reduceLeDiff, reduceCtorEq, decide_true, decide_false, Int.reduceLE, Int.reduceLT, Int.reduceToNat, Int.reduceAdd, Int.reduceSub, Int.reduceMul, Int.reduceEq]
  refine call_of (trim_ok _) ?_
  simp only [↓R1, R2, R3, R4, TY, reduceIte, Nat.reduceEqDiff, Nat.reduceAdd, Nat.reduceMul, Nat.reduceLT, Nat.reduceLeDiff, reduceCtorEq, decide_true, decide_false, Int.reduceLE, Int.reduceLT, Int.reduceToNat, Int.reduceAdd, Int.reduceSub, Int.reduceMul, Int.reduceEq, nv_nb]
  refine call_of (trim_ok _) ?_
  simp only [↓R1, R2, R3, R4, TY, reduceIte, Nat.reduceEqDiff, Nat.reduceAdd, Nat.reduceMul, Nat.reduceLT, Nat.reduceLeDiff, reduceCtorEq, decide_true, decide_false, Int.reduceLE, Int.reduceLT, Int.reduceToNat, Int.reduceAdd, Int.reduceSub, Int.reduceMul, Int.reduceEq, nv_nb, S_inj, nb_nil_eq, S_size, len_le8, h8m, h8n, hz]
  have hne : (((n : Nat) : Int) = 0) = False := eq_false (by omega)
  have m1 : m / n % 18446744073709551616 = m / n := Nat.mod_eq_of_lt (Nat.lt_of_le_of_lt (Nat.div_le_self _ _) hm)
  refine call_of (shortN hm) ?_
  simp only [↓R1, R2, R3, R4, TY, reduceIte, Nat.reduceEqDiff, Nat.reduceAdd, Nat.reduceMul, Nat.reduceLT, Nat.reduceLeDiff, reduceCtorEq, decide_true, decide_false, Int.reduceLE, Int.reduceLT, Int.reduceToNat, Int.reduceAdd, Int.reduceSub, Int.reduceMul, Int.reduceEq]
  refine call_of (shortN hn) ?_
  simp only [↓R1, R2, R3, R4, TY, reduceIte, Nat.reduceEqDiff, Nat.reduceAdd, Nat.reduceMul, Nat.reduceLT, Nat.reduceLeDiff, reduceCtorEq, decide_true, decide_false, Int.reduceLE, Int.reduceLT, Int.reduceToNat, Int.reduceAdd, Int.reduceSub, Int.reduceMul, Int.reduceEq, ne_eq, hne, not_false_eq_true, m1, UN]
  refine call_of (fromShort_ok (Nat.lt_of_le_of_lt (Nat.div_le_self _ _) hm)) ?_
  simp only [↓R1, R2, R3, R4, TY, reduceIte, Nat.reduceEqDiff, Nat.reduceAdd, Nat.reduceMul, Nat.reduceLT, Nat.reduceLeDiff, reduceCtorEq, decide_true, decide_false, Int.reduceLE, Int.reduceLT, Int.reduceToNat, Int.reduceAdd, Int.reduceSub, Int.reduceMul, Int.reduceEq]
  refine call_of (shortN hm) ?_
  simp only [↓R1, R2, R3, R4, TY, reduceIte, Nat.reduceEqDiff, Nat.reduceAdd, Nat.reduceMul, Nat.reduceLT, Nat.reduceLeDiff, reduceCtorEq, decide_true, decide_false, Int.reduceLE, Int.reduceLT, Int.reduceToNat, Int.reduceAdd, Int.reduceSub, Int.reduceMul, Int.reduceEq]
  refine call_of (shortN hn) ?_
  simp only [↓R1, R2, R3, R4, TY, reduceIte, Nat.reduceEqDiff, Nat.reduceAdd, Nat.reduceMul, Nat.reduceLT, Nat.reduceLeDiff, reduceCtorEq, decide_true, decide_false, Int.reduceLE, Int.reduceLT, Int.reduceToNat, Int.reduceAdd, Int.reduceSub, Int.reduceMul, Int.reduceEq, ne_eq, hne, not_false_eq_true, UN]
  refine call_of (fromShort_ok (Nat.lt_of_lt_of_le (Nat.mod_lt _ (by omega)) (by omega))) ?_
  simp only [↓R1, R2, R3, R4, TY, reduceIte, Nat.reduceEqDiff, Nat.reduceAdd, Nat.reduceMul, Nat.reduceLT, Nat.reduceLeDiff, reduceCtorEq, decide_true, decide_false, Int.reduceLE, Int.reduceLT, Int.reduceToNat, Int.reduceAdd, Int.reduceSub, Int.reduceMul, Int.reduceEq]
  refine Ended.back hA (Xt.refl _) rfl (RB.tuple fun w hw => ?_)
  simp only [List.mem_cons, List.not_mem_nil, or_false] at hw
  rcases hw with rfl | rfl | rfl
  · exact RB.string _
  · exact RB.string _
  · exact RB.int _ _
end
end Go.Proofs.YtjkimjmocfjjnaaDoor.Ab

/- Rational numbers: their values; zero, Good, fit, made, signed. -/
namespace Go.Proofs.YtjkimjmocfjjnaaDoor.Ab
open Go.RowKit
set_option linter.unusedVariables false
set_option linter.unusedSimpArgs false
set_option maxRecDepth 100000

/-- A number's value. -/
def ratV (q : Rat) : Value := .agg #[.bool (decide (q.num < 0)), .string (S (nb q.num.natAbs)), .string (S (nb q.den))]
/-- A whole number by its sign. -/
def sgn (neg : Bool) (m : Nat) : Int := if neg then -(m : Int) else m
/-- Numerator and denominator are within bounds. -/
def Sz (q : Rat) (k : Nat) : Prop := q.num.natAbs ≤ k ∧ q.den ≤ k
theorem sgn_abs (neg : Bool) (m : Nat) : (sgn neg m).natAbs = m := by unfold sgn; split <;> simp
theorem sgn_num (x : Int) : sgn (decide (x < 0)) x.natAbs = x := by unfold sgn; split <;> (rename_i h; simp at h; omega)
theorem mk_num {neg : Bool} {m d : Nat} (hd : d ≠ 0) : (mkRat (sgn neg m) d).num = sgn neg (m / Nat.gcd m d) := by
  rw [Rat.num_mkRat, if_neg hd, sgn_abs, Nat.gcd_comm]
  have h : (Nat.gcd m d : Int) ∣ (m : Int) := Int.natCast_dvd_natCast.2 (Nat.gcd_dvd_left m d)
  unfold sgn
  split
  · rw [Int.neg_ediv_of_dvd h]; simp
  · simp
theorem mk_den {neg : Bool} {m d : Nat} (hd : d ≠ 0) : (mkRat (sgn neg m) d).den = d / Nat.gcd m d := by
  rw [Rat.den_mkRat, if_neg hd, sgn_abs, Nat.gcd_comm]
theorem rat_den_pos (q : Rat) : q.den ≠ 0 := q.den_nz
theorem rat_gcd (q : Rat) : Nat.gcd q.num.natAbs q.den = 1 := q.reduced
theorem rat_num0 {q : Rat} (h : q.num = 0) : q.den = 1 := by
  have := rat_gcd q
  rw [h] at this; simpa using this
theorem Sz.mk {n : Int} {d k : Nat} (h1 : n.natAbs ≤ k) (h2 : d ≤ k) (hk : 1 ≤ k) : Sz (mkRat n d) k := by
  constructor
  · rw [Rat.num_mkRat]
    split
    · simp
    · have h : (Nat.gcd d n.natAbs : Int) ∣ n := Int.dvd_natAbs.1 (Int.natCast_dvd_natCast.2 (Nat.gcd_dvd_right d n.natAbs))
      rw [Int.natAbs_ediv_of_dvd h]
      exact Nat.le_trans (Nat.div_le_self _ _) h1
  · rw [Rat.den_mkRat]
    split
    · exact hk
    · exact Nat.le_trans (Nat.div_le_self _ _) h2
theorem Sz.mono {q : Rat} {j k : Nat} (h : Sz q j) (hk : j ≤ k) : Sz q k := ⟨Nat.le_trans h.1 hk, Nat.le_trans h.2 hk⟩
theorem Sz.pos {q : Rat} {k : Nat} (h : Sz q k) : 1 ≤ k := Nat.le_trans (Nat.one_le_iff_ne_zero.2 (rat_den_pos q)) h.2
theorem Sz.add {p q : Rat} {j k : Nat} (hp : Sz p j) (hq : Sz q k) : Sz (p + q) (2 * (j * k)) := by
  rw [Rat.add_def']
  have hj := hp.pos
  have hk := hq.pos
  have h0 : 1 ≤ j * k := Nat.mul_pos hj hk
  have a1 : (p.num * (q.den : Int)).natAbs ≤ j * k := by rw [Int.natAbs_mul]; exact Nat.mul_le_mul hp.1 (by simpa using hq.2)
  have a2 : (q.num * (p.den : Int)).natAbs ≤ j * k := by rw [Int.natAbs_mul, Nat.mul_comm j k]; exact Nat.mul_le_mul hq.1 (by simpa using hp.2)
  refine Sz.mk (by omega) ?_ (by omega)
  have := Nat.mul_le_mul hp.2 hq.2; omega
theorem Sz.mul {p q : Rat} {j k : Nat} (hp : Sz p j) (hq : Sz q k) : Sz (p * q) (j * k) := by
  rw [Rat.mul_def']
  refine Sz.mk ?_ (Nat.mul_le_mul hp.2 hq.2) (Nat.mul_pos hp.pos hq.pos)
  rw [Int.natAbs_mul]; exact Nat.mul_le_mul hp.1 hq.1
theorem Sz.neg {q : Rat} {k : Nat} (h : Sz q k) : Sz (-q) k := ⟨by rw [Rat.neg_num, Int.natAbs_neg]; exact h.1, h.2⟩
theorem Sz.sub {p q : Rat} {j k : Nat} (hp : Sz p j) (hq : Sz q k) : Sz (p - q) (2 * (j * k)) := by
  rw [Rat.sub_eq_add_neg]; exact hp.add hq.neg

theorem nb_head_of {n : Nat} (h : n ≠ 0) : ∃ b l, nb n = b :: l ∧ ¬ (((b.toNat : Nat) : Int) = 0) := by
  cases hn : nb n with
  | nil => exact absurd (nb_eq_nil.1 hn) h
  | cons b l => exact ⟨b, l, rfl, fun e => nb_head hn (UInt8.toNat_inj.1 (by simp; omega))⟩

section
variable {G : Gl} {fl : Nat} {A : Hp}

theorem ratV_cells (q : Rat) : (ratV q).cells.toList = [.bool (decide (q.num < 0)), .string (S (nb q.num.natAbs)), .string (S (nb q.den))] := rfl
theorem ratV_rb (n : Nat) (q : Rat) : RB n (ratV q) := ⟨ratV q, .agg rfl fun i h h' => by
  have : i < 3 := h
  match i, this with
  | 0, _ => exact .bool _
  | 1, _ => exact .string _
  | 2, _ => exact .string _⟩
theorem nb_one : nb 1 = [1] := nb_small (by omega) (by omega)

theorem zero_ok : Sound Tryd.prog G 88 [] fl A (ratV 0) A := by
  refine Sound.of mixed Tryd.func88 Tryd.ntmps88 Tryd.results88 (by kernel_rfl) rfl (by kernel_rfl) (by kernel_rfl) fun hA => ?_
  have hfl : fl ≤ A.next := hA.floor
  simp only [↓R1, R2, R3, R4, TY, reduceIte, Nat.reduceEqDiff, Nat.reduceAdd, Nat.reduceMul, Nat.reduceLT, Nat.reduceLeDiff, reduceCtorEq, decide_true, decide_false, Int.reduceLE, Int.reduceLT, Int.reduceToNat, Int.reduceAdd, Int.reduceSub, Int.reduceMul, Int.reduceEq, hfl]
  refine Ended.back hA ?_ ?_ (ratV_rb _ _)
  · simp (maxDischargeDepth := 20) only [xt_push, xt_put, xt_refl, Nat.le_refl]
  · have e : ratV 0 = .agg #[.bool false, .string (S (nb 0)), .string (S (nb 1))] := rfl
    rw [e, nb_one, nb_zero]

theorem good_ok {q : Rat} (h1 : q.num.natAbs < 18446744073709551616) (h2 : q.den < 18446744073709551616) : Sound Tryd.prog G 87 [ratV q] fl A (.bool true) A := by
  refine Sound.of mixed Tryd.func87 Tryd.ntmps87 Tryd.results87 (by kernel_rfl) rfl (by kernel_rfl) (by kernel_rfl) fun hA => ?_
  rw [ratV]
  have hd := rat_den_pos q
  have hg := rat_gcd q
  have hfl : fl ≤ A.next := hA.floor
  have hdf : (q.den = 0) = False := eq_false hd
  obtain ⟨b, l, hbl, hb0⟩ := nb_head_of hd
  have hlen : ((0 : Int) < ((nb q.den).length : Nat)) = True := eq_true (by rw [hbl]; simp)
  have hbyte : byteAt (S (nb q.den)) 0 = ((b.toNat : Nat) : Int) := by rw [hbl]; rfl
  have hbz : (((b.toNat : Nat) : Int) = 0) = False := eq_false hb0
  by_cases hn : q.num.natAbs = 0
  · have hn0 : q.num = 0 := by omega
    have hneg : decide (q.num < 0) = false := by rw [hn0]; rfl
    have hden : nb q.den = [1] := by rw [rat_num0 hn0, nb_one]
    have hneg2 : (q.num < 0) = False := eq_false (by omega)
    rw [hneg]
    rw [hden] at hbyte hlen ⊢
    have hlen1 : ((0 : Int) < ((1 : Nat) : Int)) = True := eq_true (by decide)
    simp only [↓R1, R2, R3, R4, TY, reduceIte, Nat.reduceEqDiff, Nat.reduceAdd, Nat.reduceMul, Nat.reduceLT, Nat.reduceLeDiff, reduceCtorEq, decide_true, decide_false, Int.reduceLE, Int.reduceLT, Int.reduceToNat, Int.reduceAdd, Int.reduceSub, Int.reduceMul, Int.reduceEq, append_eq, List.cons_append, List.nil_append, S_inj, nb_nil_eq, S_size, hlen1, hbyte, hbz, hn, hneg2]
    exact Ended.back hA ((Xt.refl A).push _) rfl (RB.bool _)
  · have hnf : (q.num.natAbs = 0) = False := eq_false hn
    obtain ⟨c, k, hck, hc0⟩ := nb_head_of hn
    have hlen2 : ((0 : Int) < ((nb q.num.natAbs).length : Nat)) = True := eq_true (by rw [hck]; simp)
    have hbyte2 : byteAt (S (nb q.num.natAbs)) 0 = ((c.toNat : Nat) : Int) := by rw [hck]; rfl
    have hcz : (((c.toNat : Nat) : Int) = 0) = False := eq_false hc0
    simp only [↓R1, R2, R3, R4, TY, reduceIte, Nat.reduceEqDiff, Nat.reduceAdd, Nat.reduceMul, Nat.reduceLT, Nat.reduceLeDiff, reduceCtorEq, decide_true, decide_false, Int.reduceLE, Int.reduceLT, Int.reduceToNat, Int.reduceAdd, Int.reduceSub, Int.reduceMul, Int.reduceEq, append_eq, List.cons_append, List.nil_append, S_inj, nb_nil_eq, S_size, hdf, hlen, hbyte, hbz, hnf, hlen2, hbyte2, hcz]
    refine ⟨fun h => Ended.back hA (by simp (maxDischargeDepth := 20) only [xt_push, xt_refl]) rfl (RB.bool _), fun h => ?_⟩
    refine call_of (gcdN h1 h2) ?_
    rw [hg]
    simp only [↓R1, R2, R3, R4, TY, reduceIte, Nat.reduceEqDiff, Nat.reduceAdd, Nat.reduceMul, Nat.reduceLT, Nat.reduceLeDiff, reduceCtorEq, decide_true, decide_false, Int.reduceLE, Int.reduceLT, Int.reduceToNat, Int.reduceAdd, Int.reduceSub, Int.reduceMul, Int.reduceEq, S_inj, nb_one]
    exact Ended.back hA (by simp (maxDischargeDepth := 20) only [xt_push, xt_refl]) rfl (RB.bool _)

theorem fit_ok {q : Rat} (h1 : q.num.natAbs < 18446744073709551616) (h2 : q.den < 18446744073709551616) : Sound Tryd.prog G 57 [ratV q] fl A (ratV q) A := by
  refine Sound.of mixed Tryd.func57 Tryd.ntmps57 Tryd.results57 (by kernel_rfl) rfl (by kernel_rfl) (by kernel_rfl) fun hA => ?_
  have hg := fun A => good_ok (G := G) (fl := fl) (A := A) h1 h2
  have hfl : fl ≤ A.next := hA.floor
  have hfl1 : fl ≤ A.next + 1 := by omega
  rw [ratV] at hg ⊢
  simp only [↓R1, R2, R3, R4, TY, reduceIte, Nat.reduceEqDiff, Nat.reduceAdd, Nat.reduceMul, Nat.reduceLT, Nat.reduceLeDiff, reduceCtorEq, decide_true, decide_false, Int.reduceLE, Int.reduceLT, Int.reduceToNat, Int.reduceAdd, Int.reduceSub, Int.reduceMul, Int.reduceEq, hfl, hfl1]
  refine call_of (hg _) ?_
  simp only [↓R1, R2, R3, R4, TY, reduceIte, Nat.reduceEqDiff, Nat.reduceAdd, Nat.reduceMul, Nat.reduceLT, Nat.reduceLeDiff, reduceCtorEq, decide_true, decide_false, Int.reduceLE, Int.reduceLT, Int.reduceToNat, Int.reduceAdd, Int.reduceSub, Int.reduceMul, Int.reduceEq, hfl, hfl1]
  refine Ended.back hA (by simp (maxDischargeDepth := 20) only [xt_push, xt_put, xt_refl, Nat.le_refl, Nat.le_add_right]) rfl (ratV_rb _ q)

theorem made_ok {neg : Bool} {m d : Nat} (hd : d ≠ 0) (h1 : m < 18446744073709551616) (h2 : d < 18446744073709551616) :
    Sound Tryd.prog G 65 [.bool neg, .string (S (nb m)), .string (S (nb d))] fl A (ratV (mkRat (sgn neg m) d)) A := by
  refine Sound.of mixed Tryd.func65 Tryd.ntmps65 Tryd.results65 (by kernel_rfl) rfl (by kernel_rfl) (by kernel_rfl) fun hA => ?_
  have hfl : fl ≤ A.next := hA.floor
  have hone : (nb d = [1]) = (d = 1) := by rw [← nb_one]; exact propext ⟨nb_inj, fun h => by rw [h]⟩
  have hg1 : (nb (Nat.gcd m d) = [1]) = (Nat.gcd m d = 1) := by rw [← nb_one]; exact propext ⟨nb_inj, fun h => by rw [h]⟩
  have hgd : Nat.gcd m d ≠ 0 := fun h => hd (Nat.eq_zero_of_gcd_eq_zero_right h)
  have hgd2 : Nat.gcd m d ≤ d := Nat.gcd_le_right _ (by omega)
  simp only [↓R1, R2, R3, R4, TY, reduceIte, Nat.reduceEqDiff, Nat.reduceAdd, Nat.reduceMul, Nat.reduceLT, Nat.reduceLeDiff, reduceCtorEq, decide_true, decide_false, Int.reduceLE, Int.reduceLT, Int.reduceToNat, Int.reduceAdd, Int.reduceSub, Int.reduceMul, Int.reduceEq, S_inj, nb_nil_eq, hone]
  refine ⟨fun h => ?_, fun h => ?_⟩
  · refine call_of zero_ok ?_
    have e : ratV 0 = .agg #[.bool false, .string (S (nb 0)), .string (S (nb 1))] := rfl
    have e2 : mkRat (sgn neg m) d = 0 := by rw [h]; unfold sgn; split <;> simp
    rw [e2, e]
    simp only [↓R1, R2, R3, R4, TY, reduceIte, Nat.reduceEqDiff, Nat.reduceAdd, Nat.reduceMul, Nat.reduceLT, Nat.reduceLeDiff, reduceCtorEq, decide_true, decide_false, Int.reduceLE, Int.reduceLT, Int.reduceToNat, Int.reduceAdd, Int.reduceSub, Int.reduceMul, Int.reduceEq, hfl]
    exact Ended.back hA (by simp (maxDischargeDepth := 20) only [xt_push, xt_put, xt_refl, Nat.le_refl]) rfl (ratV_rb _ 0)
  have hend : ∀ (a b : Nat) (B : Hp), Xt A.next A B → a = m / Nat.gcd m d → b = d / Nat.gcd m d → Ended A (.agg #[.bool neg, .string (S (nb a)), .string (S (nb b))]) B (ratV (mkRat (sgn neg m) d)) A := by
    rintro a b B hx rfl rfl
    refine Ended.back hA hx ?_ (ratV_rb _ _)
    have hpos : 0 < m / Nat.gcd m d := Nat.div_pos (Nat.gcd_le_left _ (by omega)) (by omega)
    rw [ratV, mk_num hd, mk_den hd, sgn_abs]
    have : decide (sgn neg (m / Nat.gcd m d) < 0) = neg := by unfold sgn; cases neg <;> simp <;> omega
    rw [this]
  have hx1 : Xt A.next A ((A.push (.row [.bool false, .string (S []), .string (S [])] 0 3)).put A.next (.row [.bool neg, .string (S (nb m)), .string (S (nb d))] 0 3)) := by simp (maxDischargeDepth := 20) only [xt_push, xt_put, xt_refl, Nat.le_refl]
  refine ⟨fun h3 => ?_, fun h3 => ?_⟩
  · simp only [↓R1, R2, R3, R4, TY, reduceIte, Nat.reduceEqDiff, Nat.reduceAdd, Nat.reduceMul, Nat.reduceLT, Nat.reduceLeDiff, reduceCtorEq, decide_true, decide_false, Int.reduceLE, Int.reduceLT, Int.reduceToNat, Int.reduceAdd, Int.reduceSub, Int.reduceMul, Int.reduceEq, hfl]
    exact hend m d _ hx1 (by rw [h3]; simp) (by rw [h3]; simp)
  · refine call_of (gcdN h1 h2) ?_
    simp only [↓R1, R2, R3, R4, TY, reduceIte, Nat.reduceEqDiff, Nat.reduceAdd, Nat.reduceMul, Nat.reduceLT, Nat.reduceLeDiff, reduceCtorEq, decide_true, decide_false, Int.reduceLE, Int.reduceLT, Int.reduceToNat, Int.reduceAdd, Int.reduceSub, Int.reduceMul, Int.reduceEq, S_inj, hg1]
    refine ⟨fun h4 => ?_, fun h4 => ?_⟩
    · simp only [↓R1, R2, R3, R4, TY, reduceIte, Nat.reduceEqDiff, Nat.reduceAdd, Nat.reduceMul, Nat.reduceLT, Nat.reduceLeDiff, reduceCtorEq, decide_true, decide_false, Int.reduceLE, Int.reduceLT, Int.reduceToNat, Int.reduceAdd, Int.reduceSub, Int.reduceMul, Int.reduceEq, hfl]
      exact hend m d _ hx1 (by rw [h4]; simp) (by rw [h4]; simp)
    · refine call_of (divN h1 (by omega) hgd) ?_
      simp only [↓R1, R2, R3, R4, TY, reduceIte, Nat.reduceEqDiff, Nat.reduceAdd, Nat.reduceMul, Nat.reduceLT, Nat.reduceLeDiff, reduceCtorEq, decide_true, decide_false, Int.reduceLE, Int.reduceLT, Int.reduceToNat, Int.reduceAdd, Int.reduceSub, Int.reduceMul, Int.reduceEq]
      refine call_of (divN h2 (by omega) hgd) ?_
      simp only [↓R1, R2, R3, R4, TY, reduceIte, Nat.reduceEqDiff, Nat.reduceAdd, Nat.reduceMul, Nat.reduceLT, Nat.reduceLeDiff, reduceCtorEq, decide_true, decide_false, Int.reduceLE, Int.reduceLT, Int.reduceToNat, Int.reduceAdd, Int.reduceSub, Int.reduceMul, Int.reduceEq, hfl]
      exact hend _ _ _ (by simp (maxDischargeDepth := 20) only [xt_push, xt_put, xt_refl, Nat.le_refl]) rfl rfl
end
end Go.Proofs.YtjkimjmocfjjnaaDoor.Ab

/- Rational numbers: sums and products. -/
namespace Go.Proofs.YtjkimjmocfjjnaaDoor.Ab
open Go.RowKit
set_option linter.unusedVariables false
set_option linter.unusedSimpArgs false
set_option maxRecDepth 100000

theorem ne_1 {n : Nat} : (n + 1 = n) = False := eq_false (by omega)
theorem ne_2 {n : Nat} : (n + 2 = n) = False := eq_false (by omega)
theorem ne_3 {n : Nat} : (n + 3 = n) = False := eq_false (by omega)
theorem ne_1' {n : Nat} : (n = n + 1) = False := eq_false (by omega)
theorem ne_2' {n : Nat} : (n = n + 2) = False := eq_false (by omega)
theorem ne_3' {n : Nat} : (n = n + 3) = False := eq_false (by omega)
set_option linter.defProp false in
def NE := And.intro @ne_1 (And.intro @ne_2 (And.intro @ne_3 (And.intro @ne_1' (And.intro @ne_2' @ne_3'))))
def signedR (neg : Bool) (a : Nat) (minus : Bool) (b : Nat) : Bool × Nat := if neg = minus then (neg, a + b) else if b ≤ a then (neg, a - b) else (minus, b - a)
theorem sgn_signedR (neg : Bool) (a : Nat) (minus : Bool) (b : Nat) : sgn (signedR neg a minus b).1 (signedR neg a minus b).2 = sgn neg a + sgn minus b := by
  unfold signedR sgn
  cases neg <;> cases minus <;> simp
  · split <;> simp <;> omega
  · split <;> simp <;> omega
  · omega
theorem signedR_le (neg : Bool) (a : Nat) (minus : Bool) (b : Nat) : (signedR neg a minus b).2 ≤ a + b := by
  unfold signedR
  split
  · exact Nat.le_refl _
  · split <;> simp only <;> omega
theorem sgn_mul (neg : Bool) (m d : Nat) : sgn neg (m * d) = sgn neg m * d := by
  unfold sgn; split <;> simp [Int.neg_mul]
theorem sgn_mul2 (a b : Bool) (m n : Nat) : sgn (!(a == b)) (m * n) = sgn a m * sgn b n := by
  cases a <;> cases b <;> simp [sgn, Int.neg_mul, Int.mul_neg]

section
variable {G : Gl} {fl : Nat} {A : Hp}

theorem signed_ok {neg minus : Bool} {a b : Nat} (ha : (nb a).length ≤ 90000000000) (hb : (nb b).length ≤ 90000000000) :
    Sound Tryd.prog G 68 [.bool neg, .string (S (nb a)), .bool minus, .string (S (nb b))] fl A (.tuple [Value.bool (signedR neg a minus b).1, .string (S (nb (signedR neg a minus b).2))].toArray) A := by
  refine Sound.of mixed Tryd.func68 Tryd.ntmps68 Tryd.results68 (by kernel_rfl) rfl (by kernel_rfl) (by kernel_rfl) fun hA => ?_
  have hres : ∀ (x : Bool) (n : Nat), signedR neg a minus b = (x, n) → Ended A (.tuple [Value.bool x, .string (S (nb n))].toArray) A (.tuple [Value.bool (signedR neg a minus b).1, .string (S (nb (signedR neg a minus b).2))].toArray) A := by
    intro x n he
    rw [he]
    refine Ended.back hA (Xt.refl _) rfl (RB.tuple fun w hw => ?_)
    simp only [List.mem_cons, List.not_mem_nil, or_false] at hw
    rcases hw with rfl | rfl
    · exact RB.bool _
    · exact RB.string _
  simp only [↓R1, R2, R3, R4, TY, reduceIte, Nat.reduceEqDiff, Nat.reduceAdd, Nat.reduceMul, Nat.reduceLT, Nat.reduceLeDiff, reduceCtorEq, decide_true, decide_false, Int.reduceLE, Int.reduceLT, Int.reduceToNat, Int.reduceAdd, Int.reduceSub, Int.reduceMul, Int.reduceEq]
  by_cases hnm : neg = minus
  · subst hnm
    have hbb : (neg == neg) = true := by simp
    rw [hbb]
    simp only [↓R1, R2, R3, R4, TY, reduceIte, Nat.reduceEqDiff, Nat.reduceAdd, Nat.reduceMul, Nat.reduceLT, Nat.reduceLeDiff, reduceCtorEq, decide_true, decide_false, Int.reduceLE, Int.reduceLT, Int.reduceToNat, Int.reduceAdd, Int.reduceSub, Int.reduceMul, Int.reduceEq]
    refine call_of (addN ha hb) ?_
    simp only [↓R1, R2, R3, R4, TY, reduceIte, Nat.reduceEqDiff, Nat.reduceAdd, Nat.reduceMul, Nat.reduceLT, Nat.reduceLeDiff, reduceCtorEq, decide_true, decide_false, Int.reduceLE, Int.reduceLT, Int.reduceToNat, Int.reduceAdd, Int.reduceSub, Int.reduceMul, Int.reduceEq]
    exact hres _ _ (by rw [signedR, if_pos rfl])
  · have hbb : (neg == minus) = false := by simpa using hnm
    rw [hbb]
    simp only [↓R1, R2, R3, R4, TY, reduceIte, Nat.reduceEqDiff, Nat.reduceAdd, Nat.reduceMul, Nat.reduceLT, Nat.reduceLeDiff, reduceCtorEq, decide_true, decide_false, Int.reduceLE, Int.reduceLT, Int.reduceToNat, Int.reduceAdd, Int.reduceSub, Int.reduceMul, Int.reduceEq]
    refine call_of (subN ha hb) ?_
    by_cases hle : b ≤ a
    · rw [show subR a b = (a - b, 0) from by rw [subR, if_neg (by omega)]]
      simp only [↓R1, R2, R3, R4, TY, reduceIte, Nat.reduceEqDiff, Nat.reduceAdd, Nat.reduceMul, Nat.reduceLT, Nat.reduceLeDiff, reduceCtorEq, decide_true, decide_false, Int.reduceLE, Int.reduceLT, Int.reduceToNat, Int.reduceAdd, Int.reduceSub, Int.reduceMul, Int.reduceEq]
      exact hres _ _ (by rw [signedR, if_neg hnm, if_pos hle])
    · rw [show subR a b = (0, 1) from by rw [subR, if_pos (by omega)]]
      simp only [↓R1, R2, R3, R4, TY, reduceIte, Nat.reduceEqDiff, Nat.reduceAdd, Nat.reduceMul, Nat.reduceLT, Nat.reduceLeDiff, reduceCtorEq, decide_true, decide_false, Int.reduceLE, Int.reduceLT, Int.reduceToNat, Int.reduceAdd, Int.reduceSub, Int.reduceMul, Int.reduceEq]
      refine call_of (subN hb ha) ?_
      rw [show subR b a = (b - a, 0) from by rw [subR, if_neg (by omega)]]
      simp only [↓R1, R2, R3, R4, TY, reduceIte, Nat.reduceEqDiff, Nat.reduceAdd, Nat.reduceMul, Nat.reduceLT, Nat.reduceLeDiff, reduceCtorEq, decide_true, decide_false, Int.reduceLE, Int.reduceLT, Int.reduceToNat, Int.reduceAdd, Int.reduceSub, Int.reduceMul, Int.reduceEq]
      exact hres _ _ (by rw [signedR, if_neg hnm, if_neg hle])

theorem radd_ok {p q : Rat} {j k : Nat} (hp : Sz p j) (hq : Sz q k) (hb : 2 * (j * k) < 18446744073709551616) : Sound Tryd.prog G 29 [ratV p, ratV q] fl A (ratV (p + q)) A := by
  refine Sound.of mixed Tryd.func29 Tryd.ntmps29 Tryd.results29 (by kernel_rfl) rfl (by kernel_rfl) (by kernel_rfl) fun hA => ?_
  obtain ⟨p1, p2⟩ := id hp
  obtain ⟨q1, q2⟩ := id hq
  have hj := hp.pos
  have hk := hq.pos
  have hjk1 : j ≤ j * k := Nat.le_mul_of_pos_right _ hk
  have hjk2 : k ≤ j * k := Nat.le_mul_of_pos_left _ hj
  have n1 : p.num.natAbs * q.den ≤ j * k := Nat.mul_le_mul p1 q2
  have n2 : q.num.natAbs * p.den ≤ j * k := by rw [Nat.mul_comm j k]; exact Nat.mul_le_mul q1 p2
  have n3 : p.den * q.den ≤ j * k := Nat.mul_le_mul p2 q2
  have fp := fun fl A => fit_ok (G := G) (fl := fl) (A := A) (q := p) (by omega) (by omega)
  have fq := fun fl A => fit_ok (G := G) (fl := fl) (A := A) (q := q) (by omega) (by omega)
  have hfl : fl ≤ A.next := hA.floor
  have hfl1 : fl ≤ A.next + 1 := by omega
  have hfl2 : fl ≤ A.next + 2 := by omega
  have hpd := rat_den_pos p
  have hqd := rat_den_pos q
  rw [ratV, ratV] at *
  simp only [↓R1, R2, R3, R4, TY, reduceIte, Nat.reduceEqDiff, Nat.reduceAdd, Nat.reduceMul, Nat.reduceLT, Nat.reduceLeDiff, reduceCtorEq, decide_true, decide_false, Int.reduceLE, Int.reduceLT, Int.reduceToNat, Int.reduceAdd, Int.reduceSub, Int.reduceMul, Int.reduceEq, hfl, hfl1, hfl2]
  refine call_of (fp _ _) ?_
  simp only [↓R1, R2, R3, R4, TY, reduceIte, Nat.reduceEqDiff, Nat.reduceAdd, Nat.reduceMul, Nat.reduceLT, Nat.reduceLeDiff, reduceCtorEq, decide_true, decide_false, Int.reduceLE, Int.reduceLT, Int.reduceToNat, Int.reduceAdd, Int.reduceSub, Int.reduceMul, Int.reduceEq, hfl, hfl1, hfl2]
  refine call_of (fq _ _) ?_
  simp only [↓R1, R2, R3, R4, TY, reduceIte, Nat.reduceEqDiff, Nat.reduceAdd, Nat.reduceMul, Nat.reduceLT, Nat.reduceLeDiff, reduceCtorEq, decide_true, decide_false, Int.reduceLE, Int.reduceLT, Int.reduceToNat, Int.reduceAdd, Int.reduceSub, Int.reduceMul, Int.reduceEq, hfl, hfl1, hfl2]
  rw [floOf_wr (by kernel_rfl)]
  simp only [↓R1, R2, R3, R4, TY, reduceIte, Nat.reduceEqDiff, Nat.reduceAdd, Nat.reduceMul, Nat.reduceLT, Nat.reduceLeDiff, reduceCtorEq, decide_true, decide_false, Int.reduceLE, Int.reduceLT, Int.reduceToNat, Int.reduceAdd, Int.reduceSub, Int.reduceMul, Int.reduceEq, hfl, hfl1, hfl2, NE]
  rw [floOf_wr (by kernel_rfl)]
  simp only [↓R1, R2, R3, R4, TY, reduceIte, Nat.reduceEqDiff, Nat.reduceAdd, Nat.reduceMul, Nat.reduceLT, Nat.reduceLeDiff, reduceCtorEq, decide_true, decide_false, Int.reduceLE, Int.reduceLT, Int.reduceToNat, Int.reduceAdd, Int.reduceSub, Int.reduceMul, Int.reduceEq, hfl, hfl1, hfl2, NE, S_nb]
  generalize hB : Hp.put _ _ _ = B
  have hBn : B.next = A.next + 3 := by rw [← hB]; rfl
  have hBx : Xt A.next A B := by rw [← hB]; exact (((((Xt.refl A).push _).push _).push _).put (Nat.le_refl _) _).put (by omega) _
  have hBr : B.blk (A.next + 2) = some (.row [.bool false, .string (S []), .string (S [])] 0 3) := by rw [← hB]; simp [Hp.put_blk, Hp.push_blk]
  have g0 : B.get G ⟨A.next, 0, some 0⟩ = some (.bool (decide (p.num < 0))) := by rw [← hB]; simp [Hp.get, Hp.put_blk, Hp.push_blk]
  have g1 : B.get G ⟨A.next, 1, some 0⟩ = some (.string (S (nb p.num.natAbs))) := by rw [← hB]; simp [Hp.get, Hp.put_blk, Hp.push_blk]
  have g2 : B.get G ⟨A.next, 2, some 0⟩ = some (.string (S (nb p.den))) := by rw [← hB]; simp [Hp.get, Hp.put_blk, Hp.push_blk]
  have g3 : B.get G ⟨A.next + 1, 0, some 0⟩ = some (.bool (decide (q.num < 0))) := by rw [← hB]; simp [Hp.get, Hp.put_blk, Hp.push_blk]
  have g4 : B.get G ⟨A.next + 1, 1, some 0⟩ = some (.string (S (nb q.num.natAbs))) := by rw [← hB]; simp [Hp.get, Hp.put_blk, Hp.push_blk]
  have g5 : B.get G ⟨A.next + 1, 2, some 0⟩ = some (.string (S (nb q.den))) := by rw [← hB]; simp [Hp.get, Hp.put_blk, Hp.push_blk]
  have hend : ∀ (r : Rat) (cs : List Value), r = p + q → Ended A (ratV r) (B.put (A.next + 2) (.row cs 0 3)) (ratV (p + q)) A := by
    rintro r cs rfl
    exact Ended.back hA (hBx.put (by omega) _) rfl (ratV_rb _ _)
  refine ⟨fun he => ?_, fun he => ?_⟩
  · have l1 : (nb p.num.natAbs).length ≤ 8 := nb8.2 (by omega)
    have l2 : (nb q.num.natAbs).length ≤ 8 := nb8.2 (by omega)
    refine call_of (signed_ok (by omega) (by omega)) ?_
    have hle := signedR_le (decide (p.num < 0)) p.num.natAbs (decide (q.num < 0)) q.num.natAbs
    have hsum := sgn_signedR (decide (p.num < 0)) p.num.natAbs (decide (q.num < 0)) q.num.natAbs
    rw [sgn_num, sgn_num] at hsum
    simp only [↓R1, R2, R3, R4, TY, reduceIte, Nat.reduceEqDiff, Nat.reduceAdd, Nat.reduceMul, Nat.reduceLT, Nat.reduceLeDiff, reduceCtorEq, decide_true, decide_false, Int.reduceLE, Int.reduceLT, Int.reduceToNat, Int.reduceAdd, Int.reduceSub, Int.reduceMul, Int.reduceEq, g2]
    refine call_of (made_ok hpd (by omega) (by omega)) ?_
    rw [hsum]
    have hr : mkRat (p.num + q.num) p.den = p + q := by
      rw [Rat.add_def', ← he, ← Int.add_mul, Rat.mkRat_mul_right hpd]
    rw [hr]
    have hv := hend (p + q)
    rw [ratV] at hv ⊢
    simp only [↓R1, R2, R3, R4, TY, reduceIte, Nat.reduceEqDiff, Nat.reduceAdd, Nat.reduceMul, Nat.reduceLT, Nat.reduceLeDiff, reduceCtorEq, decide_true, decide_false, Int.reduceLE, Int.reduceLT, Int.reduceToNat, Int.reduceAdd, Int.reduceSub, Int.reduceMul, Int.reduceEq, hBr, hfl2]
    exact hv _ rfl
  · have l1 : (nb p.num.natAbs).length ≤ 8 := nb8.2 (by omega)
    have l2 : (nb q.num.natAbs).length ≤ 8 := nb8.2 (by omega)
    have l3 : (nb p.den).length ≤ 8 := nb8.2 (by omega)
    have l4 : (nb q.den).length ≤ 8 := nb8.2 (by omega)
    refine call_of (mulN (by omega) (by omega)) ?_
    simp only [↓R1, R2, R3, R4, TY, reduceIte, Nat.reduceEqDiff, Nat.reduceAdd, Nat.reduceMul, Nat.reduceLT, Nat.reduceLeDiff, reduceCtorEq, decide_true, decide_false, Int.reduceLE, Int.reduceLT, Int.reduceToNat, Int.reduceAdd, Int.reduceSub, Int.reduceMul, Int.reduceEq, g0, g1, g2, g3, g4, g5]
    refine call_of (mulN (by omega) (by omega)) ?_
    simp only [↓R1, R2, R3, R4, TY, reduceIte, Nat.reduceEqDiff, Nat.reduceAdd, Nat.reduceMul, Nat.reduceLT, Nat.reduceLeDiff, reduceCtorEq, decide_true, decide_false, Int.reduceLE, Int.reduceLT, Int.reduceToNat, Int.reduceAdd, Int.reduceSub, Int.reduceMul, Int.reduceEq, g0, g1, g2, g3, g4, g5]
    have l5 := nb_len_mul l1 l4
    have l6 := nb_len_mul l2 l3
    refine call_of (signed_ok (by omega) (by omega)) ?_
    have hle := signedR_le (decide (p.num < 0)) (p.num.natAbs * q.den) (decide (q.num < 0)) (q.num.natAbs * p.den)
    have hsum := sgn_signedR (decide (p.num < 0)) (p.num.natAbs * q.den) (decide (q.num < 0)) (q.num.natAbs * p.den)
    rw [sgn_mul, sgn_mul, sgn_num, sgn_num] at hsum
    simp only [↓R1, R2, R3, R4, TY, reduceIte, Nat.reduceEqDiff, Nat.reduceAdd, Nat.reduceMul, Nat.reduceLT, Nat.reduceLeDiff, reduceCtorEq, decide_true, decide_false, Int.reduceLE, Int.reduceLT, Int.reduceToNat, Int.reduceAdd, Int.reduceSub, Int.reduceMul, Int.reduceEq, g0, g1, g2, g3, g4, g5]
    refine call_of (mulN (by omega) (by omega)) ?_
    simp only [↓R1, R2, R3, R4, TY, reduceIte, Nat.reduceEqDiff, Nat.reduceAdd, Nat.reduceMul, Nat.reduceLT, Nat.reduceLeDiff, reduceCtorEq, decide_true, decide_false, Int.reduceLE, Int.reduceLT, Int.reduceToNat, Int.reduceAdd, Int.reduceSub, Int.reduceMul, Int.reduceEq, g0, g1, g2, g3, g4, g5]
    refine call_of (made_ok (Nat.mul_ne_zero hpd hqd) (by omega) (by omega)) ?_
    rw [hsum, ← Rat.add_def']
    have hv := hend (p + q)
    rw [ratV] at hv ⊢
    simp only [↓R1, R2, R3, R4, TY, reduceIte, Nat.reduceEqDiff, Nat.reduceAdd, Nat.reduceMul, Nat.reduceLT, Nat.reduceLeDiff, reduceCtorEq, decide_true, decide_false, Int.reduceLE, Int.reduceLT, Int.reduceToNat, Int.reduceAdd, Int.reduceSub, Int.reduceMul, Int.reduceEq, hBr, hfl2]
    exact hv _ rfl
end
end Go.Proofs.YtjkimjmocfjjnaaDoor.Ab

/- Rational numbers: products, quotients, signs, order. -/
namespace Go.Proofs.YtjkimjmocfjjnaaDoor.Ab
open Go.RowKit
set_option linter.unusedVariables false
set_option linter.unusedSimpArgs false
set_option maxRecDepth 100000

theorem sgn_nonneg {n : Nat} (b : Bool) (h : n = 0) : sgn b n = 0 := by subst h; unfold sgn; split <;> simp
/-- What Cmp says. -/
def rcmp (p q : Rat) : Int := if p < q then -1 else if q < p then 1 else 0
theorem rcmp_cross (p q : Rat) : rcmp p q = if p.num * q.den < q.num * p.den then -1 else if q.num * p.den < p.num * q.den then 1 else 0 := by
  unfold rcmp
  simp only [Rat.lt_iff]

section
variable {G : Gl} {fl : Nat} {A : Hp}

theorem rmul_ok {p q : Rat} {j k : Nat} (hp : Sz p j) (hq : Sz q k) (hb : j * k < 18446744073709551616) : Sound Tryd.prog G 27 [ratV p, ratV q] fl A (ratV (p * q)) A := by
  refine Sound.of mixed Tryd.func27 Tryd.ntmps27 Tryd.results27 (by kernel_rfl) rfl (by kernel_rfl) (by kernel_rfl) fun hA => ?_
  obtain ⟨p1, p2⟩ := id hp
  obtain ⟨q1, q2⟩ := id hq
  have hj := hp.pos
  have hk := hq.pos
  have hjk1 : j ≤ j * k := Nat.le_mul_of_pos_right _ hk
  have hjk2 : k ≤ j * k := Nat.le_mul_of_pos_left _ hj
  have n1 : p.num.natAbs * q.den ≤ j * k := Nat.mul_le_mul p1 q2
  have n2 : q.num.natAbs * p.den ≤ j * k := by rw [Nat.mul_comm j k]; exact Nat.mul_le_mul q1 p2
  have n3 : p.den * q.den ≤ j * k := Nat.mul_le_mul p2 q2
  have n4 : p.num.natAbs * q.num.natAbs ≤ j * k := Nat.mul_le_mul p1 q1
  have n5 : p.den * q.num.natAbs ≤ j * k := Nat.mul_le_mul p2 q1
  have fp := fun fl A => fit_ok (G := G) (fl := fl) (A := A) (q := p) (by omega) (by omega)
  have fq := fun fl A => fit_ok (G := G) (fl := fl) (A := A) (q := q) (by omega) (by omega)
  have hfl : fl ≤ A.next := hA.floor
  have hfl1 : fl ≤ A.next + 1 := by omega
  have hfl2 : fl ≤ A.next + 2 := by omega
  have hpd := rat_den_pos p
  have hqd := rat_den_pos q
  have l1 : (nb p.num.natAbs).length ≤ 8 := nb8.2 (by omega)
  have l2 : (nb q.num.natAbs).length ≤ 8 := nb8.2 (by omega)
  have l3 : (nb p.den).length ≤ 8 := nb8.2 (by omega)
  have l4 : (nb q.den).length ≤ 8 := nb8.2 (by omega)
  rw [ratV, ratV] at *
  simp only [↓R1, R2, R3, R4, TY, reduceIte, Nat.reduceEqDiff, Nat.reduceAdd, Nat.reduceMul, Nat.reduceLT, Nat.reduceLeDiff, reduceCtorEq, decide_true, decide_false, Int.reduceLE, Int.reduceLT, Int.reduceToNat, Int.reduceAdd, Int.reduceSub, Int.reduceMul, Int.reduceEq, hfl, hfl1, hfl2]
  refine call_of (fp _ _) ?_
  simp only [↓R1, R2, R3, R4, TY, reduceIte, Nat.reduceEqDiff, Nat.reduceAdd, Nat.reduceMul, Nat.reduceLT, Nat.reduceLeDiff, reduceCtorEq, decide_true, decide_false, Int.reduceLE, Int.reduceLT, Int.reduceToNat, Int.reduceAdd, Int.reduceSub, Int.reduceMul, Int.reduceEq, hfl, hfl1, hfl2]
  refine call_of (fq _ _) ?_
  simp only [↓R1, R2, R3, R4, TY, reduceIte, Nat.reduceEqDiff, Nat.reduceAdd, Nat.reduceMul, Nat.reduceLT, Nat.reduceLeDiff, reduceCtorEq, decide_true, decide_false, Int.reduceLE, Int.reduceLT, Int.reduceToNat, Int.reduceAdd, Int.reduceSub, Int.reduceMul, Int.reduceEq, hfl, hfl1, hfl2]
  rw [floOf_wr (by kernel_rfl)]
  simp only [↓R1, R2, R3, R4, TY, reduceIte, Nat.reduceEqDiff, Nat.reduceAdd, Nat.reduceMul, Nat.reduceLT, Nat.reduceLeDiff, reduceCtorEq, decide_true, decide_false, Int.reduceLE, Int.reduceLT, Int.reduceToNat, Int.reduceAdd, Int.reduceSub, Int.reduceMul, Int.reduceEq, hfl, hfl1, hfl2, NE]
  rw [floOf_wr (by kernel_rfl)]
  simp only [↓R1, R2, R3, R4, TY, reduceIte, Nat.reduceEqDiff, Nat.reduceAdd, Nat.reduceMul, Nat.reduceLT, Nat.reduceLeDiff, reduceCtorEq, decide_true, decide_false, Int.reduceLE, Int.reduceLT, Int.reduceToNat, Int.reduceAdd, Int.reduceSub, Int.reduceMul, Int.reduceEq, hfl, hfl1, hfl2, NE, S_nb]
  generalize hB : Hp.put _ _ _ = B
  have hBn : B.next = A.next + 3 := by rw [← hB]; rfl
  have hBx : Xt A.next A B := by rw [← hB]; exact (((((Xt.refl A).push _).push _).push _).put (Nat.le_refl _) _).put (by omega) _
  have hBr : B.blk (A.next + 2) = some (.row [.bool false, .string (S []), .string (S [])] 0 3) := by rw [← hB]; simp [Hp.put_blk, Hp.push_blk]
  have g0 : B.get G ⟨A.next, 0, some 0⟩ = some (.bool (decide (p.num < 0))) := by rw [← hB]; simp [Hp.get, Hp.put_blk, Hp.push_blk]
  have g1 : B.get G ⟨A.next, 1, some 0⟩ = some (.string (S (nb p.num.natAbs))) := by rw [← hB]; simp [Hp.get, Hp.put_blk, Hp.push_blk]
  have g2 : B.get G ⟨A.next, 2, some 0⟩ = some (.string (S (nb p.den))) := by rw [← hB]; simp [Hp.get, Hp.put_blk, Hp.push_blk]
  have g3 : B.get G ⟨A.next + 1, 0, some 0⟩ = some (.bool (decide (q.num < 0))) := by rw [← hB]; simp [Hp.get, Hp.put_blk, Hp.push_blk]
  have g4 : B.get G ⟨A.next + 1, 1, some 0⟩ = some (.string (S (nb q.num.natAbs))) := by rw [← hB]; simp [Hp.get, Hp.put_blk, Hp.push_blk]
  have g5 : B.get G ⟨A.next + 1, 2, some 0⟩ = some (.string (S (nb q.den))) := by rw [← hB]; simp [Hp.get, Hp.put_blk, Hp.push_blk]
  have hend : ∀ (r : Rat) (cs : List Value), r = p * q → Ended A (ratV r) (B.put (A.next + 2) (.row cs 0 3)) (ratV (p * q)) A := by
    rintro r cs rfl
    exact Ended.back hA (hBx.put (by omega) _) rfl (ratV_rb _ _)
  refine call_of (mulN (by omega) (by omega)) ?_
  simp only [↓R1, R2, R3, R4, TY, reduceIte, Nat.reduceEqDiff, Nat.reduceAdd, Nat.reduceMul, Nat.reduceLT, Nat.reduceLeDiff, reduceCtorEq, decide_true, decide_false, Int.reduceLE, Int.reduceLT, Int.reduceToNat, Int.reduceAdd, Int.reduceSub, Int.reduceMul, Int.reduceEq, g0, g1, g2, g3, g4, g5]
  refine call_of (mulN (by omega) (by omega)) ?_
  simp only [↓R1, R2, R3, R4, TY, reduceIte, Nat.reduceEqDiff, Nat.reduceAdd, Nat.reduceMul, Nat.reduceLT, Nat.reduceLeDiff, reduceCtorEq, decide_true, decide_false, Int.reduceLE, Int.reduceLT, Int.reduceToNat, Int.reduceAdd, Int.reduceSub, Int.reduceMul, Int.reduceEq, g0, g1, g2, g3, g4, g5]
  refine call_of (made_ok (Nat.mul_ne_zero hpd hqd) (by omega) (by omega)) ?_
  rw [sgn_mul2, sgn_num, sgn_num, ← Rat.mul_def']
  have hv := hend (p * q)
  rw [ratV] at hv ⊢
  simp only [↓R1, R2, R3, R4, TY, reduceIte, Nat.reduceEqDiff, Nat.reduceAdd, Nat.reduceMul, Nat.reduceLT, Nat.reduceLeDiff, reduceCtorEq, decide_true, decide_false, Int.reduceLE, Int.reduceLT, Int.reduceToNat, Int.reduceAdd, Int.reduceSub, Int.reduceMul, Int.reduceEq, hBr, hfl2]
  rw [floOf_wr (by kernel_rfl)]
  simp only [↓R1, R2, R3, R4, TY, reduceIte, Nat.reduceEqDiff, Nat.reduceAdd, Nat.reduceMul, Nat.reduceLT, Nat.reduceLeDiff, reduceCtorEq, decide_true, decide_false, Int.reduceLE, Int.reduceLT, Int.reduceToNat, Int.reduceAdd, Int.reduceSub, Int.reduceMul, Int.reduceEq, hBr, hfl2]
  exact hv _ rfl

def raw0 : Value := .agg #[.bool false, .string (S []), .string (S [])]
theorem div_val {p q : Rat} (hq : q.num ≠ 0) : mkRat (sgn (!(decide (p.num < 0) == decide (q.num < 0))) (p.num.natAbs * q.den)) (p.den * q.num.natAbs) = p / q := by
  have e : p / q = Rat.divInt (p.num * q.den) (p.den * q.num) := by
    rw [Rat.div_def, Rat.inv_def]
    conv => lhs; rw [← Rat.num_divInt_den p]
    rw [Rat.divInt_mul_divInt]
  have hs := sgn_num p.num
  rw [e, ← Rat.divInt_ofNat]
  rcases Int.lt_or_gt_of_ne hq with h | h
  · have h1 : decide (q.num < 0) = true := by simpa using h
    have h2 : ((p.den * q.num.natAbs : Nat) : Int) = -(p.den * q.num) := by rw [Int.natCast_mul, Int.ofNat_natAbs_of_nonpos (by omega), Int.mul_neg]
    have h3 : sgn (!(decide (p.num < 0) == true)) (p.num.natAbs * q.den) = -(p.num * q.den) := by
      rw [sgn_mul]
      conv => rhs; rw [← hs]
      cases decide (p.num < 0) <;> simp [sgn, Int.neg_mul]
    rw [h1, h2, h3, Rat.neg_divInt_neg]
  · have h1 : decide (q.num < 0) = false := decide_eq_false (by omega)
    have h2 : ((p.den * q.num.natAbs : Nat) : Int) = p.den * q.num := by rw [Int.natCast_mul, Int.natAbs_of_nonneg (by omega)]
    have h3 : sgn (!(decide (p.num < 0) == false)) (p.num.natAbs * q.den) = p.num * q.den := by
      rw [sgn_mul]
      conv => rhs; rw [← hs]
      cases decide (p.num < 0) <;> simp [sgn]
    rw [h1, h2, h3]

theorem rdiv_ok {p q : Rat} {j k : Nat} (hp : Sz p j) (hq : Sz q k) (hb : j * k < 18446744073709551616) (h0 : q.num ≠ 0) :
    Sound Tryd.prog G 62 [ratV p, ratV q] fl A (.tuple [ratV (p / q), Value.int .i64 0].toArray) A := by
  refine Sound.of mixed Tryd.func62 Tryd.ntmps62 Tryd.results62 (by kernel_rfl) rfl (by kernel_rfl) (by kernel_rfl) fun hA => ?_
  obtain ⟨p1, p2⟩ := id hp
  obtain ⟨q1, q2⟩ := id hq
  have hj := hp.pos
  have hk := hq.pos
  have hjk1 : j ≤ j * k := Nat.le_mul_of_pos_right _ hk
  have hjk2 : k ≤ j * k := Nat.le_mul_of_pos_left _ hj
  have n1 : p.num.natAbs * q.den ≤ j * k := Nat.mul_le_mul p1 q2
  have n2 : q.num.natAbs * p.den ≤ j * k := by rw [Nat.mul_comm j k]; exact Nat.mul_le_mul q1 p2
  have n3 : p.den * q.den ≤ j * k := Nat.mul_le_mul p2 q2
  have n4 : p.num.natAbs * q.num.natAbs ≤ j * k := Nat.mul_le_mul p1 q1
  have n5 : p.den * q.num.natAbs ≤ j * k := Nat.mul_le_mul p2 q1
  have fp := fun fl A => fit_ok (G := G) (fl := fl) (A := A) (q := p) (by omega) (by omega)
  have fq := fun fl A => fit_ok (G := G) (fl := fl) (A := A) (q := q) (by omega) (by omega)
  have hfl : fl ≤ A.next := hA.floor
  have hfl1 : fl ≤ A.next + 1 := by omega
  have hfl2 : fl ≤ A.next + 2 := by omega
  have hpd := rat_den_pos p
  have hqd := rat_den_pos q
  have l1 : (nb p.num.natAbs).length ≤ 8 := nb8.2 (by omega)
  have l2 : (nb q.num.natAbs).length ≤ 8 := nb8.2 (by omega)
  have l3 : (nb p.den).length ≤ 8 := nb8.2 (by omega)
  have l4 : (nb q.den).length ≤ 8 := nb8.2 (by omega)
  have hdv := div_val (p := p) h0
  have hq0 : (q.num.natAbs = 0) = False := eq_false (by omega)
  have hqa : q.num.natAbs ≠ 0 := by omega
  rw [ratV, ratV] at *
  simp only [↓R1, R2, R3, R4, TY, reduceIte, Nat.reduceEqDiff, Nat.reduceAdd, Nat.reduceMul, Nat.reduceLT, Nat.reduceLeDiff, reduceCtorEq, decide_true, decide_false, Int.reduceLE, Int.reduceLT, Int.reduceToNat, Int.reduceAdd, Int.reduceSub, Int.reduceMul, Int.reduceEq, hfl, hfl1, hfl2]
  refine call_of (fp _ _) ?_
  simp only [↓R1, R2, R3, R4, TY, reduceIte, Nat.reduceEqDiff, Nat.reduceAdd, Nat.reduceMul, Nat.reduceLT, Nat.reduceLeDiff, reduceCtorEq, decide_true, decide_false, Int.reduceLE, Int.reduceLT, Int.reduceToNat, Int.reduceAdd, Int.reduceSub, Int.reduceMul, Int.reduceEq, hfl, hfl1, hfl2]
  refine call_of (fq _ _) ?_
  simp only [↓R1, R2, R3, R4, TY, reduceIte, Nat.reduceEqDiff, Nat.reduceAdd, Nat.reduceMul, Nat.reduceLT, Nat.reduceLeDiff, reduceCtorEq, decide_true, decide_false, Int.reduceLE, Int.reduceLT, Int.reduceToNat, Int.reduceAdd, Int.reduceSub, Int.reduceMul, Int.reduceEq, hfl, hfl1, hfl2]
  rw [floOf_wr (by kernel_rfl)]
  simp only [↓R1, R2, R3, R4, TY, reduceIte, Nat.reduceEqDiff, Nat.reduceAdd, Nat.reduceMul, Nat.reduceLT, Nat.reduceLeDiff, reduceCtorEq, decide_true, decide_false, Int.reduceLE, Int.reduceLT, Int.reduceToNat, Int.reduceAdd, Int.reduceSub, Int.reduceMul, Int.reduceEq, hfl, hfl1, hfl2, NE]
  rw [floOf_wr (by kernel_rfl)]
  simp only [↓R1, R2, R3, R4, TY, reduceIte, Nat.reduceEqDiff, Nat.reduceAdd, Nat.reduceMul, Nat.reduceLT, Nat.reduceLeDiff, reduceCtorEq, decide_true, decide_false, Int.reduceLE, Int.reduceLT, Int.reduceToNat, Int.reduceAdd, Int.reduceSub, Int.reduceMul, Int.reduceEq, hfl, hfl1, hfl2, NE, S_nb, S_inj, nb_nil_eq, hq0]
  generalize hB : Hp.put _ _ _ = B
  have hBn : B.next = A.next + 3 := by rw [← hB]; rfl
  have hBx : Xt A.next A B := by rw [← hB]; exact (((((Xt.refl A).push _).push _).push _).put (Nat.le_refl _) _).put (by omega) _
  have hBr : B.blk (A.next + 2) = some (.row [.bool false, .string (S []), .string (S [])] 0 3) := by rw [← hB]; simp [Hp.put_blk, Hp.push_blk]
  have g0 : B.get G ⟨A.next, 0, some 0⟩ = some (.bool (decide (p.num < 0))) := by rw [← hB]; simp [Hp.get, Hp.put_blk, Hp.push_blk]
  have g1 : B.get G ⟨A.next, 1, some 0⟩ = some (.string (S (nb p.num.natAbs))) := by rw [← hB]; simp [Hp.get, Hp.put_blk, Hp.push_blk]
  have g2 : B.get G ⟨A.next, 2, some 0⟩ = some (.string (S (nb p.den))) := by rw [← hB]; simp [Hp.get, Hp.put_blk, Hp.push_blk]
  have g3 : B.get G ⟨A.next + 1, 0, some 0⟩ = some (.bool (decide (q.num < 0))) := by rw [← hB]; simp [Hp.get, Hp.put_blk, Hp.push_blk]
  have g4 : B.get G ⟨A.next + 1, 1, some 0⟩ = some (.string (S (nb q.num.natAbs))) := by rw [← hB]; simp [Hp.get, Hp.put_blk, Hp.push_blk]
  have g5 : B.get G ⟨A.next + 1, 2, some 0⟩ = some (.string (S (nb q.den))) := by rw [← hB]; simp [Hp.get, Hp.put_blk, Hp.push_blk]
  have hend : ∀ (r : Rat) (cs : List Value), r = p / q → Ended A (.tuple [ratV r, Value.int .i64 0].toArray) (B.put (A.next + 2) (.row cs 0 3)) (.tuple [ratV (p / q), Value.int .i64 0].toArray) A := by
    rintro r cs rfl
    refine Ended.back hA (hBx.put (by omega) _) rfl (RB.tuple fun w hw => ?_)
    simp only [List.mem_cons, List.not_mem_nil, or_false] at hw
    rcases hw with rfl | rfl
    · exact ratV_rb _ _
    · exact RB.int _ _
  refine call_of (mulN (by omega) (by omega)) ?_
  simp only [↓R1, R2, R3, R4, TY, reduceIte, Nat.reduceEqDiff, Nat.reduceAdd, Nat.reduceMul, Nat.reduceLT, Nat.reduceLeDiff, reduceCtorEq, decide_true, decide_false, Int.reduceLE, Int.reduceLT, Int.reduceToNat, Int.reduceAdd, Int.reduceSub, Int.reduceMul, Int.reduceEq, g0, g1, g2, g3, g4, g5]
  refine call_of (mulN (by omega) (by omega)) ?_
  simp only [↓R1, R2, R3, R4, TY, reduceIte, Nat.reduceEqDiff, Nat.reduceAdd, Nat.reduceMul, Nat.reduceLT, Nat.reduceLeDiff, reduceCtorEq, decide_true, decide_false, Int.reduceLE, Int.reduceLT, Int.reduceToNat, Int.reduceAdd, Int.reduceSub, Int.reduceMul, Int.reduceEq, g0, g1, g2, g3, g4, g5]
  refine call_of (made_ok (Nat.mul_ne_zero hpd hqa) (by omega) (by omega)) ?_
  rw [hdv]
  have hv := hend (p / q)
  rw [ratV] at hv ⊢
  simp only [↓R1, R2, R3, R4, TY, reduceIte, Nat.reduceEqDiff, Nat.reduceAdd, Nat.reduceMul, Nat.reduceLT, Nat.reduceLeDiff, reduceCtorEq, decide_true, decide_false, Int.reduceLE, Int.reduceLT, Int.reduceToNat, Int.reduceAdd, Int.reduceSub, Int.reduceMul, Int.reduceEq, hBr, hfl2]
  rw [floOf_wr (by kernel_rfl)]
  simp only [↓R1, R2, R3, R4, TY, reduceIte, Nat.reduceEqDiff, Nat.reduceAdd, Nat.reduceMul, Nat.reduceLT, Nat.reduceLeDiff, reduceCtorEq, decide_true, decide_false, Int.reduceLE, Int.reduceLT, Int.reduceToNat, Int.reduceAdd, Int.reduceSub, Int.reduceMul, Int.reduceEq, hBr, hfl2]
  exact hv _ rfl

theorem rdiv_zero {p q : Rat} {j k : Nat} (hp : Sz p j) (hq : Sz q k) (hb : j * k < 18446744073709551616) (h0 : q.num = 0) :
    Sound Tryd.prog G 62 [ratV p, ratV q] fl A (.tuple [raw0, Value.int .i64 12].toArray) A := by
  refine Sound.of mixed Tryd.func62 Tryd.ntmps62 Tryd.results62 (by kernel_rfl) rfl (by kernel_rfl) (by kernel_rfl) fun hA => ?_
  obtain ⟨p1, p2⟩ := id hp
  obtain ⟨q1, q2⟩ := id hq
  have hj := hp.pos
  have hk := hq.pos
  have hjk1 : j ≤ j * k := Nat.le_mul_of_pos_right _ hk
  have hjk2 : k ≤ j * k := Nat.le_mul_of_pos_left _ hj
  have n1 : p.num.natAbs * q.den ≤ j * k := Nat.mul_le_mul p1 q2
  have n2 : q.num.natAbs * p.den ≤ j * k := by rw [Nat.mul_comm j k]; exact Nat.mul_le_mul q1 p2
  have n3 : p.den * q.den ≤ j * k := Nat.mul_le_mul p2 q2
  have n4 : p.num.natAbs * q.num.natAbs ≤ j * k := Nat.mul_le_mul p1 q1
  have n5 : p.den * q.num.natAbs ≤ j * k := Nat.mul_le_mul p2 q1
  have fp := fun fl A => fit_ok (G := G) (fl := fl) (A := A) (q := p) (by omega) (by omega)
  have fq := fun fl A => fit_ok (G := G) (fl := fl) (A := A) (q := q) (by omega) (by omega)
  have hfl : fl ≤ A.next := hA.floor
  have hfl1 : fl ≤ A.next + 1 := by omega
  have hfl2 : fl ≤ A.next + 2 := by omega
  have hpd := rat_den_pos p
  have hqd := rat_den_pos q
  have l1 : (nb p.num.natAbs).length ≤ 8 := nb8.2 (by omega)
  have l2 : (nb q.num.natAbs).length ≤ 8 := nb8.2 (by omega)
  have l3 : (nb p.den).length ≤ 8 := nb8.2 (by omega)
  have l4 : (nb q.den).length ≤ 8 := nb8.2 (by omega)
  have hq0 : (q.num.natAbs = 0) = True := eq_true (by omega)
  rw [ratV, ratV] at *
  simp only [↓R1, R2, R3, R4, TY, reduceIte, Nat.reduceEqDiff, Nat.reduceAdd, Nat.reduceMul, Nat.reduceLT, Nat.reduceLeDiff, reduceCtorEq, decide_true, decide_false, Int.reduceLE, Int.reduceLT, Int.reduceToNat, Int.reduceAdd, Int.reduceSub, Int.reduceMul, Int.reduceEq, hfl, hfl1, hfl2]
  refine call_of (fp _ _) ?_
  simp only [↓R1, R2, R3, R4, TY, reduceIte, Nat.reduceEqDiff, Nat.reduceAdd, Nat.reduceMul, Nat.reduceLT, Nat.reduceLeDiff, reduceCtorEq, decide_true, decide_false, Int.reduceLE, Int.reduceLT, Int.reduceToNat, Int.reduceAdd, Int.reduceSub, Int.reduceMul, Int.reduceEq, hfl, hfl1, hfl2]
  refine call_of (fq _ _) ?_
  simp only [↓R1, R2, R3, R4, TY, reduceIte, Nat.reduceEqDiff, Nat.reduceAdd, Nat.reduceMul, Nat.reduceLT, Nat.reduceLeDiff, reduceCtorEq, decide_true, decide_false, Int.reduceLE, Int.reduceLT, Int.reduceToNat, Int.reduceAdd, Int.reduceSub, Int.reduceMul, Int.reduceEq, hfl, hfl1, hfl2]
  rw [floOf_wr (by kernel_rfl)]
  simp only [↓R1, R2, R3, R4, TY, reduceIte, Nat.reduceEqDiff, Nat.reduceAdd, Nat.reduceMul, Nat.reduceLT, Nat.reduceLeDiff, reduceCtorEq, decide_true, decide_false, Int.reduceLE, Int.reduceLT, Int.reduceToNat, Int.reduceAdd, Int.reduceSub, Int.reduceMul, Int.reduceEq, hfl, hfl1, hfl2, NE]
  rw [floOf_wr (by kernel_rfl)]
  simp only [↓R1, R2, R3, R4, TY, reduceIte, Nat.reduceEqDiff, Nat.reduceAdd, Nat.reduceMul, Nat.reduceLT, Nat.reduceLeDiff, reduceCtorEq, decide_true, decide_false, Int.reduceLE, Int.reduceLT, Int.reduceToNat, Int.reduceAdd, Int.reduceSub, Int.reduceMul, Int.reduceEq, hfl, hfl1, hfl2, NE, S_nb, S_inj, nb_nil_eq, hq0]
  refine Ended.back hA (((((((Xt.refl A).push _).push _).push _).put (Nat.le_refl _) _).put (by omega) _).put (by omega) _) rfl (RB.tuple fun w hw => ?_)
  simp only [List.mem_cons, List.not_mem_nil, or_false] at hw
  rcases hw with rfl | rfl
  · refine ⟨raw0, .agg rfl fun i h h' => ?_⟩
    have : i < 3 := h
    match i, this with
    | 0, _ => exact .bool _
    | 1, _ => exact .string _
    | 2, _ => exact .string _
  · exact RB.int _ _
end
end Go.Proofs.YtjkimjmocfjjnaaDoor.Ab

/- Rational numbers: negatives, signs, differences, order. -/
namespace Go.Proofs.YtjkimjmocfjjnaaDoor.Ab
open Go.RowKit
set_option linter.unusedVariables false
set_option linter.unusedSimpArgs false
set_option maxRecDepth 100000

theorem tf_ne : (true == false) = false := rfl
theorem ft_ne : (false == true) = false := rfl
theorem ratV_neg (q : Rat) : ratV (-q) = .agg #[.bool (decide (-q.num < 0)), .string (S (nb q.num.natAbs)), .string (S (nb q.den))] := by simp [ratV]
def rabs (q : Rat) : Rat := if q.num < 0 then -q else q
theorem ratV_abs (q : Rat) : ratV (rabs q) = .agg #[.bool false, .string (S (nb q.num.natAbs)), .string (S (nb q.den))] := by
  unfold rabs
  split
  · rw [ratV_neg, decide_eq_false (by omega)]
  · rw [ratV, decide_eq_false (by omega)]
def rsign (q : Rat) : Int := if q.num = 0 then 0 else if q.num < 0 then -1 else 1
theorem rcmp_neg {p q : Rat} (h : p.num < 0) (h2 : ¬ q.num < 0) : rcmp p q = -1 := by
  rw [rcmp_cross, if_pos]
  have a := Int.mul_neg_of_neg_of_pos h (Int.natCast_pos.2 (Nat.pos_of_ne_zero (rat_den_pos q)))
  have b := Int.mul_nonneg (show 0 ≤ q.num by omega) (Int.natCast_nonneg p.den)
  omega
theorem rcmp_pos {p q : Rat} (h : ¬ p.num < 0) (h2 : q.num < 0) : rcmp p q = 1 := by
  have a := Int.mul_neg_of_neg_of_pos h2 (Int.natCast_pos.2 (Nat.pos_of_ne_zero (rat_den_pos p)))
  have b := Int.mul_nonneg (show 0 ≤ p.num by omega) (Int.natCast_nonneg q.den)
  rw [rcmp_cross, if_neg (by omega), if_pos (by omega)]
theorem cmpN_int (m n : Nat) : cmpN m n = if (m : Int) < n then -1 else if (n : Int) < m then 1 else 0 := by
  unfold cmpN
  congr 1
  · exact propext (by omega)
  · congr 1; exact propext (by omega)
theorem rcmp_same {p q : Rat} (h : ¬ p.num < 0) (h2 : ¬ q.num < 0) : rcmp p q = cmpN (p.num.natAbs * q.den) (q.num.natAbs * p.den) := by
  rw [rcmp_cross, cmpN_int, Int.natCast_mul, Int.natCast_mul, Int.natAbs_of_nonneg (by omega), Int.natAbs_of_nonneg (by omega)]
theorem rcmp_same' {p q : Rat} (h : p.num < 0) (h2 : q.num < 0) : rcmp p q = -cmpN (p.num.natAbs * q.den) (q.num.natAbs * p.den) := by
  rw [rcmp_cross, cmpN_int, Int.natCast_mul, Int.natCast_mul, Int.ofNat_natAbs_of_nonpos (by omega), Int.ofNat_natAbs_of_nonpos (by omega), Int.neg_mul, Int.neg_mul]
  split <;> rename_i a
  · rw [if_neg (by omega), if_pos (by omega)]
  · split <;> rename_i b
    · rw [if_pos (by omega)]; rfl
    · rw [if_neg (by omega), if_neg (by omega)]; rfl
theorem cmpN_bound (m n : Nat) : -1 ≤ cmpN m n ∧ cmpN m n ≤ 1 := by
  unfold cmpN
  split
  · omega
  · split <;> omega

section
variable {G : Gl} {fl : Nat} {A : Hp}

theorem rneg_ok {q : Rat} {k : Nat} (hq : Sz q k) (hb : k < 18446744073709551616) : Sound Tryd.prog G 59 [ratV q] fl A (ratV (-q)) A := by
  refine Sound.of mixed Tryd.func59 Tryd.ntmps59 Tryd.results59 (by kernel_rfl) rfl (by kernel_rfl) (by kernel_rfl) fun hA => ?_
  obtain ⟨q1, q2⟩ := id hq
  have fq := fun fl A => fit_ok (G := G) (fl := fl) (A := A) (q := q) (by omega) (by omega)
  have hfl : fl ≤ A.next := hA.floor
  have hfl1 : fl ≤ A.next + 1 := by omega
  have hfl2 : fl ≤ A.next + 2 := by omega
  have hqd := rat_den_pos q
  rw [ratV_neg]
  rw [ratV] at *
  simp only [↓R1, R2, R3, R4, TY, reduceIte, Nat.reduceEqDiff, Nat.reduceAdd, Nat.reduceMul, Nat.reduceLT, Nat.reduceLeDiff, reduceCtorEq, decide_true, decide_false, Int.reduceLE, Int.reduceLT, Int.reduceToNat, Int.reduceAdd, Int.reduceSub, Int.reduceMul, Int.reduceEq, hfl, hfl1]
  refine call_of (fq _ _) ?_
  by_cases hn : q.num < 0
  · have hn' : (q.num < 0) = True := eq_true hn
    have e : decide (-q.num < 0) = false := decide_eq_false (by omega)
    rw [e]
    simp only [↓R1, R2, R3, R4, TY, reduceIte, Nat.reduceEqDiff, Nat.reduceAdd, Nat.reduceMul, Nat.reduceLT, Nat.reduceLeDiff, reduceCtorEq, decide_true, decide_false, Int.reduceLE, Int.reduceLT, Int.reduceToNat, Int.reduceAdd, Int.reduceSub, Int.reduceMul, Int.reduceEq, hfl, hfl1, NE, S_inj, nb_nil_eq, hn']
    exact Ended.back hA (by simp (maxDischargeDepth := 20) only [xt_push, xt_put, xt_refl, Nat.le_refl, Nat.le_add_right]) rfl (by rw [← ratV_abs]; exact ratV_rb _ _)
  · have hn' : (q.num < 0) = False := eq_false hn
    have e : decide (-q.num < 0) = !decide (q.num.natAbs = 0) := by
      by_cases h : q.num.natAbs = 0
      · rw [decide_eq_true h, decide_eq_false (by omega)]; rfl
      · rw [decide_eq_false h, decide_eq_true (by omega)]; rfl
    have hrb := ratV_rb A.next (-q)
    rw [ratV_neg] at hrb
    rw [e] at hrb ⊢
    simp only [↓R1, R2, R3, R4, TY, reduceIte, Nat.reduceEqDiff, Nat.reduceAdd, Nat.reduceMul, Nat.reduceLT, Nat.reduceLeDiff, reduceCtorEq, decide_true, decide_false, Int.reduceLE, Int.reduceLT, Int.reduceToNat, Int.reduceAdd, Int.reduceSub, Int.reduceMul, Int.reduceEq, hfl, hfl1, NE, S_inj, nb_nil_eq, hn']
    exact Ended.back hA (by simp (maxDischargeDepth := 20) only [xt_push, xt_put, xt_refl, Nat.le_refl, Nat.le_add_right]) rfl hrb

theorem rsign_ok {q : Rat} {k : Nat} (hq : Sz q k) (hb : k < 18446744073709551616) : Sound Tryd.prog G 53 [ratV q] fl A (.int .i64 (rsign q)) A := by
  refine Sound.of mixed Tryd.func53 Tryd.ntmps53 Tryd.results53 (by kernel_rfl) rfl (by kernel_rfl) (by kernel_rfl) fun hA => ?_
  obtain ⟨q1, q2⟩ := id hq
  have fq := fun fl A => fit_ok (G := G) (fl := fl) (A := A) (q := q) (by omega) (by omega)
  have hfl : fl ≤ A.next := hA.floor
  have hfl1 : fl ≤ A.next + 1 := by omega
  have hfl2 : fl ≤ A.next + 2 := by omega
  have hqd := rat_den_pos q
  rw [ratV] at *
  simp only [↓R1, R2, R3, R4, TY, reduceIte, Nat.reduceEqDiff, Nat.reduceAdd, Nat.reduceMul, Nat.reduceLT, Nat.reduceLeDiff, reduceCtorEq, decide_true, decide_false, Int.reduceLE, Int.reduceLT, Int.reduceToNat, Int.reduceAdd, Int.reduceSub, Int.reduceMul, Int.reduceEq, hfl, hfl1]
  refine call_of (fq _ _) ?_
  simp only [↓R1, R2, R3, R4, TY, reduceIte, Nat.reduceEqDiff, Nat.reduceAdd, Nat.reduceMul, Nat.reduceLT, Nat.reduceLeDiff, reduceCtorEq, decide_true, decide_false, Int.reduceLE, Int.reduceLT, Int.reduceToNat, Int.reduceAdd, Int.reduceSub, Int.reduceMul, Int.reduceEq, hfl, hfl1, NE, S_inj, nb_nil_eq]
  refine ⟨fun h => ?_, fun h => ⟨fun h2 => ?_, fun h2 => ?_⟩⟩
  · exact Ended.back hA (by simp (maxDischargeDepth := 20) only [xt_push, xt_put, xt_refl, Nat.le_refl, Nat.le_add_right]) (by rw [rsign, if_pos (by omega)]) (RB.int _ _)
  · exact Ended.back hA (by simp (maxDischargeDepth := 20) only [xt_push, xt_put, xt_refl, Nat.le_refl, Nat.le_add_right]) (by rw [rsign, if_neg (by omega), if_pos h2]) (RB.int _ _)
  · exact Ended.back hA (by simp (maxDischargeDepth := 20) only [xt_push, xt_put, xt_refl, Nat.le_refl, Nat.le_add_right]) (by rw [rsign, if_neg (by omega), if_neg h2]) (RB.int _ _)

theorem rsub_ok {p q : Rat} {j k : Nat} (hp : Sz p j) (hq : Sz q k) (hb : 2 * (j * k) < 18446744073709551616) : Sound Tryd.prog G 24 [ratV p, ratV q] fl A (ratV (p - q)) A := by
  refine Sound.of mixed Tryd.func24 Tryd.ntmps24 Tryd.results24 (by kernel_rfl) rfl (by kernel_rfl) (by kernel_rfl) fun hA => ?_
  have hjk2 : k ≤ j * k := Nat.le_mul_of_pos_left _ hp.pos
  have hng := fun fl A => rneg_ok (G := G) (fl := fl) (A := A) hq (by omega)
  have had := fun fl A => radd_ok (G := G) (fl := fl) (A := A) hp hq.neg hb
  have hfl2 : fl ≤ A.next + 2 := by have := hA.floor; omega
  rw [← Rat.sub_eq_add_neg] at had
  have hrb := ratV_rb A.next (p - q)
  rw [ratV, ratV] at hng
  rw [ratV, ratV, ratV] at had
  rw [ratV, ratV, ratV]
  rw [ratV] at hrb
  simp only [↓R1, R2, R3, R4, TY, reduceIte, Nat.reduceEqDiff, Nat.reduceAdd, Nat.reduceMul, Nat.reduceLT, Nat.reduceLeDiff, reduceCtorEq, decide_true, decide_false, Int.reduceLE, Int.reduceLT, Int.reduceToNat, Int.reduceAdd, Int.reduceSub, Int.reduceMul, Int.reduceEq]
  refine call_of (hng _ _) ?_
  simp only [↓R1, R2, R3, R4, TY, reduceIte, Nat.reduceEqDiff, Nat.reduceAdd, Nat.reduceMul, Nat.reduceLT, Nat.reduceLeDiff, reduceCtorEq, decide_true, decide_false, Int.reduceLE, Int.reduceLT, Int.reduceToNat, Int.reduceAdd, Int.reduceSub, Int.reduceMul, Int.reduceEq]
  refine call_of (had _ _) ?_
  simp only [↓R1, R2, R3, R4, TY, reduceIte, Nat.reduceEqDiff, Nat.reduceAdd, Nat.reduceMul, Nat.reduceLT, Nat.reduceLeDiff, reduceCtorEq, decide_true, decide_false, Int.reduceLE, Int.reduceLT, Int.reduceToNat, Int.reduceAdd, Int.reduceSub, Int.reduceMul, Int.reduceEq, hfl2, NE]
  rw [floOf_wr (by kernel_rfl)]
  simp only [↓R1, R2, R3, R4, TY, reduceIte, Nat.reduceEqDiff, Nat.reduceAdd, Nat.reduceMul, Nat.reduceLT, Nat.reduceLeDiff, reduceCtorEq, decide_true, decide_false, Int.reduceLE, Int.reduceLT, Int.reduceToNat, Int.reduceAdd, Int.reduceSub, Int.reduceMul, Int.reduceEq, hfl2, NE]
  exact Ended.back hA ((((((Xt.refl A).push _).push _).push _).put (by omega) _)) rfl hrb

theorem rcmp_ok {p q : Rat} {j k : Nat} (hp : Sz p j) (hq : Sz q k) (hb : j * k < 18446744073709551616) : Sound Tryd.prog G 26 [ratV p, ratV q] fl A (.int .i64 (rcmp p q)) A := by
  refine Sound.of mixed Tryd.func26 Tryd.ntmps26 Tryd.results26 (by kernel_rfl) rfl (by kernel_rfl) (by kernel_rfl) fun hA => ?_
  obtain ⟨p1, p2⟩ := id hp
  obtain ⟨q1, q2⟩ := id hq
  have hj := hp.pos
  have hk := hq.pos
  have hjk1 : j ≤ j * k := Nat.le_mul_of_pos_right _ hk
  have hjk2 : k ≤ j * k := Nat.le_mul_of_pos_left _ hj
  have n1 : p.num.natAbs * q.den ≤ j * k := Nat.mul_le_mul p1 q2
  have n2 : q.num.natAbs * p.den ≤ j * k := by rw [Nat.mul_comm j k]; exact Nat.mul_le_mul q1 p2
  have n3 : p.den * q.den ≤ j * k := Nat.mul_le_mul p2 q2
  have n4 : p.num.natAbs * q.num.natAbs ≤ j * k := Nat.mul_le_mul p1 q1
  have n5 : p.den * q.num.natAbs ≤ j * k := Nat.mul_le_mul p2 q1
  have fp := fun fl A => fit_ok (G := G) (fl := fl) (A := A) (q := p) (by omega) (by omega)
  have fq := fun fl A => fit_ok (G := G) (fl := fl) (A := A) (q := q) (by omega) (by omega)
  have hfl : fl ≤ A.next := hA.floor
  have hfl1 : fl ≤ A.next + 1 := by omega
  have hfl2 : fl ≤ A.next + 2 := by omega
  have hpd := rat_den_pos p
  have hqd := rat_den_pos q
  have l1 : (nb p.num.natAbs).length ≤ 8 := nb8.2 (by omega)
  have l2 : (nb q.num.natAbs).length ≤ 8 := nb8.2 (by omega)
  have l3 : (nb p.den).length ≤ 8 := nb8.2 (by omega)
  have l4 : (nb q.den).length ≤ 8 := nb8.2 (by omega)
  have hneg : ∀ (x : Int) (B : Hp), Xt A.next A B → x = rcmp p q → Ended A (.int .i64 x) B (.int .i64 (rcmp p q)) A := by
    rintro x B hx rfl
    exact Ended.back hA hx rfl (RB.int _ _)
  have fin : ∀ b1 b2 b3 b4, Xt A.next A ((((A.push b1).push b2).put A.next b3).put (A.next + 1) b4) := fun b1 b2 b3 b4 => ((((Xt.refl A).push _).push _).put (Nat.le_refl _) _).put (by omega) _
  by_cases hpn : p.num < 0 <;> by_cases hqn : q.num < 0
  · have hp' : (p.num < 0) = True := eq_true hpn
    have hq' : (q.num < 0) = True := eq_true hqn
    rw [ratV, ratV] at *
    simp only [↓R1, R2, R3, R4, TY, reduceIte, Nat.reduceEqDiff, Nat.reduceAdd, Nat.reduceMul, Nat.reduceLT, Nat.reduceLeDiff, reduceCtorEq, decide_true, decide_false, Int.reduceLE, Int.reduceLT, Int.reduceToNat, Int.reduceAdd, Int.reduceSub, Int.reduceMul, Int.reduceEq, hfl, hfl1, hfl2]
    refine call_of (fp _ _) ?_
    simp only [↓R1, R2, R3, R4, TY, reduceIte, Nat.reduceEqDiff, Nat.reduceAdd, Nat.reduceMul, Nat.reduceLT, Nat.reduceLeDiff, reduceCtorEq, decide_true, decide_false, Int.reduceLE, Int.reduceLT, Int.reduceToNat, Int.reduceAdd, Int.reduceSub, Int.reduceMul, Int.reduceEq, hfl, hfl1, hfl2]
    refine call_of (fq _ _) ?_
    simp only [↓R1, R2, R3, R4, TY, reduceIte, Nat.reduceEqDiff, Nat.reduceAdd, Nat.reduceMul, Nat.reduceLT, Nat.reduceLeDiff, reduceCtorEq, decide_true, decide_false, Int.reduceLE, Int.reduceLT, Int.reduceToNat, Int.reduceAdd, Int.reduceSub, Int.reduceMul, Int.reduceEq, hfl, hfl1, hfl2]
    rw [floOf_wr (by kernel_rfl)]
    simp only [↓R1, R2, R3, R4, TY, reduceIte, Nat.reduceEqDiff, Nat.reduceAdd, Nat.reduceMul, Nat.reduceLT, Nat.reduceLeDiff, reduceCtorEq, decide_true, decide_false, Int.reduceLE, Int.reduceLT, Int.reduceToNat, Int.reduceAdd, Int.reduceSub, Int.reduceMul, Int.reduceEq, hfl, hfl1, hfl2, NE]
    rw [floOf_wr (by kernel_rfl)]
    simp only [↓R1, R2, R3, R4, TY, reduceIte, Nat.reduceEqDiff, Nat.reduceAdd, Nat.reduceMul, Nat.reduceLT, Nat.reduceLeDiff, reduceCtorEq, decide_true, decide_false, Int.reduceLE, Int.reduceLT, Int.reduceToNat, Int.reduceAdd, Int.reduceSub, Int.reduceMul, Int.reduceEq, hfl, hfl1, hfl2, NE, S_nb, hp', hq', beq_self_eq_true, tf_ne, ft_ne]
    refine call_of (mulN (by omega) (by omega)) ?_
    simp only [↓R1, R2, R3, R4, TY, reduceIte, Nat.reduceEqDiff, Nat.reduceAdd, Nat.reduceMul, Nat.reduceLT, Nat.reduceLeDiff, reduceCtorEq, decide_true, decide_false, Int.reduceLE, Int.reduceLT, Int.reduceToNat, Int.reduceAdd, Int.reduceSub, Int.reduceMul, Int.reduceEq, hp', hq']
    refine call_of (mulN (by omega) (by omega)) ?_
    simp only [↓R1, R2, R3, R4, TY, reduceIte, Nat.reduceEqDiff, Nat.reduceAdd, Nat.reduceMul, Nat.reduceLT, Nat.reduceLeDiff, reduceCtorEq, decide_true, decide_false, Int.reduceLE, Int.reduceLT, Int.reduceToNat, Int.reduceAdd, Int.reduceSub, Int.reduceMul, Int.reduceEq, hp', hq']
    refine call_of (cmpN_ok _ _) ?_
    have hcb := cmpN_bound (p.num.natAbs * q.den) (q.num.natAbs * p.den)
    have hw : IntKind.i64.wrap (0 - cmpN (p.num.natAbs * q.den) (q.num.natAbs * p.den)) = -cmpN (p.num.natAbs * q.den) (q.num.natAbs * p.den) := by rw [wrapI (by omega)]; omega
    simp only [↓R1, R2, R3, R4, TY, reduceIte, Nat.reduceEqDiff, Nat.reduceAdd, Nat.reduceMul, Nat.reduceLT, Nat.reduceLeDiff, reduceCtorEq, decide_true, decide_false, Int.reduceLE, Int.reduceLT, Int.reduceToNat, Int.reduceAdd, Int.reduceSub, Int.reduceMul, Int.reduceEq, hp', hq', hw]
    exact hneg _ _ (fin _ _ _ _) (rcmp_same' hpn hqn).symm
  · have hp' : (p.num < 0) = True := eq_true hpn
    have hq' : (q.num < 0) = False := eq_false hqn
    rw [ratV, ratV] at *
    simp only [↓R1, R2, R3, R4, TY, reduceIte, Nat.reduceEqDiff, Nat.reduceAdd, Nat.reduceMul, Nat.reduceLT, Nat.reduceLeDiff, reduceCtorEq, decide_true, decide_false, Int.reduceLE, Int.reduceLT, Int.reduceToNat, Int.reduceAdd, Int.reduceSub, Int.reduceMul, Int.reduceEq, hfl, hfl1, hfl2]
    refine call_of (fp _ _) ?_
    simp only [↓R1, R2, R3, R4, TY, reduceIte, Nat.reduceEqDiff, Nat.reduceAdd, Nat.reduceMul, Nat.reduceLT, Nat.reduceLeDiff, reduceCtorEq, decide_true, decide_false, Int.reduceLE, Int.reduceLT, Int.reduceToNat, Int.reduceAdd, Int.reduceSub, Int.reduceMul, Int.reduceEq, hfl, hfl1, hfl2]
    refine call_of (fq _ _) ?_
    simp only [↓R1, R2, R3, R4, TY, reduceIte, Nat.reduceEqDiff, Nat.reduceAdd, Nat.reduceMul, Nat.reduceLT, Nat.reduceLeDiff, reduceCtorEq, decide_true, decide_false, Int.reduceLE, Int.reduceLT, Int.reduceToNat, Int.reduceAdd, Int.reduceSub, Int.reduceMul, Int.reduceEq, hfl, hfl1, hfl2]
    rw [floOf_wr (by kernel_rfl)]
    simp only [↓R1, R2, R3, R4, TY, reduceIte, Nat.reduceEqDiff, Nat.reduceAdd, Nat.reduceMul, Nat.reduceLT, Nat.reduceLeDiff, reduceCtorEq, decide_true, decide_false, Int.reduceLE, Int.reduceLT, Int.reduceToNat, Int.reduceAdd, Int.reduceSub, Int.reduceMul, Int.reduceEq, hfl, hfl1, hfl2, NE]
    rw [floOf_wr (by kernel_rfl)]
    simp only [↓R1, R2, R3, R4, TY, reduceIte, Nat.reduceEqDiff, Nat.reduceAdd, Nat.reduceMul, Nat.reduceLT, Nat.reduceLeDiff, reduceCtorEq, decide_true, decide_false, Int.reduceLE, Int.reduceLT, Int.reduceToNat, Int.reduceAdd, Int.reduceSub, Int.reduceMul, Int.reduceEq, hfl, hfl1, hfl2, NE, S_nb, hp', hq', beq_self_eq_true, tf_ne, ft_ne]
    exact hneg _ _ (fin _ _ _ _) (rcmp_neg hpn hqn).symm
  · have hp' : (p.num < 0) = False := eq_false hpn
    have hq' : (q.num < 0) = True := eq_true hqn
    rw [ratV, ratV] at *
    simp only [↓R1, R2, R3, R4, TY, reduceIte, Nat.reduceEqDiff, Nat.reduceAdd, Nat.reduceMul, Nat.reduceLT, Nat.reduceLeDiff, reduceCtorEq, decide_true, decide_false, Int.reduceLE, Int.reduceLT, Int.reduceToNat, Int.reduceAdd, Int.reduceSub, Int.reduceMul, Int.reduceEq, hfl, hfl1, hfl2]
    refine call_of (fp _ _) ?_
    simp only [↓R1, R2, R3, R4, TY, reduceIte, Nat.reduceEqDiff, Nat.reduceAdd, Nat.reduceMul, Nat.reduceLT, Nat.reduceLeDiff, reduceCtorEq, decide_true, decide_false, Int.reduceLE, Int.reduceLT, Int.reduceToNat, Int.reduceAdd, Int.reduceSub, Int.reduceMul, Int.reduceEq, hfl, hfl1, hfl2]
    refine call_of (fq _ _) ?_
    simp only [↓R1, R2, R3, R4, TY, reduceIte, Nat.reduceEqDiff, Nat.reduceAdd, Nat.reduceMul, Nat.reduceLT, Nat.reduceLeDiff, reduceCtorEq, decide_true, decide_false, Int.reduceLE, Int.reduceLT, Int.reduceToNat, Int.reduceAdd, Int.reduceSub, Int.reduceMul, Int.reduceEq, hfl, hfl1, hfl2]
    rw [floOf_wr (by kernel_rfl)]
    simp only [↓R1, R2, R3, R4, TY, reduceIte, Nat.reduceEqDiff, Nat.reduceAdd, Nat.reduceMul, Nat.reduceLT, Nat.reduceLeDiff, reduceCtorEq, decide_true, decide_false, Int.reduceLE, Int.reduceLT, Int.reduceToNat, Int.reduceAdd, Int.reduceSub, Int.reduceMul, Int.reduceEq, hfl, hfl1, hfl2, NE]
    rw [floOf_wr (by kernel_rfl)]
    simp only [↓R1, R2, R3, R4, TY, reduceIte, Nat.reduceEqDiff, Nat.reduceAdd, Nat.reduceMul, Nat.reduceLT, Nat.reduceLeDiff, reduceCtorEq, decide_true, decide_false, Int.reduceLE, Int.reduceLT, Int.reduceToNat, Int.reduceAdd, Int.reduceSub, Int.reduceMul, Int.reduceEq, hfl, hfl1, hfl2, NE, S_nb, hp', hq', beq_self_eq_true, tf_ne, ft_ne]
    exact hneg _ _ (fin _ _ _ _) (rcmp_pos hpn hqn).symm
  · have hp' : (p.num < 0) = False := eq_false hpn
    have hq' : (q.num < 0) = False := eq_false hqn
    rw [ratV, ratV] at *
    simp only [↓R1, R2, R3, R4, TY, reduceIte, Nat.reduceEqDiff, Nat.reduceAdd, Nat.reduceMul, Nat.reduceLT, Nat.reduceLeDiff, reduceCtorEq, decide_true, decide_false, Int.reduceLE, Int.reduceLT, Int.reduceToNat, Int.reduceAdd, Int.reduceSub, Int.reduceMul, Int.reduceEq, hfl, hfl1, hfl2]
    refine call_of (fp _ _) ?_
    simp only [↓R1, R2, R3, R4, TY, reduceIte, Nat.reduceEqDiff, Nat.reduceAdd, Nat.reduceMul, Nat.reduceLT, Nat.reduceLeDiff, reduceCtorEq, decide_true, decide_false, Int.reduceLE, Int.reduceLT, Int.reduceToNat, Int.reduceAdd, Int.reduceSub, Int.reduceMul, Int.reduceEq, hfl, hfl1, hfl2]
    refine call_of (fq _ _) ?_
    simp only [↓R1, R2, R3, R4, TY, reduceIte, Nat.reduceEqDiff, Nat.reduceAdd, Nat.reduceMul, Nat.reduceLT, Nat.reduceLeDiff, reduceCtorEq, decide_true, decide_false, Int.reduceLE, Int.reduceLT, Int.reduceToNat, Int.reduceAdd, Int.reduceSub, Int.reduceMul, Int.reduceEq, hfl, hfl1, hfl2]
    rw [floOf_wr (by kernel_rfl)]
    simp only [↓R1, R2, R3, R4, TY, reduceIte, Nat.reduceEqDiff, Nat.reduceAdd, Nat.reduceMul, Nat.reduceLT, Nat.reduceLeDiff, reduceCtorEq, decide_true, decide_false, Int.reduceLE, Int.reduceLT, Int.reduceToNat, Int.reduceAdd, Int.reduceSub, Int.reduceMul, Int.reduceEq, hfl, hfl1, hfl2, NE]
    rw [floOf_wr (by kernel_rfl)]
    simp only [↓R1, R2, R3, R4, TY, reduceIte, Nat.reduceEqDiff, Nat.reduceAdd, Nat.reduceMul, Nat.reduceLT, Nat.reduceLeDiff, reduceCtorEq, decide_true, decide_false, Int.reduceLE, Int.reduceLT, Int.reduceToNat, Int.reduceAdd, Int.reduceSub, Int.reduceMul, Int.reduceEq, hfl, hfl1, hfl2, NE, S_nb, hp', hq', beq_self_eq_true, tf_ne, ft_ne]
    refine call_of (mulN (by omega) (by omega)) ?_
    simp only [↓R1, R2, R3, R4, TY, reduceIte, Nat.reduceEqDiff, Nat.reduceAdd, Nat.reduceMul, Nat.reduceLT, Nat.reduceLeDiff, reduceCtorEq, decide_true, decide_false, Int.reduceLE, Int.reduceLT, Int.reduceToNat, Int.reduceAdd, Int.reduceSub, Int.reduceMul, Int.reduceEq, hp', hq']
    refine call_of (mulN (by omega) (by omega)) ?_
    simp only [↓R1, R2, R3, R4, TY, reduceIte, Nat.reduceEqDiff, Nat.reduceAdd, Nat.reduceMul, Nat.reduceLT, Nat.reduceLeDiff, reduceCtorEq, decide_true, decide_false, Int.reduceLE, Int.reduceLT, Int.reduceToNat, Int.reduceAdd, Int.reduceSub, Int.reduceMul, Int.reduceEq, hp', hq']
    refine call_of (cmpN_ok _ _) ?_
    have hcb := cmpN_bound (p.num.natAbs * q.den) (q.num.natAbs * p.den)
    have hw : IntKind.i64.wrap (0 - cmpN (p.num.natAbs * q.den) (q.num.natAbs * p.den)) = -cmpN (p.num.natAbs * q.den) (q.num.natAbs * p.den) := by rw [wrapI (by omega)]; omega
    simp only [↓R1, R2, R3, R4, TY, reduceIte, Nat.reduceEqDiff, Nat.reduceAdd, Nat.reduceMul, Nat.reduceLT, Nat.reduceLeDiff, reduceCtorEq, decide_true, decide_false, Int.reduceLE, Int.reduceLT, Int.reduceToNat, Int.reduceAdd, Int.reduceSub, Int.reduceMul, Int.reduceEq, hp', hq', hw]
    exact hneg _ _ (fin _ _ _ _) (rcmp_same hpn hqn).symm
end
end Go.Proofs.YtjkimjmocfjjnaaDoor.Ab

/- Rational numbers: the lesser and the greater, whole ones, quotients of whole ones, texts; equality. -/
namespace Go.Proofs.YtjkimjmocfjjnaaDoor.Ab
open Go.RowKit
set_option linter.unusedVariables false
set_option linter.unusedSimpArgs false
set_option maxRecDepth 100000

def rmin (p q : Rat) : Rat := if rcmp p q ≤ 0 then p else q
def rmax (p q : Rat) : Rat := if 0 ≤ rcmp p q then p else q
/-- A whole number. -/
def rOf (n : Int) : Rat := mkRat n 1
theorem sz_of {n : Int} {k : Nat} (h : n.natAbs ≤ k) (h1 : 1 ≤ k) : Sz (rOf n) k := Sz.mk h h1 h1
theorem rOf_num (n : Int) : (rOf n).num = n := by unfold rOf; rw [Rat.num_mkRat]; simp
theorem rOf_den (n : Int) : (rOf n).den = 1 := by unfold rOf; rw [Rat.den_mkRat]; simp
theorem rOf_eq (n : Int) : rOf n = (n : Rat) := Rat.ext (by rw [rOf_num]; rfl) (by rw [rOf_den]; rfl)
/-- A number's text. -/
def rtext (q : Rat) : List UInt8 := (if q.num < 0 then [45] else []) ++ dec q.num.natAbs ++ (if q.den = 1 then [] else 47 :: dec q.den)

theorem ratV_inj {p q : Rat} : ratV p = ratV q ↔ p = q := by
  constructor
  · intro h
    simp only [ratV, Value.agg.injEq] at h
    have h1 := congrArg Array.toList h
    simp only [List.cons.injEq, Value.bool.injEq, Value.string.injEq, and_true] at h1
    obtain ⟨a, b, c⟩ := h1
    have b' := nb_inj (S_inj.mp b)
    have c' := nb_inj (S_inj.mp c)
    refine Rat.ext ?_ c'
    have := sgn_num p.num
    rw [← this, ← sgn_num q.num, a, b']
  · rintro rfl; rfl

section
variable {G : Gl} {fl : Nat} {A : Hp}

theorem eqD_rat (p q : Rat) : eqD Tryd.prog 20 23 (ratV p) (ratV q) = some (decide (p = q)) := by
  have hst : Tryd.prog.stoodInHeld 23 = false := by kernel_rfl
  have h1 : eqD Tryd.prog 20 23 (ratV p) (ratV q) = some ((decide (p.num < 0) == decide (q.num < 0)) && (decide (S (nb p.num.natAbs) = S (nb q.num.natAbs)) && (decide (S (nb p.den) = S (nb q.den)) && true))) := by
    simp [eqD, ratV, Tryd.underlying23, Tryd.underlying9, Tryd.underlying4, eqFs, partV, ty9, ty4, hst]
  rw [h1]
  simp only [S_nb]
  congr 1
  by_cases h : p = q
  · subst h; simp
  · rw [decide_eq_false h]
    apply Bool.eq_false_iff.2
    intro hc
    simp only [Bool.and_eq_true, beq_iff_eq, decide_eq_true_eq, Bool.true_and, Bool.and_true] at hc
    apply h
    refine Rat.ext ?_ hc.2.2
    rw [← sgn_num p.num, ← sgn_num q.num, hc.1, hc.2.1]

theorem rof_ok {n : Int} (h1 : -9223372036854775808 ≤ n) (h2 : n ≤ 9223372036854775807) : Sound Tryd.prog G 28 [.int .i64 n] fl A (ratV (rOf n)) A := by
  refine Sound.of mixed Tryd.func28 Tryd.ntmps28 Tryd.results28 (by kernel_rfl) rfl (by kernel_rfl) (by kernel_rfl) fun hA => ?_
  have hfl : fl ≤ A.next := hA.floor
  have hrb := ratV_rb A.next (rOf n)
  simp only [↓R1, R2, R3, R4, TY, reduceIte, Nat.reduceEqDiff, Nat.reduceAdd, Nat.reduceMul, Nat.reduceLT, Nat.reduceLeDiff, reduceCtorEq, decide_true, decide_false, Int.reduceLE, Int.reduceLT, Int.reduceToNat, Int.reduceAdd, Int.reduceSub, Int.reduceMul, Int.reduceEq]
  refine ⟨fun h => ?_, fun h => ?_⟩
  · refine call_of (of_ok h2) ?_
    simp only [↓R1, R2, R3, R4, TY, reduceIte, Nat.reduceEqDiff, Nat.reduceAdd, Nat.reduceMul, Nat.reduceLT, Nat.reduceLeDiff, reduceCtorEq, decide_true, decide_false, Int.reduceLE, Int.reduceLT, Int.reduceToNat, Int.reduceAdd, Int.reduceSub, Int.reduceMul, Int.reduceEq]
    have hm := made_ok (G := G) (fl := fl) (A := A.push (.row [.bool false, .string (S []), .string (S [])] 0 3)) (neg := false) (m := n.toNat) (d := 1) (by omega) (by omega) (by omega)
    have e : mkRat (sgn false n.toNat) 1 = rOf n := by unfold rOf sgn; simp; congr 1; omega
    rw [e, nb_one] at hm
    refine call_of hm ?_
    rw [ratV] at hrb ⊢
    simp only [↓R1, R2, R3, R4, TY, reduceIte, Nat.reduceEqDiff, Nat.reduceAdd, Nat.reduceMul, Nat.reduceLT, Nat.reduceLeDiff, reduceCtorEq, decide_true, decide_false, Int.reduceLE, Int.reduceLT, Int.reduceToNat, Int.reduceAdd, Int.reduceSub, Int.reduceMul, Int.reduceEq, hfl]
    exact Ended.back hA (by simp (maxDischargeDepth := 20) only [xt_push, xt_put, xt_refl, Nat.le_refl]) rfl hrb
  · have w1 : IntKind.i64.wrap (n + 1) = n + 1 := wrapI (by omega)
    have w2 : IntKind.i64.wrap (0 - (n + 1)) = -(n + 1) := by rw [wrapI (by omega)]; omega
    simp only [↓R1, R2, R3, R4, TY, reduceIte, Nat.reduceEqDiff, Nat.reduceAdd, Nat.reduceMul, Nat.reduceLT, Nat.reduceLeDiff, reduceCtorEq, decide_true, decide_false, Int.reduceLE, Int.reduceLT, Int.reduceToNat, Int.reduceAdd, Int.reduceSub, Int.reduceMul, Int.reduceEq, w1, w2]
    refine call_of (of_ok (by omega)) ?_
    have ha := addN (G := G) (fl := fl) (A := A.push (.row [.bool false, .string (S []), .string (S [])] 0 3)) (m := (-(n + 1)).toNat) (n := 1) (by have := nb8.2 (show (-(n + 1)).toNat < 18446744073709551616 by omega); omega) (by rw [nb_one]; decide)
    rw [nb_one] at ha
    simp only [↓R1, R2, R3, R4, TY, reduceIte, Nat.reduceEqDiff, Nat.reduceAdd, Nat.reduceMul, Nat.reduceLT, Nat.reduceLeDiff, reduceCtorEq, decide_true, decide_false, Int.reduceLE, Int.reduceLT, Int.reduceToNat, Int.reduceAdd, Int.reduceSub, Int.reduceMul, Int.reduceEq]
    refine call_of ha ?_
    simp only [↓R1, R2, R3, R4, TY, reduceIte, Nat.reduceEqDiff, Nat.reduceAdd, Nat.reduceMul, Nat.reduceLT, Nat.reduceLeDiff, reduceCtorEq, decide_true, decide_false, Int.reduceLE, Int.reduceLT, Int.reduceToNat, Int.reduceAdd, Int.reduceSub, Int.reduceMul, Int.reduceEq]
    have hm := made_ok (G := G) (fl := fl) (A := A.push (.row [.bool false, .string (S []), .string (S [])] 0 3)) (neg := true) (m := (-(n + 1)).toNat + 1) (d := 1) (by omega) (by omega) (by omega)
    have e : mkRat (sgn true ((-(n + 1)).toNat + 1)) 1 = rOf n := by unfold rOf sgn; simp; congr 1; omega
    rw [e, nb_one] at hm
    refine call_of hm ?_
    rw [ratV] at hrb ⊢
    simp only [↓R1, R2, R3, R4, TY, reduceIte, Nat.reduceEqDiff, Nat.reduceAdd, Nat.reduceMul, Nat.reduceLT, Nat.reduceLeDiff, reduceCtorEq, decide_true, decide_false, Int.reduceLE, Int.reduceLT, Int.reduceToNat, Int.reduceAdd, Int.reduceSub, Int.reduceMul, Int.reduceEq, hfl]
    exact Ended.back hA (by simp (maxDischargeDepth := 20) only [xt_push, xt_put, xt_refl, Nat.le_refl]) rfl hrb

theorem rmin_ok {p q : Rat} {j k : Nat} (hp : Sz p j) (hq : Sz q k) (hb : j * k < 18446744073709551616) : Sound Tryd.prog G 22 [ratV p, ratV q] fl A (ratV (rmin p q)) A := by
  refine Sound.of mixed Tryd.func22 Tryd.ntmps22 Tryd.results22 (by kernel_rfl) rfl (by kernel_rfl) (by kernel_rfl) fun hA => ?_
  have hjk1 : j ≤ j * k := Nat.le_mul_of_pos_right _ hq.pos
  have hjk2 : k ≤ j * k := Nat.le_mul_of_pos_left _ hp.pos
  have fp := fun fl A => fit_ok (G := G) (fl := fl) (A := A) (q := p) (by have := hp.1; omega) (by have := hp.2; omega)
  have fq := fun fl A => fit_ok (G := G) (fl := fl) (A := A) (q := q) (by have := hq.1; omega) (by have := hq.2; omega)
  have hc := fun fl A => rcmp_ok (G := G) (fl := fl) (A := A) hp hq hb
  have hfl2 : fl ≤ A.next + 2 := by have := hA.floor; omega
  have hrp := ratV_rb A.next p
  have hrq := ratV_rb A.next q
  unfold rmin
  rw [ratV, ratV] at *
  simp only [↓R1, R2, R3, R4, TY, reduceIte, Nat.reduceEqDiff, Nat.reduceAdd, Nat.reduceMul, Nat.reduceLT, Nat.reduceLeDiff, reduceCtorEq, decide_true, decide_false, Int.reduceLE, Int.reduceLT, Int.reduceToNat, Int.reduceAdd, Int.reduceSub, Int.reduceMul, Int.reduceEq]
  refine call_of (hc _ _) ?_
  simp only [↓R1, R2, R3, R4, TY, reduceIte, Nat.reduceEqDiff, Nat.reduceAdd, Nat.reduceMul, Nat.reduceLT, Nat.reduceLeDiff, reduceCtorEq, decide_true, decide_false, Int.reduceLE, Int.reduceLT, Int.reduceToNat, Int.reduceAdd, Int.reduceSub, Int.reduceMul, Int.reduceEq, hfl2, NE]
  refine ⟨fun h => ?_, fun h => ?_⟩
  · refine call_of (fp _ _) ?_
    rw [if_pos h]
    simp only [↓R1, R2, R3, R4, TY, reduceIte, Nat.reduceEqDiff, Nat.reduceAdd, Nat.reduceMul, Nat.reduceLT, Nat.reduceLeDiff, reduceCtorEq, decide_true, decide_false, Int.reduceLE, Int.reduceLT, Int.reduceToNat, Int.reduceAdd, Int.reduceSub, Int.reduceMul, Int.reduceEq, hfl2, NE]
    exact Ended.back hA ((((Xt.refl A).push _).push _).push _ |>.put (by omega) _) rfl hrp
  · refine call_of (fq _ _) ?_
    rw [if_neg h]
    simp only [↓R1, R2, R3, R4, TY, reduceIte, Nat.reduceEqDiff, Nat.reduceAdd, Nat.reduceMul, Nat.reduceLT, Nat.reduceLeDiff, reduceCtorEq, decide_true, decide_false, Int.reduceLE, Int.reduceLT, Int.reduceToNat, Int.reduceAdd, Int.reduceSub, Int.reduceMul, Int.reduceEq, hfl2, NE]
    exact Ended.back hA ((((Xt.refl A).push _).push _).push _ |>.put (by omega) _) rfl hrq

theorem rmax_ok {p q : Rat} {j k : Nat} (hp : Sz p j) (hq : Sz q k) (hb : j * k < 18446744073709551616) : Sound Tryd.prog G 30 [ratV p, ratV q] fl A (ratV (rmax p q)) A := by
  refine Sound.of mixed Tryd.func30 Tryd.ntmps30 Tryd.results30 (by kernel_rfl) rfl (by kernel_rfl) (by kernel_rfl) fun hA => ?_
  have hjk1 : j ≤ j * k := Nat.le_mul_of_pos_right _ hq.pos
  have hjk2 : k ≤ j * k := Nat.le_mul_of_pos_left _ hp.pos
  have fp := fun fl A => fit_ok (G := G) (fl := fl) (A := A) (q := p) (by have := hp.1; omega) (by have := hp.2; omega)
  have fq := fun fl A => fit_ok (G := G) (fl := fl) (A := A) (q := q) (by have := hq.1; omega) (by have := hq.2; omega)
  have hc := fun fl A => rcmp_ok (G := G) (fl := fl) (A := A) hp hq hb
  have hfl2 : fl ≤ A.next + 2 := by have := hA.floor; omega
  have hrp := ratV_rb A.next p
  have hrq := ratV_rb A.next q
  unfold rmax
  rw [ratV, ratV] at *
  simp only [↓R1, R2, R3, R4, TY, reduceIte, Nat.reduceEqDiff, Nat.reduceAdd, Nat.reduceMul, Nat.reduceLT, Nat.reduceLeDiff, reduceCtorEq, decide_true, decide_false, Int.reduceLE, Int.reduceLT, Int.reduceToNat, Int.reduceAdd, Int.reduceSub, Int.reduceMul, Int.reduceEq]
  refine call_of (hc _ _) ?_
  simp only [↓R1, R2, R3, R4, TY, reduceIte, Nat.reduceEqDiff, Nat.reduceAdd, Nat.reduceMul, Nat.reduceLT, Nat.reduceLeDiff, reduceCtorEq, decide_true, decide_false, Int.reduceLE, Int.reduceLT, Int.reduceToNat, Int.reduceAdd, Int.reduceSub, Int.reduceMul, Int.reduceEq, hfl2, NE]
  refine ⟨fun h => ?_, fun h => ?_⟩
  · refine call_of (fp _ _) ?_
    rw [if_pos h]
    simp only [↓R1, R2, R3, R4, TY, reduceIte, Nat.reduceEqDiff, Nat.reduceAdd, Nat.reduceMul, Nat.reduceLT, Nat.reduceLeDiff, reduceCtorEq, decide_true, decide_false, Int.reduceLE, Int.reduceLT, Int.reduceToNat, Int.reduceAdd, Int.reduceSub, Int.reduceMul, Int.reduceEq, hfl2, NE]
    exact Ended.back hA ((((Xt.refl A).push _).push _).push _ |>.put (by omega) _) rfl hrp
  · refine call_of (fq _ _) ?_
    rw [if_neg h]
    simp only [↓R1, R2, R3, R4, TY, reduceIte, Nat.reduceEqDiff, Nat.reduceAdd, Nat.reduceMul, Nat.reduceLT, Nat.reduceLeDiff, reduceCtorEq, decide_true, decide_false, Int.reduceLE, Int.reduceLT, Int.reduceToNat, Int.reduceAdd, Int.reduceSub, Int.reduceMul, Int.reduceEq, hfl2, NE]
    exact Ended.back hA ((((Xt.refl A).push _).push _).push _ |>.put (by omega) _) rfl hrq
end
end Go.Proofs.YtjkimjmocfjjnaaDoor.Ab
