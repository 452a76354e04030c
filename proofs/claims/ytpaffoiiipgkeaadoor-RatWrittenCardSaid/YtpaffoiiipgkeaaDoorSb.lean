/- Rational numbers read; numbers that are not in lowest terms. -/
import Derived.Test.YtpaffoiiipgkeaaDoorSa
import Derived.Test.YtpaffoiiipgkeaaDoorRe
namespace Go.Proofs.YtpaffoiiipgkeaaDoor.Ab
open Go.RowKit
set_option linter.unusedVariables false
set_option linter.unusedSimpArgs false
set_option maxRecDepth 100000

theorem dec_len24 {n : Nat} (h : n < 18446744073709551616) : (dec n).length ≤ 24 := by
  by_cases h0 : n = 0
  · rw [h0]; decide
  · rw [dec_len' h0]; have := nb_dec_len (nb8.2 h); omega
theorem dec_no {n : Nat} {c : UInt8} (h : c.toNat < 48) : c ∉ dec n := fun hc => by have := dec_digits n c hc; omega
theorem dec_head {n : Nat} {l : List UInt8} : (dec n ++ l).head? ≠ some 45 := by
  cases hd : dec n with
  | nil => exact absurd hd (dec_ne n)
  | cons b m =>
    have := dec_digits n b (by rw [hd]; simp)
    intro e
    simp at e
    rw [e] at this
    exact absurd this.1 (by decide)
def pre (neg : Bool) : List UInt8 := if neg then [45] else []

section
variable {G : Gl} {fl : Nat} {A : Hp}

theorem readN {n : Nat} (h : n < 18446744073709551616) : Sound Tryd.prog G 15 [.string (S (dec n))] fl A (.tuple [Value.string (S (nb n)), .int .i64 0].toArray) A := by
  have := read_ok (G := G) (fl := fl) (A := A) (dec n)
  rwa [read_dec (by have := dec_len24 h; omega)] at this
theorem rread_ok {neg : Bool} {n d : Nat} (hd0 : d ≠ 0) (hn : n < 18446744073709551616) (hd : d < 18446744073709551616) : Sound Tryd.prog G 43 [.string (S (pre neg ++ (dec n ++ 47 :: dec d)))] fl A (.tuple [ratV (mkRat (sgn neg n) d), Value.int .i64 0].toArray) A := by
  refine Sound.of mixed Tryd.func43 Tryd.ntmps43 Tryd.results43 (by kernel_rfl) rfl (by kernel_rfl) (by simp) fun hA => ?_
  have hfl : fl ≤ A.next := hA.floor
  have l1 := dec_len24 hn
  have l2 := dec_len24 hd
  have hlen : (pre neg ++ (dec n ++ 47 :: dec d)).length ≤ 60 := by cases neg <;> simp [pre] <;> omega
  have hc : ((2000 : Int) < ((pre neg ++ (dec n ++ 47 :: dec d)).length : Nat)) = False := eq_false (by omega)
  have hrb := ratV_rb A.next (mkRat (sgn neg n) d)
  have hm := fun fl A => made_ok (G := G) (fl := fl) (A := A) (neg := neg) hd0 hn hd
  have hz : (nb d = []) = False := eq_false (fun e => hd0 (nb_eq_nil.1 e))
  rw [ratV_def (mkRat (sgn neg n) d)] at hrb hm ⊢
  have hcp : Sound Tryd.prog G 64 [.string (S (pre neg ++ (dec n ++ 47 :: dec d))), .string (S [45])] fl (A.push (.row [.bool false, .string (S []), .string (S [])] 0 3)) (.tuple [Value.string (S (dec n ++ 47 :: dec d)), .bool neg].toArray) (A.push (.row [.bool false, .string (S []), .string (S [])] 0 3)) := by
    cases neg
    · exact cutPrefix_none (l := dec n ++ 47 :: dec d) (by simp only [List.length_append, List.length_cons]; omega) (dec_head)
    · exact cutPrefix_some (l := dec n ++ 47 :: dec d) (by simp only [List.length_append, List.length_cons]; omega)
  simp only [↓R1, R2, R3, R4, TY, reduceIte, Nat.reduceEqDiff, Nat.reduceAdd, Nat.reduceMul, Nat.reduceLT, Nat.reduceLeDiff, reduceCtorEq, decide_true, decide_false, Int.reduceLE, Int.reduceLT, Int.reduceToNat, Int.reduceAdd, Int.reduceSub, Int.reduceMul, Int.reduceEq, S_size, hc]
  refine call_of hcp ?_
  simp only [↓R1, R2, R3, R4, TY, reduceIte, Nat.reduceEqDiff, Nat.reduceAdd, Nat.reduceMul, Nat.reduceLT, Nat.reduceLeDiff, reduceCtorEq, decide_true, decide_false, Int.reduceLE, Int.reduceLT, Int.reduceToNat, Int.reduceAdd, Int.reduceSub, Int.reduceMul, Int.reduceEq]
  refine call_of (cut_some (dec_no (by decide)) (by omega)) ?_
  simp only [↓R1, R2, R3, R4, TY, reduceIte, Nat.reduceEqDiff, Nat.reduceAdd, Nat.reduceMul, Nat.reduceLT, Nat.reduceLeDiff, reduceCtorEq, decide_true, decide_false, Int.reduceLE, Int.reduceLT, Int.reduceToNat, Int.reduceAdd, Int.reduceSub, Int.reduceMul, Int.reduceEq]
  refine call_of (readN hn) ?_
  simp only [↓R1, R2, R3, R4, TY, reduceIte, Nat.reduceEqDiff, Nat.reduceAdd, Nat.reduceMul, Nat.reduceLT, Nat.reduceLeDiff, reduceCtorEq, decide_true, decide_false, Int.reduceLE, Int.reduceLT, Int.reduceToNat, Int.reduceAdd, Int.reduceSub, Int.reduceMul, Int.reduceEq]
  refine call_of (readN hd) ?_
  simp only [↓R1, R2, R3, R4, TY, reduceIte, Nat.reduceEqDiff, Nat.reduceAdd, Nat.reduceMul, Nat.reduceLT, Nat.reduceLeDiff, reduceCtorEq, decide_true, decide_false, Int.reduceLE, Int.reduceLT, Int.reduceToNat, Int.reduceAdd, Int.reduceSub, Int.reduceMul, Int.reduceEq, S_inj, hz]
  refine call_of (hm _ _) ?_
  simp only [↓R1, R2, R3, R4, TY, reduceIte, Nat.reduceEqDiff, Nat.reduceAdd, Nat.reduceMul, Nat.reduceLT, Nat.reduceLeDiff, reduceCtorEq, decide_true, decide_false, Int.reduceLE, Int.reduceLT, Int.reduceToNat, Int.reduceAdd, Int.reduceSub, Int.reduceMul, Int.reduceEq, hfl]
  refine Ended.back hA (((Xt.refl A).push _).put (Nat.le_refl _) _) rfl (RB.tuple fun w hw => ?_)
  simp only [List.mem_cons, List.not_mem_nil, or_false] at hw
  rcases hw with rfl | rfl
  · exact hrb
  · exact RB.int _ _
theorem rread1_ok {neg : Bool} {n : Nat} (hn : n < 18446744073709551616) : Sound Tryd.prog G 43 [.string (S (pre neg ++ (dec n)))] fl A (.tuple [ratV (mkRat (sgn neg n) 1), Value.int .i64 0].toArray) A := by
  refine Sound.of mixed Tryd.func43 Tryd.ntmps43 Tryd.results43 (by kernel_rfl) rfl (by kernel_rfl) (by simp) fun hA => ?_
  have hfl : fl ≤ A.next := hA.floor
  have l1 := dec_len24 hn
  have hd0 : (1 : Nat) ≠ 0 := by omega
  have hd : 1 < 18446744073709551616 := by omega
  have d1 : dec 1 = [49] := by rw [dec, if_neg (by omega), dl_pos (by omega), show 1 / 10 = 0 from rfl, dl_zero]; rfl
  have hlen : (pre neg ++ (dec n)).length ≤ 60 := by cases neg <;> simp [pre] <;> omega
  have hc : ((2000 : Int) < ((pre neg ++ (dec n)).length : Nat)) = False := eq_false (by omega)
  have hrb := ratV_rb A.next (mkRat (sgn neg n) 1)
  have hm := fun fl A => made_ok (G := G) (fl := fl) (A := A) (neg := neg) hd0 hn hd
  have hz : (nb 1 = []) = False := eq_false (fun e => hd0 (nb_eq_nil.1 e))
  rw [ratV_def (mkRat (sgn neg n) 1)] at hrb hm ⊢
  have hcp : Sound Tryd.prog G 64 [.string (S (pre neg ++ (dec n))), .string (S [45])] fl (A.push (.row [.bool false, .string (S []), .string (S [])] 0 3)) (.tuple [Value.string (S (dec n)), .bool neg].toArray) (A.push (.row [.bool false, .string (S []), .string (S [])] 0 3)) := by
    cases neg
    · exact cutPrefix_none (l := dec n) (by omega) (by have := dec_head (n := n) (l := []); rwa [List.append_nil] at this)
    · exact cutPrefix_some (l := dec n) (by omega)
  simp only [↓R1, R2, R3, R4, TY, reduceIte, Nat.reduceEqDiff, Nat.reduceAdd, Nat.reduceMul, Nat.reduceLT, Nat.reduceLeDiff, reduceCtorEq, decide_true, decide_false, Int.reduceLE, Int.reduceLT, Int.reduceToNat, Int.reduceAdd, Int.reduceSub, Int.reduceMul, Int.reduceEq, S_size, hc]
  refine call_of hcp ?_
  simp only [↓R1, R2, R3, R4, TY, reduceIte, Nat.reduceEqDiff, Nat.reduceAdd, Nat.reduceMul, Nat.reduceLT, Nat.reduceLeDiff, reduceCtorEq, decide_true, decide_false, Int.reduceLE, Int.reduceLT, Int.reduceToNat, Int.reduceAdd, Int.reduceSub, Int.reduceMul, Int.reduceEq]
  refine call_of (cut_none (dec_no (by decide))) ?_
  simp only [↓R1, R2, R3, R4, TY, reduceIte, Nat.reduceEqDiff, Nat.reduceAdd, Nat.reduceMul, Nat.reduceLT, Nat.reduceLeDiff, reduceCtorEq, decide_true, decide_false, Int.reduceLE, Int.reduceLT, Int.reduceToNat, Int.reduceAdd, Int.reduceSub, Int.reduceMul, Int.reduceEq]
  refine call_of (readN hn) ?_
  simp only [↓R1, R2, R3, R4, TY, reduceIte, Nat.reduceEqDiff, Nat.reduceAdd, Nat.reduceMul, Nat.reduceLT, Nat.reduceLeDiff, reduceCtorEq, decide_true, decide_false, Int.reduceLE, Int.reduceLT, Int.reduceToNat, Int.reduceAdd, Int.reduceSub, Int.reduceMul, Int.reduceEq]
  have hr1 := readN (G := G) (fl := fl) (A := A.push (.row [.bool false, .string (S []), .string (S [])] 0 3)) (n := 1) (by omega)
  rw [d1] at hr1
  refine call_of hr1 ?_
  simp only [↓R1, R2, R3, R4, TY, reduceIte, Nat.reduceEqDiff, Nat.reduceAdd, Nat.reduceMul, Nat.reduceLT, Nat.reduceLeDiff, reduceCtorEq, decide_true, decide_false, Int.reduceLE, Int.reduceLT, Int.reduceToNat, Int.reduceAdd, Int.reduceSub, Int.reduceMul, Int.reduceEq, S_inj, hz]
  refine call_of (hm _ _) ?_
  simp only [↓R1, R2, R3, R4, TY, reduceIte, Nat.reduceEqDiff, Nat.reduceAdd, Nat.reduceMul, Nat.reduceLT, Nat.reduceLeDiff, reduceCtorEq, decide_true, decide_false, Int.reduceLE, Int.reduceLT, Int.reduceToNat, Int.reduceAdd, Int.reduceSub, Int.reduceMul, Int.reduceEq, hfl]
  refine Ended.back hA (((Xt.refl A).push _).put (Nat.le_refl _) _) rfl (RB.tuple fun w hw => ?_)
  simp only [List.mem_cons, List.not_mem_nil, or_false] at hw
  rcases hw with rfl | rfl
  · exact hrb
  · exact RB.int _ _

/-- A number that is not in lowest terms. -/
def badV (q : Rat) (k : Nat) : Value := .agg #[.bool (decide (q.num < 0)), .string (S (nb (q.num.natAbs * k))), .string (S (nb (q.den * k)))]
theorem goodBad_ok {q : Rat} {k : Nat} (hk : 2 ≤ k) (h1 : q.num.natAbs * k < 18446744073709551616) (h2 : q.den * k < 18446744073709551616) : Sound Tryd.prog G 29 [badV q k] fl A (.bool false) A := by
  refine Sound.of mixed Tryd.func29 Tryd.ntmps29 Tryd.results29 (by kernel_rfl) rfl (by kernel_rfl) (by simp) fun hA => ?_
  rw [badV]
  have hqd := rat_den_pos q
  have hd : q.den * k ≠ 0 := Nat.mul_ne_zero hqd (by omega)
  have hfl : fl ≤ A.next := hA.floor
  have hdf : (q.den * k = 0) = False := eq_false hd
  have hd2 : 2 ≤ q.den * k := Nat.le_trans hk (Nat.le_mul_of_pos_left _ (by omega))
  have hone : (nb (q.den * k) = [1]) = False := eq_false (fun e => by rw [← nb_one] at e; have := nb_inj e; omega)
  obtain ⟨b, l, hbl, hb0⟩ := nb_head_of hd
  have hlen : ((0 : Int) < ((nb (q.den * k)).length : Nat)) = True := eq_true (by rw [hbl]; simp)
  have hbyte : byteAt (S (nb (q.den * k))) 0 = ((b.toNat : Nat) : Int) := by rw [hbl]; rfl
  have hbz : (((b.toNat : Nat) : Int) = 0) = False := eq_false hb0
  have hend : ∀ b1, Ended A (.bool false) (A.push b1) (.bool false) A := fun b1 => Ended.back hA ((Xt.refl A).push _) rfl (RB.bool _)
  by_cases hn : q.num.natAbs = 0
  · have hn0 : q.num = 0 := by omega
    have hnz : (q.num.natAbs * k = 0) = True := eq_true (by rw [hn, Nat.zero_mul])
    have hneg2 : (q.num < 0) = False := eq_false (by omega)
    simp only [↓R1, R2, R3, R4, TY, reduceIte, Nat.reduceEqDiff, Nat.reduceAdd, Nat.reduceMul, Nat.reduceLT, Nat.reduceLeDiff, reduceCtorEq, decide_true, decide_false, Int.reduceLE, Int.reduceLT, Int.reduceToNat, Int.reduceAdd, Int.reduceSub, Int.reduceMul, Int.reduceEq, append_eq, List.cons_append, List.nil_append, S_inj, nb_nil_eq, S_size, hdf, hlen, hbyte, hbz, hnz, hneg2, hone]
    exact hend _
  · have hnm : q.num.natAbs * k ≠ 0 := Nat.mul_ne_zero hn (by omega)
    have hnf : (q.num.natAbs * k = 0) = False := eq_false hnm
    obtain ⟨c, m, hck, hc0⟩ := nb_head_of hnm
    have hlen2 : ((0 : Int) < ((nb (q.num.natAbs * k)).length : Nat)) = True := eq_true (by rw [hck]; simp)
    have hbyte2 : byteAt (S (nb (q.num.natAbs * k))) 0 = ((c.toNat : Nat) : Int) := by rw [hck]; rfl
    have hcz : (((c.toNat : Nat) : Int) = 0) = False := eq_false hc0
    simp only [↓R1, R2, R3, R4, TY, reduceIte, Nat.reduceEqDiff, Nat.reduceAdd, Nat.reduceMul, Nat.reduceLT, Nat.reduceLeDiff, reduceCtorEq, decide_true, decide_false, Int.reduceLE, Int.reduceLT, Int.reduceToNat, Int.reduceAdd, Int.reduceSub, Int.reduceMul, Int.reduceEq, append_eq, List.cons_append, List.nil_append, S_inj, nb_nil_eq, S_size, hdf, hlen, hbyte, hbz, hnf, hlen2, hbyte2, hcz, hone]
    refine call_of (gcdN h1 h2) ?_
    have hg : Nat.gcd (q.num.natAbs * k) (q.den * k) = k := by rw [Nat.gcd_mul_right, rat_gcd, Nat.one_mul]
    have hk1 : (nb k = [1]) = False := eq_false (fun e => by rw [← nb_one] at e; have := nb_inj e; omega)
    rw [hg]
    simp only [↓R1, R2, R3, R4, TY, reduceIte, Nat.reduceEqDiff, Nat.reduceAdd, Nat.reduceMul, Nat.reduceLT, Nat.reduceLeDiff, reduceCtorEq, decide_true, decide_false, Int.reduceLE, Int.reduceLT, Int.reduceToNat, Int.reduceAdd, Int.reduceSub, Int.reduceMul, Int.reduceEq, S_inj, hk1]
    exact hend _
theorem signBad_ok {q : Rat} {k : Nat} (hk : 2 ≤ k) (h1 : q.num.natAbs * k < 18446744073709551616) (h2 : q.den * k < 18446744073709551616) : Sound Tryd.prog G 31 [badV q k] fl A (.int .i64 0) A := by
  refine Sound.of mixed Tryd.func31 Tryd.ntmps31 Tryd.results31 (by kernel_rfl) rfl (by kernel_rfl) (by simp) fun hA => ?_
  have hfl : fl ≤ A.next := hA.floor
  have hfit : ∀ (fl : Nat) (A : Hp), Sound Tryd.prog G 56 [badV q k] fl A (ratV 0) A := by
    intro fl A
    refine Sound.of mixed Tryd.func56 Tryd.ntmps56 Tryd.results56 (by kernel_rfl) rfl (by kernel_rfl) (by simp) fun hA => ?_
    have hg := fun A => goodBad_ok (G := G) (fl := fl) (A := A) hk h1 h2
    have hzr := fun A => zero_ok (G := G) (fl := fl) (A := A)
    have hfl1 : fl ≤ A.next + 1 := by have := hA.floor; omega
    have hrb := ratV_rb A.next 0
    rw [badV] at hg ⊢
    rw [ratV_def] at hzr hrb ⊢
    simp only [↓R1, R2, R3, R4, TY, reduceIte, Nat.reduceEqDiff, Nat.reduceAdd, Nat.reduceMul, Nat.reduceLT, Nat.reduceLeDiff, reduceCtorEq, decide_true, decide_false, Int.reduceLE, Int.reduceLT, Int.reduceToNat, Int.reduceAdd, Int.reduceSub, Int.reduceMul, Int.reduceEq, hfl1]
    refine call_of (hg _) ?_
    simp only [↓R1, R2, R3, R4, TY, reduceIte, Nat.reduceEqDiff, Nat.reduceAdd, Nat.reduceMul, Nat.reduceLT, Nat.reduceLeDiff, reduceCtorEq, decide_true, decide_false, Int.reduceLE, Int.reduceLT, Int.reduceToNat, Int.reduceAdd, Int.reduceSub, Int.reduceMul, Int.reduceEq, hfl1]
    refine call_of (hzr _) ?_
    simp only [↓R1, R2, R3, R4, TY, reduceIte, Nat.reduceEqDiff, Nat.reduceAdd, Nat.reduceMul, Nat.reduceLT, Nat.reduceLeDiff, reduceCtorEq, decide_true, decide_false, Int.reduceLE, Int.reduceLT, Int.reduceToNat, Int.reduceAdd, Int.reduceSub, Int.reduceMul, Int.reduceEq, hfl1]
    exact Ended.back hA (((Xt.refl A).push _).push _ |>.put (by omega) _) rfl hrb
  have hz0 : nb (0 : Rat).num.natAbs = [] := by rw [show (0 : Rat).num.natAbs = 0 from rfl, nb_zero]
  rw [ratV_def, hz0] at hfit
  rw [badV] at hfit ⊢
  simp only [↓R1, R2, R3, R4, TY, reduceIte, Nat.reduceEqDiff, Nat.reduceAdd, Nat.reduceMul, Nat.reduceLT, Nat.reduceLeDiff, reduceCtorEq, decide_true, decide_false, Int.reduceLE, Int.reduceLT, Int.reduceToNat, Int.reduceAdd, Int.reduceSub, Int.reduceMul, Int.reduceEq]
  refine call_of (hfit _ _) ?_
  simp only [↓R1, R2, R3, R4, TY, reduceIte, Nat.reduceEqDiff, Nat.reduceAdd, Nat.reduceMul, Nat.reduceLT, Nat.reduceLeDiff, reduceCtorEq, decide_true, decide_false, Int.reduceLE, Int.reduceLT, Int.reduceToNat, Int.reduceAdd, Int.reduceSub, Int.reduceMul, Int.reduceEq, hfl]
  exact Ended.back hA (((Xt.refl A).push _).put (Nat.le_refl _) _) rfl (RB.int _ _)
end
end Go.Proofs.YtpaffoiiipgkeaaDoor.Ab
