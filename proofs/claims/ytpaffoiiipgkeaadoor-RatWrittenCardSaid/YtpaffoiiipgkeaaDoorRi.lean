/- Rational numbers: small ones by their number; the fact about package rat. -/
import Derived.Test.YtpaffoiiipgkeaaDoorRh
namespace Go.Proofs.YtpaffoiiipgkeaaDoor.Ab
open Go.RowKit
set_option linter.unusedVariables false
set_option linter.unusedSimpArgs false
set_option maxRecDepth 100000

theorem ratV_def (q : Rat) : ratV q = .agg #[.bool (decide (q.num < 0)), .string (S (nb q.num.natAbs)), .string (S (nb q.den))] := rfl
theorem dec_len' {n : Nat} (h : n ≠ 0) : (dec n).length = (dl n).length := by rw [dec, if_neg h, List.length_reverse]

section
variable {G : Gl} {fl : Nat} {A : Hp}

theorem mrat_ok {x : Int} (h1 : -9223372036854775808 ≤ x) (h2 : x ≤ 9223372036854775807) : Sound Tryd.prog G 23 [.int .i64 x] fl A (ratV (mrat x)) A := by
  refine Sound.of mixed Tryd.func23 Tryd.ntmps23 Tryd.results23 (by kernel_rfl) rfl (by kernel_rfl) (by simp) fun hA => ?_
  have hfl : fl ≤ A.next := hA.floor
  have hz6 : zl [.int .i64 0] 6 = [.int .i64 0, .int .i64 0, .int .i64 0, .int .i64 0, .int .i64 0, .int .i64 0] := rfl
  simp only [↓R1, R2, R3, R4, TY, reduceIte, Nat.reduceEqDiff, Nat.reduceAdd, Nat.reduceMul, Nat.reduceLT, Nat.reduceLeDiff, reduceCtorEq, decide_true, decide_false, Int.reduceLE, Int.reduceLT, Int.reduceToNat, Int.reduceAdd, Int.reduceSub, Int.reduceMul, Int.reduceEq, hz6]
  refine call_of (below_ok (by omega) (by omega) h1 h2) ?_
  have hb := below_range (x := x) (n := 6) (by omega)
  obtain ⟨b, hbe⟩ : ∃ b : Nat, below x 6 = (b : Int) := ⟨(below x 6).toNat, by omega⟩
  have hb6 : b < 6 := by omega
  have hmd : mden x = ([1, 2, 3, 4, 5, 8] : List Int).getD b 0 := by rw [mden, hbe]; rfl
  have hrow : ([Value.int .i64 1, .int .i64 2, .int .i64 3, .int .i64 4, .int .i64 5, .int .i64 8] : List Value)[b]? = some (.int .i64 (mden x)) := by
    rw [hmd]
    match b, hb6 with
    | 0, _ => rfl
    | 1, _ => rfl
    | 2, _ => rfl
    | 3, _ => rfl
    | 4, _ => rfl
    | 5, _ => rfl
  have c0 : ((0 : Int) ≤ (b : Int)) = True := eq_true (by omega)
  have c6 : ((b : Int) < 6) = True := eq_true (by omega)
  have c6' : (b < 6) = True := eq_true hb6
  have hdr := mden_range x
  have hnr := mnum_range x
  rw [hbe]
  have q1 : -1537228672809129302 ≤ x.tdiv 6 ∧ x.tdiv 6 ≤ 1537228672809129302 := by
    have := Int.mul_tdiv_add_tmod x 6
    have h3 := Int.tmod_lt_of_pos x (show (0 : Int) < 6 by omega)
    have h4 := Int.lt_tmod_of_pos x (show (0 : Int) < 6 by omega)
    omega
  have w1 : IntKind.i64.wrap (x.tdiv 6) = x.tdiv 6 := wrapI (by omega)
  have w2 : IntKind.i64.wrap (16 * mden x) = 16 * mden x := wrapI (by omega)
  have w3 : IntKind.i64.wrap (16 * mden x + 1) = 16 * mden x + 1 := wrapI (by omega)
  have w4 : IntKind.i64.wrap (8 * mden x) = 8 * mden x := wrapI (by omega)
  have h6 : ((6 : Int) ≠ 0) = True := eq_true (by omega)
  simp only [↓R1, R2, R3, R4, TY, reduceIte, Nat.reduceEqDiff, Nat.reduceAdd, Nat.reduceMul, Nat.reduceLT, Nat.reduceLeDiff, reduceCtorEq, decide_true, decide_false, Int.reduceLE, Int.reduceLT, Int.reduceToNat, Int.reduceAdd, Int.reduceSub, Int.reduceMul, Int.reduceEq, c0, c6, c6', hrow, w1, w2, w3, h6, Hp.get, Hp.push_blk]
  refine call_of (below_ok (by omega) (by omega) (by omega) (by omega)) ?_
  have w5 : IntKind.i64.wrap (below (x.tdiv 6) (16 * mden x + 1) - 8 * mden x) = mnum x := by rw [wrapI (by unfold mnum at hnr; omega)]; rfl
  obtain ⟨d, hde⟩ : ∃ d : Nat, mden x = (d : Int) := ⟨(mden x).toNat, by omega⟩
  simp only [↓R1, R2, R3, R4, TY, reduceIte, Nat.reduceEqDiff, Nat.reduceAdd, Nat.reduceMul, Nat.reduceLT, Nat.reduceLeDiff, reduceCtorEq, decide_true, decide_false, Int.reduceLE, Int.reduceLT, Int.reduceToNat, Int.reduceAdd, Int.reduceSub, Int.reduceMul, Int.reduceEq, w4, w5]
  have hm := fun A => mof_ok (G := G) (fl := fl) (A := A) (n := mnum x) (d := (mden x).toNat) (by omega) (by omega) (by omega) (by omega)
  rw [show (((mden x).toNat : Nat) : Int) = mden x by omega] at hm
  have hrb := ratV_rb A.next (mrat x)
  refine call_of (hm _) ?_
  have e : mkRat (mnum x) (mden x).toNat = mrat x := rfl
  rw [e]
  rw [ratV] at hrb ⊢
  simp only [↓R1, R2, R3, R4, TY, reduceIte, Nat.reduceEqDiff, Nat.reduceAdd, Nat.reduceMul, Nat.reduceLT, Nat.reduceLeDiff, reduceCtorEq, decide_true, decide_false, Int.reduceLE, Int.reduceLT, Int.reduceToNat, Int.reduceAdd, Int.reduceSub, Int.reduceMul, Int.reduceEq, hfl, NE]
  exact Ended.back hA ((((Xt.refl A).push _).push _).put (Nat.le_refl _) _) rfl hrb

theorem rmake_ok {m n : Int} (h1 : -1000000 ≤ m) (h2 : m ≤ 1000000) (h3 : -1000000 ≤ n) (h4 : n ≤ 1000000) (h0 : n ≠ 0) : Sound Tryd.prog G 37 [.int .i64 m, .int .i64 n] fl A (.tuple [ratV (rOf m / rOf n), Value.int .i64 0].toArray) A := by
  refine Sound.of mixed Tryd.func37 Tryd.ntmps37 Tryd.results37 (by kernel_rfl) rfl (by kernel_rfl) (by simp) fun hA => ?_
  have hfl : fl ≤ A.next := hA.floor
  have hrb := ratV_rb A.next (rOf m / rOf n)
  simp only [↓R1, R2, R3, R4, TY, reduceIte, Nat.reduceEqDiff, Nat.reduceAdd, Nat.reduceMul, Nat.reduceLT, Nat.reduceLeDiff, reduceCtorEq, decide_true, decide_false, Int.reduceLE, Int.reduceLT, Int.reduceToNat, Int.reduceAdd, Int.reduceSub, Int.reduceMul, Int.reduceEq]
  refine call_of (rof_ok (by omega) (by omega)) ?_
  simp only [↓R1, R2, R3, R4, TY, reduceIte, Nat.reduceEqDiff, Nat.reduceAdd, Nat.reduceMul, Nat.reduceLT, Nat.reduceLeDiff, reduceCtorEq, decide_true, decide_false, Int.reduceLE, Int.reduceLT, Int.reduceToNat, Int.reduceAdd, Int.reduceSub, Int.reduceMul, Int.reduceEq]
  refine call_of (rof_ok (by omega) (by omega)) ?_
  simp only [↓R1, R2, R3, R4, TY, reduceIte, Nat.reduceEqDiff, Nat.reduceAdd, Nat.reduceMul, Nat.reduceLT, Nat.reduceLeDiff, reduceCtorEq, decide_true, decide_false, Int.reduceLE, Int.reduceLT, Int.reduceToNat, Int.reduceAdd, Int.reduceSub, Int.reduceMul, Int.reduceEq]
  refine call_of (rdiv_ok (sz_of (k := 1000000) (by omega) (by omega)) (sz_of (k := 1000000) (by omega) (by omega)) (by omega) (by rw [rOf_num]; exact h0)) ?_
  rw [ratV_def (rOf m / rOf n)] at hrb ⊢
  simp only [↓R1, R2, R3, R4, TY, reduceIte, Nat.reduceEqDiff, Nat.reduceAdd, Nat.reduceMul, Nat.reduceLT, Nat.reduceLeDiff, reduceCtorEq, decide_true, decide_false, Int.reduceLE, Int.reduceLT, Int.reduceToNat, Int.reduceAdd, Int.reduceSub, Int.reduceMul, Int.reduceEq, hfl]
  refine Ended.back hA (((Xt.refl A).push _).put (Nat.le_refl _) _) rfl (RB.tuple fun w hw => ?_)
  simp only [List.mem_cons, List.not_mem_nil, or_false] at hw
  rcases hw with rfl | rfl
  · exact hrb
  · exact RB.int _ _

theorem rtext_ok {q : Rat} {k : Nat} (hq : Sz q k) (hb : k < 18446744073709551616) : Sound Tryd.prog G 44 [ratV q] fl A (.string (S (rtext q))) A := by
  refine Sound.of mixed Tryd.func44 Tryd.ntmps44 Tryd.results44 (by kernel_rfl) rfl (by kernel_rfl) (by simp) fun hA => ?_
  have hfl : fl ≤ A.next := hA.floor
  have fq := fun fl A => fit_ok (G := G) (fl := fl) (A := A) (q := q) (by have := hq.1; omega) (by have := hq.2; omega)
  have l1 : (nb q.num.natAbs).length ≤ 8 := nb8.2 (by have := hq.1; omega)
  have l2 : (nb q.den).length ≤ 8 := nb8.2 (by have := hq.2; omega)
  have hone : (nb q.den = [1]) = (q.den = 1) := by rw [← nb_one]; exact propext ⟨nb_inj, fun h => by rw [h]⟩
  have t1 : (dec q.num.natAbs).length ≤ 24 := by
    by_cases h : q.num.natAbs = 0
    · rw [h]; decide
    · rw [dec_len' h]; have := nb_dec_len l1; omega
  have t2 : (dec q.den).length ≤ 24 := by rw [dec_len' (rat_den_pos q)]; have := nb_dec_len l2; omega
  rw [ratV] at fq ⊢
  simp only [↓R1, R2, R3, R4, TY, reduceIte, Nat.reduceEqDiff, Nat.reduceAdd, Nat.reduceMul, Nat.reduceLT, Nat.reduceLeDiff, reduceCtorEq, decide_true, decide_false, Int.reduceLE, Int.reduceLT, Int.reduceToNat, Int.reduceAdd, Int.reduceSub, Int.reduceMul, Int.reduceEq, hfl]
  refine call_of (fq _ _) ?_
  simp only [↓R1, R2, R3, R4, TY, reduceIte, Nat.reduceEqDiff, Nat.reduceAdd, Nat.reduceMul, Nat.reduceLT, Nat.reduceLeDiff, reduceCtorEq, decide_true, decide_false, Int.reduceLE, Int.reduceLT, Int.reduceToNat, Int.reduceAdd, Int.reduceSub, Int.reduceMul, Int.reduceEq, hfl]
  refine call_of (textN (by omega)) ?_
  have fin : ∀ (x : List UInt8), x = rtext q → Ended A (.string (S x)) ((A.push (.row [.bool (decide (q.num < 0)), .string (S (nb q.num.natAbs)), .string (S (nb q.den))] 0 3)).put A.next (.row [.bool (decide (q.num < 0)), .string (S (nb q.num.natAbs)), .string (S (nb q.den))] 0 3)) (.string (S (rtext q))) A := by
    rintro x rfl
    exact Ended.back hA (((Xt.refl A).push _).put (Nat.le_refl _) _) rfl (RB.string _)
  have s1 : 1 + (dec q.num.natAbs).length ≤ 9223372036854775807 := by omega
  have s2 : 1 + (dec q.den).length ≤ 9223372036854775807 := by omega
  have s3 : (dec q.num.natAbs).length + ((dec q.den).length + 1) ≤ 9223372036854775807 := by omega
  have s4 : (dec q.num.natAbs).length + 1 + ((dec q.den).length + 1) ≤ 9223372036854775807 := by omega
  simp only [↓R1, R2, R3, R4, TY, reduceIte, Nat.reduceEqDiff, Nat.reduceAdd, Nat.reduceMul, Nat.reduceLT, Nat.reduceLeDiff, reduceCtorEq, decide_true, decide_false, Int.reduceLE, Int.reduceLT, Int.reduceToNat, Int.reduceAdd, Int.reduceSub, Int.reduceMul, Int.reduceEq, S_inj, hone, S_append, S_size, List.length_cons, List.length_nil, List.length_append, List.cons_append, List.nil_append, List.append_assoc, Nat.zero_add, s1, s2, s3, s4]
  refine ⟨fun hn => ⟨fun hd => fin _ (by rw [rtext, if_pos hn, if_pos hd]; simp), fun hd => ?_⟩, fun hn => ⟨fun hd => fin _ (by rw [rtext, if_neg hn, if_pos hd]; simp), fun hd => ?_⟩⟩
  · refine call_of (textN (by omega)) ?_
    simp only [↓R1, R2, R3, R4, TY, reduceIte, Nat.reduceEqDiff, Nat.reduceAdd, Nat.reduceMul, Nat.reduceLT, Nat.reduceLeDiff, reduceCtorEq, decide_true, decide_false, Int.reduceLE, Int.reduceLT, Int.reduceToNat, Int.reduceAdd, Int.reduceSub, Int.reduceMul, Int.reduceEq, S_inj, hone, S_append, S_size, List.length_cons, List.length_nil, List.length_append, List.cons_append, List.nil_append, List.append_assoc, Nat.zero_add, s1, s2, s3, s4]
    exact fin _ (by rw [rtext, if_pos hn, if_neg hd]; simp)
  · refine call_of (textN (by omega)) ?_
    simp only [↓R1, R2, R3, R4, TY, reduceIte, Nat.reduceEqDiff, Nat.reduceAdd, Nat.reduceMul, Nat.reduceLT, Nat.reduceLeDiff, reduceCtorEq, decide_true, decide_false, Int.reduceLE, Int.reduceLT, Int.reduceToNat, Int.reduceAdd, Int.reduceSub, Int.reduceMul, Int.reduceEq, S_inj, hone, S_append, S_size, List.length_cons, List.length_nil, List.length_append, List.cons_append, List.nil_append, List.append_assoc, Nat.zero_add, s1, s2, s3, s4]
    exact fin _ (by rw [rtext, if_neg hn, if_neg hd]; simp)

theorem ratBegun_ok : Sound Tryd.prog G 22 [] fl A (.bool true) A := by
  refine Sound.of mixed Tryd.func22 Tryd.ntmps22 Tryd.results22 (by kernel_rfl) rfl (by kernel_rfl) (by simp) fun hA => ?_
  have hfl : fl ≤ A.next := hA.floor
  have hQ : rOf 2 / rOf (-4) = mkRat (-1) 2 := by decide +kernel
  have hn : (mkRat (-1) 2).num = -1 := by decide +kernel
  have hd : (mkRat (-1) 2).den = 2 := by decide +kernel
  have ht : rtext (mkRat (-1) 2) = [45, 49, 47, 50] := by
    have d1 : dec 1 = [49] := by rw [dec, if_neg (by omega), dl_pos (by omega), show 1 / 10 = 0 from rfl, dl_zero]; rfl
    have d2 : dec 2 = [50] := by rw [dec, if_neg (by omega), dl_pos (by omega), show 2 / 10 = 0 from rfl, dl_zero]; rfl
    rw [rtext, hn, hd, if_pos (by omega), if_neg (by omega), show ((-1 : Int).natAbs) = 1 from rfl, d1, d2]; rfl
  have hsz : Sz (mkRat (-1) 2) 2 := ⟨by rw [hn]; decide, by rw [hd]; omega⟩
  have htx := fun fl A => rtext_ok (G := G) (fl := fl) (A := A) hsz (by omega)
  have hgd := fun fl A => good_ok (G := G) (fl := fl) (A := A) (q := mkRat (-1) 2) (by rw [hn]; decide) (by rw [hd]; omega)
  simp only [↓R1, R2, R3, R4, TY, reduceIte, Nat.reduceEqDiff, Nat.reduceAdd, Nat.reduceMul, Nat.reduceLT, Nat.reduceLeDiff, reduceCtorEq, decide_true, decide_false, Int.reduceLE, Int.reduceLT, Int.reduceToNat, Int.reduceAdd, Int.reduceSub, Int.reduceMul, Int.reduceEq]
  refine call_of (rmake_ok (by omega) (by omega) (by omega) (by omega) (by omega)) ?_
  rw [hQ]
  rw [ht] at htx
  rw [ratV_def] at htx hgd ⊢
  simp only [↓R1, R2, R3, R4, TY, reduceIte, Nat.reduceEqDiff, Nat.reduceAdd, Nat.reduceMul, Nat.reduceLT, Nat.reduceLeDiff, reduceCtorEq, decide_true, decide_false, Int.reduceLE, Int.reduceLT, Int.reduceToNat, Int.reduceAdd, Int.reduceSub, Int.reduceMul, Int.reduceEq, hfl, append_eq, List.cons_append, List.nil_append]
  refine call_of (htx _ _) ?_
  simp only [↓R1, R2, R3, R4, TY, reduceIte, Nat.reduceEqDiff, Nat.reduceAdd, Nat.reduceMul, Nat.reduceLT, Nat.reduceLeDiff, reduceCtorEq, decide_true, decide_false, Int.reduceLE, Int.reduceLT, Int.reduceToNat, Int.reduceAdd, Int.reduceSub, Int.reduceMul, Int.reduceEq, hfl, append_eq, List.cons_append, List.nil_append]
  refine call_of (hgd _ _) ?_
  simp only [↓R1, R2, R3, R4, TY, reduceIte, Nat.reduceEqDiff, Nat.reduceAdd, Nat.reduceMul, Nat.reduceLT, Nat.reduceLeDiff, reduceCtorEq, decide_true, decide_false, Int.reduceLE, Int.reduceLT, Int.reduceToNat, Int.reduceAdd, Int.reduceSub, Int.reduceMul, Int.reduceEq, hfl, append_eq, List.cons_append, List.nil_append]
  exact Ended.back hA (((Xt.refl A).push _).put (Nat.le_refl _) _) rfl (RB.bool _)
end
end Go.Proofs.YtpaffoiiipgkeaaDoor.Ab
