/- Rational numbers of any size: the contracts anew. -/
import Derived.Test.YtjkimjmocfjjnaaDoorPg
import Derived.Test.YtjkimjmocfjjnaaDoorRf
import Derived.Test.YtjkimjmocfjjnaaDoorRi
namespace Go.Proofs.YtjkimjmocfjjnaaDoor.Ab
open Go.RowKit
set_option linter.unusedVariables false
set_option linter.unusedSimpArgs false
set_option maxRecDepth 100000

/-- Numerator and denominator have at most k bytes. -/
def Rz (q : Rat) (k : Nat) : Prop := (nb q.num.natAbs).length ≤ k ∧ (nb q.den).length ≤ k
theorem nb_len_pos {n : Nat} (h : n ≠ 0) : 1 ≤ (nb n).length := by
  have := mt nb_eq_nil.1 h
  cases hn : nb n with
  | nil => exact absurd hn this
  | cons b l => simp
theorem Rz.mk {n : Int} {d k : Nat} (h1 : (nb n.natAbs).length ≤ k) (h2 : (nb d).length ≤ k) (hk : 1 ≤ k) : Rz (mkRat n d) k := by
  constructor
  · rw [Rat.num_mkRat]
    split
    · simp [nb_zero]
    · have h : (Nat.gcd d n.natAbs : Int) ∣ n := Int.dvd_natAbs.1 (Int.natCast_dvd_natCast.2 (Nat.gcd_dvd_right d n.natAbs))
      rw [Int.natAbs_ediv_of_dvd h]
      exact nb_len_le' (Nat.div_le_self _ _) h1
  · rw [Rat.den_mkRat]
    split
    · rw [nb_one]; exact hk
    · exact nb_len_le' (Nat.div_le_self _ _) h2
theorem Rz.mono {q : Rat} {j k : Nat} (h : Rz q j) (hk : j ≤ k) : Rz q k := ⟨Nat.le_trans h.1 hk, Nat.le_trans h.2 hk⟩
theorem Rz.pos {q : Rat} {k : Nat} (h : Rz q k) : 1 ≤ k := Nat.le_trans (nb_len_pos (rat_den_pos q)) h.2
theorem Sz.rz {q : Rat} {j k : Nat} (h : Sz q j) (hj : (nb j).length ≤ k) : Rz q k := ⟨nb_len_le' h.1 hj, nb_len_le' h.2 hj⟩
theorem Rz.add {p q : Rat} {j k : Nat} (hp : Rz p j) (hq : Rz q k) : Rz (p + q) (j + k + 1) := by
  rw [Rat.add_def']
  have a1 := nb_len_mul hp.1 hq.2
  have a2 := nb_len_mul hq.1 hp.2
  have a3 := nb_len_mul hp.2 hq.2
  refine Rz.mk (nb_len_le' (n := p.num.natAbs * q.den + q.num.natAbs * p.den) ?_ (nb_len_add a1 (by omega))) (by omega) (by omega)
  refine Nat.le_trans (Int.natAbs_add_le _ _) ?_
  rw [Int.natAbs_mul, Int.natAbs_mul]; simp
theorem Rz.mul {p q : Rat} {j k : Nat} (hp : Rz p j) (hq : Rz q k) : Rz (p * q) (j + k) := by
  rw [Rat.mul_def']
  have := hp.pos
  refine Rz.mk ?_ (nb_len_mul hp.2 hq.2) (by omega)
  rw [Int.natAbs_mul]; exact nb_len_mul hp.1 hq.1
theorem Rz.neg {q : Rat} {k : Nat} (h : Rz q k) : Rz (-q) k := ⟨by rw [Rat.neg_num, Int.natAbs_neg]; exact h.1, h.2⟩
theorem Rz.sub {p q : Rat} {j k : Nat} (hp : Rz p j) (hq : Rz q k) : Rz (p - q) (j + k + 1) := by
  rw [Rat.sub_eq_add_neg]; exact hp.add hq.neg
theorem Rz.div {p q : Rat} {j k : Nat} (hp : Rz p j) (hq : Rz q k) (h0 : q.num ≠ 0) : Rz (p / q) (j + k) := by
  rw [← div_val h0]
  have := hp.pos
  refine Rz.mk ?_ (nb_len_mul hp.2 hq.1) (by omega)
  rw [sgn_abs]; exact nb_len_mul hp.1 hq.2
theorem Rz.abs {q : Rat} {k : Nat} (h : Rz q k) : Rz (rabs q) k := by unfold rabs; split; exact h.neg; exact h
theorem Rz.min {p q : Rat} {k : Nat} (hp : Rz p k) (hq : Rz q k) : Rz (rmin p q) k := by unfold rmin; split; exact hp; exact hq
theorem Rz.max {p q : Rat} {k : Nat} (hp : Rz p k) (hq : Rz q k) : Rz (rmax p q) k := by unfold rmax; split; exact hp; exact hq

section
variable {G : Gl} {fl : Nat} {A : Hp}

theorem qgood {q : Rat} (hG : G 1 = some tabV) (h1 : (nb q.num.natAbs).length ≤ 40000000000) (h2 : (nb q.den).length ≤ 40000000000) : Sound Tryd.prog G 87 [ratV q] fl A (.bool true) A := by
  refine Sound.of mixed Tryd.func87 Tryd.ntmps87 Tryd.results87 (by kernel_rfl) rfl (by kernel_rfl) (by kernel_rfl) fun hA => ?_
  rw [ratV]
  have hd := rat_den_pos q
  have hg := rat_gcd q
  have hfl : fl ≤ A.next := hA.floor
  have hdf : (q.den = 0) = False := eq_false hd
  obtain ⟨b, l, hbl, hb0⟩ := nb_head_of hd
  have hlen : ((0 : Int) < ((nb q.den).length : Nat)) = True := eq_true (by rw [hbl]; simp)
  have hbyte : byteAt (S (nb q.den)) 0 = ((b.toNat : Nat) : Int) := by rw [hbl]; rfl
  have hbz : (((b.toNat : Nat) : Int) = 0) = False := eq_false hb0
  by_cases hn : q.num.natAbs = 0
  · have hn0 : q.num = 0 := by omega
    have hneg : decide (q.num < 0) = false := by rw [hn0]; rfl
    have hden : nb q.den = [1] := by rw [rat_num0 hn0, nb_one]
    have hneg2 : (q.num < 0) = False := eq_false (by omega)
    rw [hneg]
    rw [hden] at hbyte hlen ⊢
    have hlen1 : ((0 : Int) < ((1 : Nat) : Int)) = True := eq_true (by decide)
    simp only [↓R1, R2, R3, R4, TY, reduceIte, Nat.reduceEqDiff, Nat.reduceAdd, Nat.reduceMul, Nat.reduceLT, Nat.reduceLeDiff, reduceCtorEq, decide_true, decide_false, Int.reduceLE, Int.reduceLT, Int.reduceToNat, Int.reduceAdd, Int.reduceSub, Int.reduceMul, Int.reduceEq, append_eq, List.cons_append, List.nil_append, S_inj, nb_nil_eq, S_size, hlen1, hbyte, hbz, hn, hneg2]
    exact Ended.back hA ((Xt.refl A).push _) rfl (RB.bool _)
  · have hnf : (q.num.natAbs = 0) = False := eq_false hn
    obtain ⟨c, k, hck, hc0⟩ := nb_head_of hn
    have hlen2 : ((0 : Int) < ((nb q.num.natAbs).length : Nat)) = True := eq_true (by rw [hck]; simp)
    have hbyte2 : byteAt (S (nb q.num.natAbs)) 0 = ((c.toNat : Nat) : Int) := by rw [hck]; rfl
    have hcz : (((c.toNat : Nat) : Int) = 0) = False := eq_false hc0
    simp only [↓R1, R2, R3, R4, TY, reduceIte, Nat.reduceEqDiff, Nat.reduceAdd, Nat.reduceMul, Nat.reduceLT, Nat.reduceLeDiff, reduceCtorEq, decide_true, decide_false, Int.reduceLE, Int.reduceLT, Int.reduceToNat, Int.reduceAdd, Int.reduceSub, Int.reduceMul, Int.reduceEq, append_eq, List.cons_append, List.nil_append, S_inj, nb_nil_eq, S_size, hdf, hlen, hbyte, hbz, hnf, hlen2, hbyte2, hcz]
    refine ⟨fun h => Ended.back hA (by simp (maxDischargeDepth := 20) only [xt_push, xt_refl]) rfl (RB.bool _), fun h => ?_⟩
    refine call_of (gcdG hG h1 h2) ?_
    rw [hg]
    simp only [↓R1, R2, R3, R4, TY, reduceIte, Nat.reduceEqDiff, Nat.reduceAdd, Nat.reduceMul, Nat.reduceLT, Nat.reduceLeDiff, reduceCtorEq, decide_true, decide_false, Int.reduceLE, Int.reduceLT, Int.reduceToNat, Int.reduceAdd, Int.reduceSub, Int.reduceMul, Int.reduceEq, S_inj, nb_one]
    exact Ended.back hA (by simp (maxDischargeDepth := 20) only [xt_push, xt_refl]) rfl (RB.bool _)


theorem qfit {q : Rat} (hG : G 1 = some tabV) (h1 : (nb q.num.natAbs).length ≤ 40000000000) (h2 : (nb q.den).length ≤ 40000000000) : Sound Tryd.prog G 57 [ratV q] fl A (ratV q) A := by
  refine Sound.of mixed Tryd.func57 Tryd.ntmps57 Tryd.results57 (by kernel_rfl) rfl (by kernel_rfl) (by kernel_rfl) fun hA => ?_
  have hg := fun A => qgood (G := G) (fl := fl) (A := A) hG h1 h2
  have hfl : fl ≤ A.next := hA.floor
  have hfl1 : fl ≤ A.next + 1 := by omega
  rw [ratV] at hg ⊢
  simp only [↓R1, R2, R3, R4, TY, reduceIte, Nat.reduceEqDiff, Nat.reduceAdd, Nat.reduceMul, Nat.reduceLT, Nat.reduceLeDiff, reduceCtorEq, decide_true, decide_false, Int.reduceLE, Int.reduceLT, Int.reduceToNat, Int.reduceAdd, Int.reduceSub, Int.reduceMul, Int.reduceEq, hfl, hfl1]
  refine call_of (hg _) ?_
  simp only [↓R1, R2, R3, R4, TY, reduceIte, Nat.reduceEqDiff, Nat.reduceAdd, Nat.reduceMul, Nat.reduceLT, Nat.reduceLeDiff, reduceCtorEq, decide_true, decide_false, Int.reduceLE, Int.reduceLT, Int.reduceToNat, Int.reduceAdd, Int.reduceSub, Int.reduceMul, Int.reduceEq, hfl, hfl1]
  refine Ended.back hA (by simp (maxDischargeDepth := 20) only [xt_push, xt_put, xt_refl, Nat.le_refl, Nat.le_add_right]) rfl (ratV_rb _ q)


theorem qmade {neg : Bool} {m d : Nat} (hG : G 1 = some tabV) (hd : d ≠ 0) (h1 : (nb m).length ≤ 40000000000) (h2 : (nb d).length ≤ 40000000000) :
    Sound Tryd.prog G 65 [.bool neg, .string (S (nb m)), .string (S (nb d))] fl A (ratV (mkRat (sgn neg m) d)) A := by
  refine Sound.of mixed Tryd.func65 Tryd.ntmps65 Tryd.results65 (by kernel_rfl) rfl (by kernel_rfl) (by kernel_rfl) fun hA => ?_
  have hfl : fl ≤ A.next := hA.floor
  have hone : (nb d = [1]) = (d = 1) := by rw [← nb_one]; exact propext ⟨nb_inj, fun h => by rw [h]⟩
  have hg1 : (nb (Nat.gcd m d) = [1]) = (Nat.gcd m d = 1) := by rw [← nb_one]; exact propext ⟨nb_inj, fun h => by rw [h]⟩
  have hgd : Nat.gcd m d ≠ 0 := fun h => hd (Nat.eq_zero_of_gcd_eq_zero_right h)
  have lgd := nb_len_le' (Nat.gcd_le_right m (by omega : 0 < d)) h2
  simp only [↓R1, R2, R3, R4, TY, reduceIte, Nat.reduceEqDiff, Nat.reduceAdd, Nat.reduceMul, Nat.reduceLT, Nat.reduceLeDiff, reduceCtorEq, decide_true, decide_false, Int.reduceLE, Int.reduceLT, Int.reduceToNat, Int.reduceAdd, Int.reduceSub, Int.reduceMul, Int.reduceEq, S_inj, nb_nil_eq, hone]
  refine ⟨fun h => ?_, fun h => ?_⟩
  · refine call_of zero_ok ?_
    have e : ratV 0 = .agg #[.bool false, .string (S (nb 0)), .string (S (nb 1))] := rfl
    have e2 : mkRat (sgn neg m) d = 0 := by rw [h]; unfold sgn; split <;> simp
    rw [e2, e]
    simp only [↓R1, R2, R3, R4, TY, reduceIte, Nat.reduceEqDiff, Nat.reduceAdd, Nat.reduceMul, Nat.reduceLT, Nat.reduceLeDiff, reduceCtorEq, decide_true, decide_false, Int.reduceLE, Int.reduceLT, Int.reduceToNat, Int.reduceAdd, Int.reduceSub, Int.reduceMul, Int.reduceEq, hfl]
    exact Ended.back hA (by simp (maxDischargeDepth := 20) only [xt_push, xt_put, xt_refl, Nat.le_refl]) rfl (ratV_rb _ 0)
  have hend : ∀ (a b : Nat) (B : Hp), Xt A.next A B → a = m / Nat.gcd m d → b = d / Nat.gcd m d → Ended A (.agg #[.bool neg, .string (S (nb a)), .string (S (nb b))]) B (ratV (mkRat (sgn neg m) d)) A := by
    rintro a b B hx rfl rfl
    refine Ended.back hA hx ?_ (ratV_rb _ _)
    have hpos : 0 < m / Nat.gcd m d := Nat.div_pos (Nat.gcd_le_left _ (by omega)) (by omega)
    rw [ratV, mk_num hd, mk_den hd, sgn_abs]
    have : decide (sgn neg (m / Nat.gcd m d) < 0) = neg := by unfold sgn; cases neg <;> simp <;> omega
    rw [this]
  have hx1 : Xt A.next A ((A.push (.row [.bool false, .string (S []), .string (S [])] 0 3)).put A.next (.row [.bool neg, .string (S (nb m)), .string (S (nb d))] 0 3)) := by simp (maxDischargeDepth := 20) only [xt_push, xt_put, xt_refl, Nat.le_refl]
  refine ⟨fun h3 => ?_, fun h3 => ?_⟩
  · simp only [↓R1, R2, R3, R4, TY, reduceIte, Nat.reduceEqDiff, Nat.reduceAdd, Nat.reduceMul, Nat.reduceLT, Nat.reduceLeDiff, reduceCtorEq, decide_true, decide_false, Int.reduceLE, Int.reduceLT, Int.reduceToNat, Int.reduceAdd, Int.reduceSub, Int.reduceMul, Int.reduceEq, hfl]
    exact hend m d _ hx1 (by rw [h3]; simp) (by rw [h3]; simp)
  · refine call_of (gcdG hG h1 h2) ?_
    simp only [↓R1, R2, R3, R4, TY, reduceIte, Nat.reduceEqDiff, Nat.reduceAdd, Nat.reduceMul, Nat.reduceLT, Nat.reduceLeDiff, reduceCtorEq, decide_true, decide_false, Int.reduceLE, Int.reduceLT, Int.reduceToNat, Int.reduceAdd, Int.reduceSub, Int.reduceMul, Int.reduceEq, S_inj, hg1]
    refine ⟨fun h4 => ?_, fun h4 => ?_⟩
    · simp only [↓R1, R2, R3, R4, TY, reduceIte, Nat.reduceEqDiff, Nat.reduceAdd, Nat.reduceMul, Nat.reduceLT, Nat.reduceLeDiff, reduceCtorEq, decide_true, decide_false, Int.reduceLE, Int.reduceLT, Int.reduceToNat, Int.reduceAdd, Int.reduceSub, Int.reduceMul, Int.reduceEq, hfl]
      exact hend m d _ hx1 (by rw [h4]; simp) (by rw [h4]; simp)
    · refine call_of (divG h1 lgd hgd) ?_
      simp only [↓R1, R2, R3, R4, TY, reduceIte, Nat.reduceEqDiff, Nat.reduceAdd, Nat.reduceMul, Nat.reduceLT, Nat.reduceLeDiff, reduceCtorEq, decide_true, decide_false, Int.reduceLE, Int.reduceLT, Int.reduceToNat, Int.reduceAdd, Int.reduceSub, Int.reduceMul, Int.reduceEq]
      refine call_of (divG h2 lgd hgd) ?_
      simp only [↓R1, R2, R3, R4, TY, reduceIte, Nat.reduceEqDiff, Nat.reduceAdd, Nat.reduceMul, Nat.reduceLT, Nat.reduceLeDiff, reduceCtorEq, decide_true, decide_false, Int.reduceLE, Int.reduceLT, Int.reduceToNat, Int.reduceAdd, Int.reduceSub, Int.reduceMul, Int.reduceEq, hfl]
      exact hend _ _ _ (by simp (maxDischargeDepth := 20) only [xt_push, xt_put, xt_refl, Nat.le_refl]) rfl rfl

theorem qadd {p q : Rat} {j k : Nat} (hG : G 1 = some tabV) (hp : Rz p j) (hq : Rz q k) (hb : j + k ≤ 30000000000) : Sound Tryd.prog G 29 [ratV p, ratV q] fl A (ratV (p + q)) A := by
  refine Sound.of mixed Tryd.func29 Tryd.ntmps29 Tryd.results29 (by kernel_rfl) rfl (by kernel_rfl) (by kernel_rfl) fun hA => ?_
  obtain ⟨p1, p2⟩ := id hp
  obtain ⟨q1, q2⟩ := id hq
  have hj := hp.pos
  have hk := hq.pos
  have n1 := nb_len_mul p1 q2
  have n2 := nb_len_mul q1 p2
  have n3 := nb_len_mul p2 q2
  have fp := fun fl A => qfit (G := G) (fl := fl) (A := A) (q := p) hG (by omega) (by omega)
  have fq := fun fl A => qfit (G := G) (fl := fl) (A := A) (q := q) hG (by omega) (by omega)
  have hfl : fl ≤ A.next := hA.floor
  have hfl1 : fl ≤ A.next + 1 := by omega
  have hfl2 : fl ≤ A.next + 2 := by omega
  have hpd := rat_den_pos p
  have hqd := rat_den_pos q
  rw [ratV, ratV] at *
  simp only [↓R1, R2, R3, R4, TY, reduceIte, Nat.reduceEqDiff, Nat.reduceAdd, Nat.reduceMul, Nat.reduceLT, Nat.reduceLeDiff, reduceCtorEq, decide_true, decide_false, Int.reduceLE, Int.reduceLT, Int.reduceToNat, Int.reduceAdd, Int.reduceSub, Int.reduceMul, Int.reduceEq, hfl, hfl1, hfl2]
  refine call_of (fp _ _) ?_
  simp only [↓R1, R2, R3, R4, TY, reduceIte, Nat.reduceEqDiff, Nat.reduceAdd, Nat.reduceMul, Nat.reduceLT, Nat.reduceLeDiff, reduceCtorEq, decide_true, decide_false, Int.reduceLE, Int.reduceLT, Int.reduceToNat, Int.reduceAdd, Int.reduceSub, Int.reduceMul, Int.reduceEq, hfl, hfl1, hfl2]
  refine call_of (fq _ _) ?_
  simp only [↓R1, R2, R3, R4, TY, reduceIte, Nat.reduceEqDiff, Nat.reduceAdd, Nat.reduceMul, Nat.reduceLT, Nat.reduceLeDiff, reduceCtorEq, decide_true, decide_false, Int.reduceLE, Int.reduceLT, Int.reduceToNat, Int.reduceAdd, Int.reduceSub, Int.reduceMul, Int.reduceEq, hfl, hfl1, hfl2]
  rw [floOf_wr (by kernel_rfl)]
  simp only [↓R1, R2, R3, R4, TY, reduceIte, Nat.reduceEqDiff, Nat.reduceAdd, Nat.reduceMul, Nat.reduceLT, Nat.reduceLeDiff, reduceCtorEq, decide_true, decide_false, Int.reduceLE, Int.reduceLT, Int.reduceToNat, Int.reduceAdd, Int.reduceSub, Int.reduceMul, Int.reduceEq, hfl, hfl1, hfl2, NE]
  rw [floOf_wr (by kernel_rfl)]
  simp only [↓R1, R2, R3, R4, TY, reduceIte, Nat.reduceEqDiff, Nat.reduceAdd, Nat.reduceMul, Nat.reduceLT, Nat.reduceLeDiff, reduceCtorEq, decide_true, decide_false, Int.reduceLE, Int.reduceLT, Int.reduceToNat, Int.reduceAdd, Int.reduceSub, Int.reduceMul, Int.reduceEq, hfl, hfl1, hfl2, NE, S_nb]
  generalize hB : Hp.put _ _ _ = B
  have hBn : B.next = A.next + 3 := by rw [← hB]; rfl
  have hBx : Xt A.next A B := by rw [← hB]; exact (((((Xt.refl A).push _).push _).push _).put (Nat.le_refl _) _).put (by omega) _
  have hBr : B.blk (A.next + 2) = some (.row [.bool false, .string (S []), .string (S [])] 0 3) := by rw [← hB]; simp [Hp.put_blk, Hp.push_blk]
  have g0 : B.get G ⟨A.next, 0, some 0⟩ = some (.bool (decide (p.num < 0))) := by rw [← hB]; simp [Hp.get, Hp.put_blk, Hp.push_blk]
  have g1 : B.get G ⟨A.next, 1, some 0⟩ = some (.string (S (nb p.num.natAbs))) := by rw [← hB]; simp [Hp.get, Hp.put_blk, Hp.push_blk]
  have g2 : B.get G ⟨A.next, 2, some 0⟩ = some (.string (S (nb p.den))) := by rw [← hB]; simp [Hp.get, Hp.put_blk, Hp.push_blk]
  have g3 : B.get G ⟨A.next + 1, 0, some 0⟩ = some (.bool (decide (q.num < 0))) := by rw [← hB]; simp [Hp.get, Hp.put_blk, Hp.push_blk]
  have g4 : B.get G ⟨A.next + 1, 1, some 0⟩ = some (.string (S (nb q.num.natAbs))) := by rw [← hB]; simp [Hp.get, Hp.put_blk, Hp.push_blk]
  have g5 : B.get G ⟨A.next + 1, 2, some 0⟩ = some (.string (S (nb q.den))) := by rw [← hB]; simp [Hp.get, Hp.put_blk, Hp.push_blk]
  have hend : ∀ (r : Rat) (cs : List Value), r = p + q → Ended A (ratV r) (B.put (A.next + 2) (.row cs 0 3)) (ratV (p + q)) A := by
    rintro r cs rfl
    exact Ended.back hA (hBx.put (by omega) _) rfl (ratV_rb _ _)
  refine ⟨fun he => ?_, fun he => ?_⟩
  · have l1 := p1
    have l2 := q1
    refine call_of (signed_ok (by omega) (by omega)) ?_
    have hle := nb_len_le' (signedR_le (decide (p.num < 0)) p.num.natAbs (decide (q.num < 0)) q.num.natAbs) (nb_len_add (k := j + k) (by omega) (by omega))
    have hsum := sgn_signedR (decide (p.num < 0)) p.num.natAbs (decide (q.num < 0)) q.num.natAbs
    rw [sgn_num, sgn_num] at hsum
    simp only [↓R1, R2, R3, R4, TY, reduceIte, Nat.reduceEqDiff, Nat.reduceAdd, Nat.reduceMul, Nat.reduceLT, Nat.reduceLeDiff, reduceCtorEq, decide_true, decide_false, Int.reduceLE, Int.reduceLT, Int.reduceToNat, Int.reduceAdd, Int.reduceSub, Int.reduceMul, Int.reduceEq, g2]
    refine call_of (qmade hG hpd (by omega) (by omega)) ?_
    rw [hsum]
    have hr : mkRat (p.num + q.num) p.den = p + q := by
      rw [Rat.add_def', ← he, ← Int.add_mul, Rat.mkRat_mul_right hpd]
    rw [hr]
    have hv := hend (p + q)
    rw [ratV] at hv ⊢
    simp only [↓R1, R2, R3, R4, TY, reduceIte, Nat.reduceEqDiff, Nat.reduceAdd, Nat.reduceMul, Nat.reduceLT, Nat.reduceLeDiff, reduceCtorEq, decide_true, decide_false, Int.reduceLE, Int.reduceLT, Int.reduceToNat, Int.reduceAdd, Int.reduceSub, Int.reduceMul, Int.reduceEq, hBr, hfl2]
    exact hv _ rfl
  · have l1 := p1
    have l2 := q1
    have l3 := p2
    have l4 := q2
    refine call_of (mulN (by omega) (by omega)) ?_
    simp only [↓R1, R2, R3, R4, TY, reduceIte, Nat.reduceEqDiff, Nat.reduceAdd, Nat.reduceMul, Nat.reduceLT, Nat.reduceLeDiff, reduceCtorEq, decide_true, decide_false, Int.reduceLE, Int.reduceLT, Int.reduceToNat, Int.reduceAdd, Int.reduceSub, Int.reduceMul, Int.reduceEq, g0, g1, g2, g3, g4, g5]
    refine call_of (mulN (by omega) (by omega)) ?_
    simp only [↓R1, R2, R3, R4, TY, reduceIte, Nat.reduceEqDiff, Nat.reduceAdd, Nat.reduceMul, Nat.reduceLT, Nat.reduceLeDiff, reduceCtorEq, decide_true, decide_false, Int.reduceLE, Int.reduceLT, Int.reduceToNat, Int.reduceAdd, Int.reduceSub, Int.reduceMul, Int.reduceEq, g0, g1, g2, g3, g4, g5]
    have l5 := nb_len_mul l1 l4
    have l6 := nb_len_mul l2 l3
    refine call_of (signed_ok (by omega) (by omega)) ?_
    have hle := nb_len_le' (signedR_le (decide (p.num < 0)) (p.num.natAbs * q.den) (decide (q.num < 0)) (q.num.natAbs * p.den)) (nb_len_add (k := j + k) (by omega) (by omega))
    have hsum := sgn_signedR (decide (p.num < 0)) (p.num.natAbs * q.den) (decide (q.num < 0)) (q.num.natAbs * p.den)
    rw [sgn_mul, sgn_mul, sgn_num, sgn_num] at hsum
    simp only [↓R1, R2, R3, R4, TY, reduceIte, Nat.reduceEqDiff, Nat.reduceAdd, Nat.reduceMul, Nat.reduceLT, Nat.reduceLeDiff, reduceCtorEq, decide_true, decide_false, Int.reduceLE, Int.reduceLT, Int.reduceToNat, Int.reduceAdd, Int.reduceSub, Int.reduceMul, Int.reduceEq, g0, g1, g2, g3, g4, g5]
    refine call_of (mulN (by omega) (by omega)) ?_
    simp only [↓R1, R2, R3, R4, TY, reduceIte, Nat.reduceEqDiff, Nat.reduceAdd, Nat.reduceMul, Nat.reduceLT, Nat.reduceLeDiff, reduceCtorEq, decide_true, decide_false, Int.reduceLE, Int.reduceLT, Int.reduceToNat, Int.reduceAdd, Int.reduceSub, Int.reduceMul, Int.reduceEq, g0, g1, g2, g3, g4, g5]
    refine call_of (qmade hG (Nat.mul_ne_zero hpd hqd) (by omega) (by omega)) ?_
    rw [hsum, ← Rat.add_def']
    have hv := hend (p + q)
    rw [ratV] at hv ⊢
    simp only [↓R1, R2, R3, R4, TY, reduceIte, Nat.reduceEqDiff, Nat.reduceAdd, Nat.reduceMul, Nat.reduceLT, Nat.reduceLeDiff, reduceCtorEq, decide_true, decide_false, Int.reduceLE, Int.reduceLT, Int.reduceToNat, Int.reduceAdd, Int.reduceSub, Int.reduceMul, Int.reduceEq, hBr, hfl2]
    exact hv _ rfl

theorem qmul {p q : Rat} {j k : Nat} (hG : G 1 = some tabV) (hp : Rz p j) (hq : Rz q k) (hb : j + k ≤ 30000000000) : Sound Tryd.prog G 27 [ratV p, ratV q] fl A (ratV (p * q)) A := by
  refine Sound.of mixed Tryd.func27 Tryd.ntmps27 Tryd.results27 (by kernel_rfl) rfl (by kernel_rfl) (by kernel_rfl) fun hA => ?_
  obtain ⟨p1, p2⟩ := id hp
  obtain ⟨q1, q2⟩ := id hq
  have hj := hp.pos
  have hk := hq.pos
  have n1 := nb_len_mul p1 q2
  have n2 := nb_len_mul q1 p2
  have n3 := nb_len_mul p2 q2
  have n4 := nb_len_mul p1 q1
  have n5 := nb_len_mul p2 q1
  have fp := fun fl A => qfit (G := G) (fl := fl) (A := A) (q := p) hG (by omega) (by omega)
  have fq := fun fl A => qfit (G := G) (fl := fl) (A := A) (q := q) hG (by omega) (by omega)
  have hfl : fl ≤ A.next := hA.floor
  have hfl1 : fl ≤ A.next + 1 := by omega
  have hfl2 : fl ≤ A.next + 2 := by omega
  have hpd := rat_den_pos p
  have hqd := rat_den_pos q
  have l1 := p1
  have l2 := q1
  have l3 := p2
  have l4 := q2
  rw [ratV, ratV] at *
  simp only [↓R1, R2, R3, R4, TY, reduceIte, Nat.reduceEqDiff, Nat.reduceAdd, Nat.reduceMul, Nat.reduceLT, Nat.reduceLeDiff, reduceCtorEq, decide_true, decide_false, Int.reduceLE, Int.reduceLT, Int.reduceToNat, Int.reduceAdd, Int.reduceSub, Int.reduceMul, Int.reduceEq, hfl, hfl1, hfl2]
  refine call_of (fp _ _) ?_
  simp only [↓R1, R2, R3, R4, TY, reduceIte, Nat.reduceEqDiff, Nat.reduceAdd, Nat.reduceMul, Nat.reduceLT, Nat.reduceLeDiff, reduceCtorEq, decide_true, decide_false, Int.reduceLE, Int.reduceLT, Int.reduceToNat, Int.reduceAdd, Int.reduceSub, Int.reduceMul, Int.reduceEq, hfl, hfl1, hfl2]
  refine call_of (fq _ _) ?_
  simp only [↓R1, R2, R3, R4, TY, reduceIte, Nat.reduceEqDiff, Nat.reduceAdd, Nat.reduceMul, Nat.reduceLT, Nat.reduceLeDiff, reduceCtorEq, decide_true, decide_false, Int.reduceLE, Int.reduceLT, Int.reduceToNat, Int.reduceAdd, Int.reduceSub, Int.reduceMul, Int.reduceEq, hfl, hfl1, hfl2]
  rw [floOf_wr (by kernel_rfl)]
  simp only [↓R1, R2, R3, R4, TY, reduceIte, Nat.reduceEqDiff, Nat.reduceAdd, Nat.reduceMul, Nat.reduceLT, Nat.reduceLeDiff, reduceCtorEq, decide_true, decide_false, Int.reduceLE, Int.reduceLT, Int.reduceToNat, Int.reduceAdd, Int.reduceSub, Int.reduceMul, Int.reduceEq, hfl, hfl1, hfl2, NE]
  rw [floOf_wr (by kernel_rfl)]
  simp only [↓R1, R2, R3, R4, TY, reduceIte, Nat.reduceEqDiff, Nat.reduceAdd, Nat.reduceMul, Nat.reduceLT, Nat.reduceLeDiff, reduceCtorEq, decide_true, decide_false, Int.reduceLE, Int.reduceLT, Int.reduceToNat, Int.reduceAdd, Int.reduceSub, Int.reduceMul, Int.reduceEq, hfl, hfl1, hfl2, NE, S_nb]
  generalize hB : Hp.put _ _ _ = B
  have hBn : B.next = A.next + 3 := by rw [← hB]; rfl
  have hBx : Xt A.next A B := by rw [← hB]; exact (((((Xt.refl A).push _).push _).push _).put (Nat.le_refl _) _).put (by omega) _
  have hBr : B.blk (A.next + 2) = some (.row [.bool false, .string (S []), .string (S [])] 0 3) := by rw [← hB]; simp [Hp.put_blk, Hp.push_blk]
  have g0 : B.get G ⟨A.next, 0, some 0⟩ = some (.bool (decide (p.num < 0))) := by rw [← hB]; simp [Hp.get, Hp.put_blk, Hp.push_blk]
  have g1 : B.get G ⟨A.next, 1, some 0⟩ = some (.string (S (nb p.num.natAbs))) := by rw [← hB]; simp [Hp.get, Hp.put_blk, Hp.push_blk]
  have g2 : B.get G ⟨A.next, 2, some 0⟩ = some (.string (S (nb p.den))) := by rw [← hB]; simp [Hp.get, Hp.put_blk, Hp.push_blk]
  have g3 : B.get G ⟨A.next + 1, 0, some 0⟩ = some (.bool (decide (q.num < 0))) := by rw [← hB]; simp [Hp.get, Hp.put_blk, Hp.push_blk]
  have g4 : B.get G ⟨A.next + 1, 1, some 0⟩ = some (.string (S (nb q.num.natAbs))) := by rw [← hB]; simp [Hp.get, Hp.put_blk, Hp.push_blk]
  have g5 : B.get G ⟨A.next + 1, 2, some 0⟩ = some (.string (S (nb q.den))) := by rw [← hB]; simp [Hp.get, Hp.put_blk, Hp.push_blk]
  have hend : ∀ (r : Rat) (cs : List Value), r = p * q → Ended A (ratV r) (B.put (A.next + 2) (.row cs 0 3)) (ratV (p * q)) A := by
    rintro r cs rfl
    exact Ended.back hA (hBx.put (by omega) _) rfl (ratV_rb _ _)
  refine call_of (mulN (by omega) (by omega)) ?_
  simp only [↓R1, R2, R3, R4, TY, reduceIte, Nat.reduceEqDiff, Nat.reduceAdd, Nat.reduceMul, Nat.reduceLT, Nat.reduceLeDiff, reduceCtorEq, decide_true, decide_false, Int.reduceLE, Int.reduceLT, Int.reduceToNat, Int.reduceAdd, Int.reduceSub, Int.reduceMul, Int.reduceEq, g0, g1, g2, g3, g4, g5]
  refine call_of (mulN (by omega) (by omega)) ?_
  simp only [↓R1, R2, R3, R4, TY, reduceIte, Nat.reduceEqDiff, Nat.reduceAdd, Nat.reduceMul, Nat.reduceLT, Nat.reduceLeDiff, reduceCtorEq, decide_true, decide_false, Int.reduceLE, Int.reduceLT, Int.reduceToNat, Int.reduceAdd, Int.reduceSub, Int.reduceMul, Int.reduceEq, g0, g1, g2, g3, g4, g5]
  refine call_of (qmade hG (Nat.mul_ne_zero hpd hqd) (by omega) (by omega)) ?_
  rw [sgn_mul2, sgn_num, sgn_num, ← Rat.mul_def']
  have hv := hend (p * q)
  rw [ratV] at hv ⊢
  simp only [↓R1, R2, R3, R4, TY, reduceIte, Nat.reduceEqDiff, Nat.reduceAdd, Nat.reduceMul, Nat.reduceLT, Nat.reduceLeDiff, reduceCtorEq, decide_true, decide_false, Int.reduceLE, Int.reduceLT, Int.reduceToNat, Int.reduceAdd, Int.reduceSub, Int.reduceMul, Int.reduceEq, hBr, hfl2]
  rw [floOf_wr (by kernel_rfl)]
  simp only [↓R1, R2, R3, R4, TY, reduceIte, Nat.reduceEqDiff, Nat.reduceAdd, Nat.reduceMul, Nat.reduceLT, Nat.reduceLeDiff, reduceCtorEq, decide_true, decide_false, Int.reduceLE, Int.reduceLT, Int.reduceToNat, Int.reduceAdd, Int.reduceSub, Int.reduceMul, Int.reduceEq, hBr, hfl2]
  exact hv _ rfl


theorem qdiv {p q : Rat} {j k : Nat} (hG : G 1 = some tabV) (hp : Rz p j) (hq : Rz q k) (hb : j + k ≤ 30000000000) (h0 : q.num ≠ 0) :
    Sound Tryd.prog G 62 [ratV p, ratV q] fl A (.tuple [ratV (p / q), Value.int .i64 0].toArray) A := by
  refine Sound.of mixed Tryd.func62 Tryd.ntmps62 Tryd.results62 (by kernel_rfl) rfl (by kernel_rfl) (by kernel_rfl) fun hA => ?_
  obtain ⟨p1, p2⟩ := id hp
  obtain ⟨q1, q2⟩ := id hq
  have hj := hp.pos
  have hk := hq.pos
  have n1 := nb_len_mul p1 q2
  have n2 := nb_len_mul q1 p2
  have n3 := nb_len_mul p2 q2
  have n4 := nb_len_mul p1 q1
  have n5 := nb_len_mul p2 q1
  have fp := fun fl A => qfit (G := G) (fl := fl) (A := A) (q := p) hG (by omega) (by omega)
  have fq := fun fl A => qfit (G := G) (fl := fl) (A := A) (q := q) hG (by omega) (by omega)
  have hfl : fl ≤ A.next := hA.floor
  have hfl1 : fl ≤ A.next + 1 := by omega
  have hfl2 : fl ≤ A.next + 2 := by omega
  have hpd := rat_den_pos p
  have hqd := rat_den_pos q
  have l1 := p1
  have l2 := q1
  have l3 := p2
  have l4 := q2
  have hdv := div_val (p := p) h0
  have hq0 : (q.num.natAbs = 0) = False := eq_false (by omega)
  have hqa : q.num.natAbs ≠ 0 := by omega
  rw [ratV, ratV] at *
  simp only [↓R1, R2, R3, R4, TY, reduceIte, Nat.reduceEqDiff, Nat.reduceAdd, Nat.reduceMul, Nat.reduceLT, Nat.reduceLeDiff, reduceCtorEq, decide_true, decide_false, Int.reduceLE, Int.reduceLT, Int.reduceToNat, Int.reduceAdd, Int.reduceSub, Int.reduceMul, Int.reduceEq, hfl, hfl1, hfl2]
  refine call_of (fp _ _) ?_
  simp only [↓R1, R2, R3, R4, TY, reduceIte, Nat.reduceEqDiff, Nat.reduceAdd, Nat.reduceMul, Nat.reduceLT, Nat.reduceLeDiff, reduceCtorEq, decide_true, decide_false, Int.reduceLE, Int.reduceLT, Int.reduceToNat, Int.reduceAdd, Int.reduceSub, Int.reduceMul, Int.reduceEq, hfl, hfl1, hfl2]
  refine call_of (fq _ _) ?_
  simp only [↓R1, R2, R3, R4, TY, reduceIte, Nat.reduceEqDiff, Nat.reduceAdd, Nat.reduceMul, Nat.reduceLT, Nat.reduceLeDiff, reduceCtorEq, decide_true, decide_false, Int.reduceLE, Int.reduceLT, Int.reduceToNat, Int.reduceAdd, Int.reduceSub, Int.reduceMul, Int.reduceEq, hfl, hfl1, hfl2]
  rw [floOf_wr (by kernel_rfl)]
  simp only [↓R1, R2, R3, R4, TY, reduceIte, Nat.reduceEqDiff, Nat.reduceAdd, Nat.reduceMul, Nat.reduceLT, Nat.reduceLeDiff, reduceCtorEq, decide_true, decide_false, Int.reduceLE, Int.reduceLT, Int.reduceToNat, Int.reduceAdd, Int.reduceSub, Int.reduceMul, Int.reduceEq, hfl, hfl1, hfl2, NE]
  rw [floOf_wr (by kernel_rfl)]
  simp only [↓R1, R2, R3, R4, TY, reduceIte, Nat.reduceEqDiff, Nat.reduceAdd, Nat.reduceMul, Nat.reduceLT, Nat.reduceLeDiff, reduceCtorEq, decide_true, decide_false, Int.reduceLE, Int.reduceLT, Int.reduceToNat, Int.reduceAdd, Int.reduceSub, Int.reduceMul, Int.reduceEq, hfl, hfl1, hfl2, NE, S_nb, S_inj, nb_nil_eq, hq0]
  generalize hB : Hp.put _ _ _ = B
  have hBn : B.next = A.next + 3 := by rw [← hB]; rfl
  have hBx : Xt A.next A B := by rw [← hB]; exact (((((Xt.refl A).push _).push _).push _).put (Nat.le_refl _) _).put (by omega) _
  have hBr : B.blk (A.next + 2) = some (.row [.bool false, .string (S []), .string (S [])] 0 3) := by rw [← hB]; simp [Hp.put_blk, Hp.push_blk]
  have g0 : B.get G ⟨A.next, 0, some 0⟩ = some (.bool (decide (p.num < 0))) := by rw [← hB]; simp [Hp.get, Hp.put_blk, Hp.push_blk]
  have g1 : B.get G ⟨A.next, 1, some 0⟩ = some (.string (S (nb p.num.natAbs))) := by rw [← hB]; simp [Hp.get, Hp.put_blk, Hp.push_blk]
  have g2 : B.get G ⟨A.next, 2, some 0⟩ = some (.string (S (nb p.den))) := by rw [← hB]; simp [Hp.get, Hp.put_blk, Hp.push_blk]
  have g3 : B.get G ⟨A.next + 1, 0, some 0⟩ = some (.bool (decide (q.num < 0))) := by rw [← hB]; simp [Hp.get, Hp.put_blk, Hp.push_blk]
  have g4 : B.get G ⟨A.next + 1, 1, some 0⟩ = some (.string (S (nb q.num.natAbs))) := by rw [← hB]; simp [Hp.get, Hp.put_blk, Hp.push_blk]
  have g5 : B.get G ⟨A.next + 1, 2, some 0⟩ = some (.string (S (nb q.den))) := by rw [← hB]; simp [Hp.get, Hp.put_blk, Hp.push_blk]
  have hend : ∀ (r : Rat) (cs : List Value), r = p / q → Ended A (.tuple [ratV r, Value.int .i64 0].toArray) (B.put (A.next + 2) (.row cs 0 3)) (.tuple [ratV (p / q), Value.int .i64 0].toArray) A := by
    rintro r cs rfl
    refine Ended.back hA (hBx.put (by omega) _) rfl (RB.tuple fun w hw => ?_)
    simp only [List.mem_cons, List.not_mem_nil, or_false] at hw
    rcases hw with rfl | rfl
    · exact ratV_rb _ _
    · exact RB.int _ _
  refine call_of (mulN (by omega) (by omega)) ?_
  simp only [↓R1, R2, R3, R4, TY, reduceIte, Nat.reduceEqDiff, Nat.reduceAdd, Nat.reduceMul, Nat.reduceLT, Nat.reduceLeDiff, reduceCtorEq, decide_true, decide_false, Int.reduceLE, Int.reduceLT, Int.reduceToNat, Int.reduceAdd, Int.reduceSub, Int.reduceMul, Int.reduceEq, g0, g1, g2, g3, g4, g5]
  refine call_of (mulN (by omega) (by omega)) ?_
  simp only [↓R1, R2, R3, R4, TY, reduceIte, Nat.reduceEqDiff, Nat.reduceAdd, Nat.reduceMul, Nat.reduceLT, Nat.reduceLeDiff, reduceCtorEq, decide_true, decide_false, Int.reduceLE, Int.reduceLT, Int.reduceToNat, Int.reduceAdd, Int.reduceSub, Int.reduceMul, Int.reduceEq, g0, g1, g2, g3, g4, g5]
  refine call_of (qmade hG (Nat.mul_ne_zero hpd hqa) (by omega) (by omega)) ?_
  rw [hdv]
  have hv := hend (p / q)
  rw [ratV] at hv ⊢
  simp only [↓R1, R2, R3, R4, TY, reduceIte, Nat.reduceEqDiff, Nat.reduceAdd, Nat.reduceMul, Nat.reduceLT, Nat.reduceLeDiff, reduceCtorEq, decide_true, decide_false, Int.reduceLE, Int.reduceLT, Int.reduceToNat, Int.reduceAdd, Int.reduceSub, Int.reduceMul, Int.reduceEq, hBr, hfl2]
  rw [floOf_wr (by kernel_rfl)]
  simp only [↓R1, R2, R3, R4, TY, reduceIte, Nat.reduceEqDiff, Nat.reduceAdd, Nat.reduceMul, Nat.reduceLT, Nat.reduceLeDiff, reduceCtorEq, decide_true, decide_false, Int.reduceLE, Int.reduceLT, Int.reduceToNat, Int.reduceAdd, Int.reduceSub, Int.reduceMul, Int.reduceEq, hBr, hfl2]
  exact hv _ rfl


theorem qdivz {p q : Rat} {j k : Nat} (hG : G 1 = some tabV) (hp : Rz p j) (hq : Rz q k) (hb : j + k ≤ 30000000000) (h0 : q.num = 0) :
    Sound Tryd.prog G 62 [ratV p, ratV q] fl A (.tuple [raw0, Value.int .i64 12].toArray) A := by
  refine Sound.of mixed Tryd.func62 Tryd.ntmps62 Tryd.results62 (by kernel_rfl) rfl (by kernel_rfl) (by kernel_rfl) fun hA => ?_
  obtain ⟨p1, p2⟩ := id hp
  obtain ⟨q1, q2⟩ := id hq
  have hj := hp.pos
  have hk := hq.pos
  have n1 := nb_len_mul p1 q2
  have n2 := nb_len_mul q1 p2
  have n3 := nb_len_mul p2 q2
  have n4 := nb_len_mul p1 q1
  have n5 := nb_len_mul p2 q1
  have fp := fun fl A => qfit (G := G) (fl := fl) (A := A) (q := p) hG (by omega) (by omega)
  have fq := fun fl A => qfit (G := G) (fl := fl) (A := A) (q := q) hG (by omega) (by omega)
  have hfl : fl ≤ A.next := hA.floor
  have hfl1 : fl ≤ A.next + 1 := by omega
  have hfl2 : fl ≤ A.next + 2 := by omega
  have hpd := rat_den_pos p
  have hqd := rat_den_pos q
  have l1 := p1
  have l2 := q1
  have l3 := p2
  have l4 := q2
  have hq0 : (q.num.natAbs = 0) = True := eq_true (by omega)
  rw [ratV, ratV] at *
  simp only [↓R1, R2, R3, R4, TY, reduceIte, Nat.reduceEqDiff, Nat.reduceAdd, Nat.reduceMul, Nat.reduceLT, Nat.reduceLeDiff, reduceCtorEq, decide_true, decide_false, Int.reduceLE, Int.reduceLT, Int.reduceToNat, Int.reduceAdd, Int.reduceSub, Int.reduceMul, Int.reduceEq, hfl, hfl1, hfl2]
  refine call_of (fp _ _) ?_
  simp only [↓R1, R2, R3, R4, TY, reduceIte, Nat.reduceEqDiff, Nat.reduceAdd, Nat.reduceMul, Nat.reduceLT, Nat.reduceLeDiff, reduceCtorEq, decide_true, decide_false, Int.reduceLE, Int.reduceLT, Int.reduceToNat, Int.reduceAdd, Int.reduceSub, Int.reduceMul, Int.reduceEq, hfl, hfl1, hfl2]
  refine call_of (fq _ _) ?_
  simp only [↓R1, R2, R3, R4, TY, reduceIte, Nat.reduceEqDiff, Nat.reduceAdd, Nat.reduceMul, Nat.reduceLT, Nat.reduceLeDiff, reduceCtorEq, decide_true, decide_false, Int.reduceLE, Int.reduceLT, Int.reduceToNat, Int.reduceAdd, Int.reduceSub, Int.reduceMul, Int.reduceEq, hfl, hfl1, hfl2]
  rw [floOf_wr (by kernel_rfl)]
  simp only [↓R1, R2, R3, R4, TY, reduceIte, Nat.reduceEqDiff, Nat.reduceAdd, Nat.reduceMul, Nat.reduceLT, Nat.reduceLeDiff, reduceCtorEq, decide_true, decide_false, Int.reduceLE, Int.reduceLT, Int.reduceToNat, Int.reduceAdd, Int.reduceSub, Int.reduceMul, Int.reduceEq, hfl, hfl1, hfl2, NE]
  rw [floOf_wr (by kernel_rfl)]
  simp only [↓R1, R2, R3, R4, TY, reduceIte, Nat.reduceEqDiff, Nat.reduceAdd, Nat.reduceMul, Nat.reduceLT, Nat.reduceLeDiff, reduceCtorEq, decide_true, decide_false, Int.reduceLE, Int.reduceLT, Int.reduceToNat, Int.reduceAdd, Int.reduceSub, Int.reduceMul, Int.reduceEq, hfl, hfl1, hfl2, NE, S_nb, S_inj, nb_nil_eq, hq0]
  refine Ended.back hA (((((((Xt.refl A).push _).push _).push _).put (Nat.le_refl _) _).put (by omega) _).put (by omega) _) rfl (RB.tuple fun w hw => ?_)
  simp only [List.mem_cons, List.not_mem_nil, or_false] at hw
  rcases hw with rfl | rfl
  · refine ⟨raw0, .agg rfl fun i h h' => ?_⟩
    have : i < 3 := h
    match i, this with
    | 0, _ => exact .bool _
    | 1, _ => exact .string _
    | 2, _ => exact .string _
  · exact RB.int _ _

theorem qneg {q : Rat} {k : Nat} (hG : G 1 = some tabV) (hq : Rz q k) (hb : k ≤ 30000000000) : Sound Tryd.prog G 59 [ratV q] fl A (ratV (-q)) A := by
  refine Sound.of mixed Tryd.func59 Tryd.ntmps59 Tryd.results59 (by kernel_rfl) rfl (by kernel_rfl) (by kernel_rfl) fun hA => ?_
  obtain ⟨q1, q2⟩ := id hq
  have fq := fun fl A => qfit (G := G) (fl := fl) (A := A) (q := q) hG (by omega) (by omega)
  have hfl : fl ≤ A.next := hA.floor
  have hfl1 : fl ≤ A.next + 1 := by omega
  have hfl2 : fl ≤ A.next + 2 := by omega
  have hqd := rat_den_pos q
  rw [ratV_neg]
  rw [ratV] at *
  simp only [↓R1, R2, R3, R4, TY, reduceIte, Nat.reduceEqDiff, Nat.reduceAdd, Nat.reduceMul, Nat.reduceLT, Nat.reduceLeDiff, reduceCtorEq, decide_true, decide_false, Int.reduceLE, Int.reduceLT, Int.reduceToNat, Int.reduceAdd, Int.reduceSub, Int.reduceMul, Int.reduceEq, hfl, hfl1]
  refine call_of (fq _ _) ?_
  by_cases hn : q.num < 0
  · have hn' : (q.num < 0) = True := eq_true hn
    have e : decide (-q.num < 0) = false := decide_eq_false (by omega)
    rw [e]
    simp only [↓R1, R2, R3, R4, TY, reduceIte, Nat.reduceEqDiff, Nat.reduceAdd, Nat.reduceMul, Nat.reduceLT, Nat.reduceLeDiff, reduceCtorEq, decide_true, decide_false, Int.reduceLE, Int.reduceLT, Int.reduceToNat, Int.reduceAdd, Int.reduceSub, Int.reduceMul, Int.reduceEq, hfl, hfl1, NE, S_inj, nb_nil_eq, hn']
    exact Ended.back hA (by simp (maxDischargeDepth := 20) only [xt_push, xt_put, xt_refl, Nat.le_refl, Nat.le_add_right]) rfl (by rw [← ratV_abs]; exact ratV_rb _ _)
  · have hn' : (q.num < 0) = False := eq_false hn
    have e : decide (-q.num < 0) = !decide (q.num.natAbs = 0) := by
      by_cases h : q.num.natAbs = 0
      · rw [decide_eq_true h, decide_eq_false (by omega)]; rfl
      · rw [decide_eq_false h, decide_eq_true (by omega)]; rfl
    have hrb := ratV_rb A.next (-q)
    rw [ratV_neg] at hrb
    rw [e] at hrb ⊢
    simp only [↓R1, R2, R3, R4, TY, reduceIte, Nat.reduceEqDiff, Nat.reduceAdd, Nat.reduceMul, Nat.reduceLT, Nat.reduceLeDiff, reduceCtorEq, decide_true, decide_false, Int.reduceLE, Int.reduceLT, Int.reduceToNat, Int.reduceAdd, Int.reduceSub, Int.reduceMul, Int.reduceEq, hfl, hfl1, NE, S_inj, nb_nil_eq, hn']
    exact Ended.back hA (by simp (maxDischargeDepth := 20) only [xt_push, xt_put, xt_refl, Nat.le_refl, Nat.le_add_right]) rfl hrb


theorem qsign {q : Rat} {k : Nat} (hG : G 1 = some tabV) (hq : Rz q k) (hb : k ≤ 30000000000) : Sound Tryd.prog G 53 [ratV q] fl A (.int .i64 (rsign q)) A := by
  refine Sound.of mixed Tryd.func53 Tryd.ntmps53 Tryd.results53 (by kernel_rfl) rfl (by kernel_rfl) (by kernel_rfl) fun hA => ?_
  obtain ⟨q1, q2⟩ := id hq
  have fq := fun fl A => qfit (G := G) (fl := fl) (A := A) (q := q) hG (by omega) (by omega)
  have hfl : fl ≤ A.next := hA.floor
  have hfl1 : fl ≤ A.next + 1 := by omega
  have hfl2 : fl ≤ A.next + 2 := by omega
  have hqd := rat_den_pos q
  rw [ratV] at *
  simp only [↓R1, R2, R3, R4, TY, reduceIte, Nat.reduceEqDiff, Nat.reduceAdd, Nat.reduceMul, Nat.reduceLT, Nat.reduceLeDiff, reduceCtorEq, decide_true, decide_false, Int.reduceLE, Int.reduceLT, Int.reduceToNat, Int.reduceAdd, Int.reduceSub, Int.reduceMul, Int.reduceEq, hfl, hfl1]
  refine call_of (fq _ _) ?_
  simp only [↓R1, R2, R3, R4, TY, reduceIte, Nat.reduceEqDiff, Nat.reduceAdd, Nat.reduceMul, Nat.reduceLT, Nat.reduceLeDiff, reduceCtorEq, decide_true, decide_false, Int.reduceLE, Int.reduceLT, Int.reduceToNat, Int.reduceAdd, Int.reduceSub, Int.reduceMul, Int.reduceEq, hfl, hfl1, NE, S_inj, nb_nil_eq]
  refine ⟨fun h => ?_, fun h => ⟨fun h2 => ?_, fun h2 => ?_⟩⟩
  · exact Ended.back hA (by simp (maxDischargeDepth := 20) only [xt_push, xt_put, xt_refl, Nat.le_refl, Nat.le_add_right]) (by rw [rsign, if_pos (by omega)]) (RB.int _ _)
  · exact Ended.back hA (by simp (maxDischargeDepth := 20) only [xt_push, xt_put, xt_refl, Nat.le_refl, Nat.le_add_right]) (by rw [rsign, if_neg (by omega), if_pos h2]) (RB.int _ _)
  · exact Ended.back hA (by simp (maxDischargeDepth := 20) only [xt_push, xt_put, xt_refl, Nat.le_refl, Nat.le_add_right]) (by rw [rsign, if_neg (by omega), if_neg h2]) (RB.int _ _)


theorem qsub {p q : Rat} {j k : Nat} (hG : G 1 = some tabV) (hp : Rz p j) (hq : Rz q k) (hb : j + k ≤ 30000000000) : Sound Tryd.prog G 24 [ratV p, ratV q] fl A (ratV (p - q)) A := by
  refine Sound.of mixed Tryd.func24 Tryd.ntmps24 Tryd.results24 (by kernel_rfl) rfl (by kernel_rfl) (by kernel_rfl) fun hA => ?_
  have hng := fun fl A => qneg (G := G) (fl := fl) (A := A) hG hq (by omega)
  have had := fun fl A => qadd (G := G) (fl := fl) (A := A) hG hp hq.neg hb
  have hfl2 : fl ≤ A.next + 2 := by have := hA.floor; omega
  rw [← Rat.sub_eq_add_neg] at had
  have hrb := ratV_rb A.next (p - q)
  rw [ratV, ratV] at hng
  rw [ratV, ratV, ratV] at had
  rw [ratV, ratV, ratV]
  rw [ratV] at hrb
  simp only [↓R1, R2, R3, R4, TY, reduceIte, Nat.reduceEqDiff, Nat.reduceAdd, Nat.reduceMul, Nat.reduceLT, Nat.reduceLeDiff, reduceCtorEq, decide_true, decide_false, Int.reduceLE, Int.reduceLT, Int.reduceToNat, Int.reduceAdd, Int.reduceSub, Int.reduceMul, Int.reduceEq]
  refine call_of (hng _ _) ?_
  simp only [↓R1, R2, R3, R4, TY, reduceIte, Nat.reduceEqDiff, Nat.reduceAdd, Nat.reduceMul, Nat.reduceLT, Nat.reduceLeDiff, reduceCtorEq, decide_true, decide_false, Int.reduceLE, Int.reduceLT, Int.reduceToNat, Int.reduceAdd, Int.reduceSub, Int.reduceMul, Int.reduceEq]
  refine call_of (had _ _) ?_
  simp only [↓R1, R2, R3, R4, TY, reduceIte, Nat.reduceEqDiff, Nat.reduceAdd, Nat.reduceMul, Nat.reduceLT, Nat.reduceLeDiff, reduceCtorEq, decide_true, decide_false, Int.reduceLE, Int.reduceLT, Int.reduceToNat, Int.reduceAdd, Int.reduceSub, Int.reduceMul, Int.reduceEq, hfl2, NE]
  rw [floOf_wr (by kernel_rfl)]
  simp only [↓R1, R2, R3, R4, TY, reduceIte, Nat.reduceEqDiff, Nat.reduceAdd, Nat.reduceMul, Nat.reduceLT, Nat.reduceLeDiff, reduceCtorEq, decide_true, decide_false, Int.reduceLE, Int.reduceLT, Int.reduceToNat, Int.reduceAdd, Int.reduceSub, Int.reduceMul, Int.reduceEq, hfl2, NE]
  exact Ended.back hA ((((((Xt.refl A).push _).push _).push _).put (by omega) _)) rfl hrb


theorem qcmp {p q : Rat} {j k : Nat} (hG : G 1 = some tabV) (hp : Rz p j) (hq : Rz q k) (hb : j + k ≤ 30000000000) : Sound Tryd.prog G 26 [ratV p, ratV q] fl A (.int .i64 (rcmp p q)) A := by
  refine Sound.of mixed Tryd.func26 Tryd.ntmps26 Tryd.results26 (by kernel_rfl) rfl (by kernel_rfl) (by kernel_rfl) fun hA => ?_
  obtain ⟨p1, p2⟩ := id hp
  obtain ⟨q1, q2⟩ := id hq
  have hj := hp.pos
  have hk := hq.pos
  have n1 := nb_len_mul p1 q2
  have n2 := nb_len_mul q1 p2
  have n3 := nb_len_mul p2 q2
  have n4 := nb_len_mul p1 q1
  have n5 := nb_len_mul p2 q1
  have fp := fun fl A => qfit (G := G) (fl := fl) (A := A) (q := p) hG (by omega) (by omega)
  have fq := fun fl A => qfit (G := G) (fl := fl) (A := A) (q := q) hG (by omega) (by omega)
  have hfl : fl ≤ A.next := hA.floor
  have hfl1 : fl ≤ A.next + 1 := by omega
  have hfl2 : fl ≤ A.next + 2 := by omega
  have hpd := rat_den_pos p
  have hqd := rat_den_pos q
  have l1 := p1
  have l2 := q1
  have l3 := p2
  have l4 := q2
  have hneg : ∀ (x : Int) (B : Hp), Xt A.next A B → x = rcmp p q → Ended A (.int .i64 x) B (.int .i64 (rcmp p q)) A := by
    rintro x B hx rfl
    exact Ended.back hA hx rfl (RB.int _ _)
  have fin : ∀ b1 b2 b3 b4, Xt A.next A ((((A.push b1).push b2).put A.next b3).put (A.next + 1) b4) := fun b1 b2 b3 b4 => ((((Xt.refl A).push _).push _).put (Nat.le_refl _) _).put (by omega) _
  by_cases hpn : p.num < 0 <;> by_cases hqn : q.num < 0
  · have hp' : (p.num < 0) = True := eq_true hpn
    have hq' : (q.num < 0) = True := eq_true hqn
    rw [ratV, ratV] at *
    simp only [↓R1, R2, R3, R4, TY, reduceIte, Nat.reduceEqDiff, Nat.reduceAdd, Nat.reduceMul, Nat.reduceLT, Nat.reduceLeDiff, reduceCtorEq, decide_true, decide_false, Int.reduceLE, Int.reduceLT, Int.reduceToNat, Int.reduceAdd, Int.reduceSub, Int.reduceMul, Int.reduceEq, hfl, hfl1, hfl2]
    refine call_of (fp _ _) ?_
    simp only [↓R1, R2, R3, R4, TY, reduceIte, Nat.reduceEqDiff, Nat.reduceAdd, Nat.reduceMul, Nat.reduceLT, Nat.reduceLeDiff, reduceCtorEq, decide_true, decide_false, Int.reduceLE, Int.reduceLT, Int.reduceToNat, Int.reduceAdd, Int.reduceSub, Int.reduceMul, Int.reduceEq, hfl, hfl1, hfl2]
    refine call_of (fq _ _) ?_
    simp only [↓R1, R2, R3, R4, TY, reduceIte, Nat.reduceEqDiff, Nat.reduceAdd, Nat.reduceMul, Nat.reduceLT, Nat.reduceLeDiff, reduceCtorEq, decide_true, decide_false, Int.reduceLE, Int.reduceLT, Int.reduceToNat, Int.reduceAdd, Int.reduceSub, Int.reduceMul, Int.reduceEq, hfl, hfl1, hfl2]
    rw [floOf_wr (by kernel_rfl)]
    simp only [↓R1, R2, R3, R4, TY, reduceIte, Nat.reduceEqDiff, Nat.reduceAdd, Nat.reduceMul, Nat.reduceLT, Nat.reduceLeDiff, reduceCtorEq, decide_true, decide_false, Int.reduceLE, Int.reduceLT, Int.reduceToNat, Int.reduceAdd, Int.reduceSub, Int.reduceMul, Int.reduceEq, hfl, hfl1, hfl2, NE]
    rw [floOf_wr (by kernel_rfl)]
    simp only [↓R1, R2, R3, R4, TY, reduceIte, Nat.reduceEqDiff, Nat.reduceAdd, Nat.reduceMul, Nat.reduceLT, Nat.reduceLeDiff, reduceCtorEq, decide_true, decide_false, Int.reduceLE, Int.reduceLT, Int.reduceToNat, Int.reduceAdd, Int.reduceSub, Int.reduceMul, Int.reduceEq, hfl, hfl1, hfl2, NE, S_nb, hp', hq', beq_self_eq_true, tf_ne, ft_ne]
    refine call_of (mulN (by omega) (by omega)) ?_
    simp only [↓R1, R2, R3, R4, TY, reduceIte, Nat.reduceEqDiff, Nat.reduceAdd, Nat.reduceMul, Nat.reduceLT, Nat.reduceLeDiff, reduceCtorEq, decide_true, decide_false, Int.reduceLE, Int.reduceLT, Int.reduceToNat, Int.reduceAdd, Int.reduceSub, Int.reduceMul, Int.reduceEq, hp', hq']
    refine call_of (mulN (by omega) (by omega)) ?_
    simp only [↓R1, R2, R3, R4, TY, reduceIte, Nat.reduceEqDiff, Nat.reduceAdd, Nat.reduceMul, Nat.reduceLT, Nat.reduceLeDiff, reduceCtorEq, decide_true, decide_false, Int.reduceLE, Int.reduceLT, Int.reduceToNat, Int.reduceAdd, Int.reduceSub, Int.reduceMul, Int.reduceEq, hp', hq']
    refine call_of (cmpN_ok _ _) ?_
    have hcb := cmpN_bound (p.num.natAbs * q.den) (q.num.natAbs * p.den)
    have hw : IntKind.i64.wrap (0 - cmpN (p.num.natAbs * q.den) (q.num.natAbs * p.den)) = -cmpN (p.num.natAbs * q.den) (q.num.natAbs * p.den) := by rw [wrapI (by omega)]; omega
    simp only [↓R1, R2, R3, R4, TY, reduceIte, Nat.reduceEqDiff, Nat.reduceAdd, Nat.reduceMul, Nat.reduceLT, Nat.reduceLeDiff, reduceCtorEq, decide_true, decide_false, Int.reduceLE, Int.reduceLT, Int.reduceToNat, Int.reduceAdd, Int.reduceSub, Int.reduceMul, Int.reduceEq, hp', hq', hw]
    exact hneg _ _ (fin _ _ _ _) (rcmp_same' hpn hqn).symm
  · have hp' : (p.num < 0) = True := eq_true hpn
    have hq' : (q.num < 0) = False := eq_false hqn
    rw [ratV, ratV] at *
    simp only [↓R1, R2, R3, R4, TY, reduceIte, Nat.reduceEqDiff, Nat.reduceAdd, Nat.reduceMul, Nat.reduceLT, Nat.reduceLeDiff, reduceCtorEq, decide_true, decide_false, Int.reduceLE, Int.reduceLT, Int.reduceToNat, Int.reduceAdd, Int.reduceSub, Int.reduceMul, Int.reduceEq, hfl, hfl1, hfl2]
    refine call_of (fp _ _) ?_
    simp only [↓R1, R2, R3, R4, TY, reduceIte, Nat.reduceEqDiff, Nat.reduceAdd, Nat.reduceMul, Nat.reduceLT, Nat.reduceLeDiff, reduceCtorEq, decide_true, decide_false, Int.reduceLE, Int.reduceLT, Int.reduceToNat, Int.reduceAdd, Int.reduceSub, Int.reduceMul, Int.reduceEq, hfl, hfl1, hfl2]
    refine call_of (fq _ _) ?_
    simp only [↓R1, R2, R3, R4, TY, reduceIte, Nat.reduceEqDiff, Nat.reduceAdd, Nat.reduceMul, Nat.reduceLT, Nat.reduceLeDiff, reduceCtorEq, decide_true, decide_false, Int.reduceLE, Int.reduceLT, Int.reduceToNat, Int.reduceAdd, Int.reduceSub, Int.reduceMul, Int.reduceEq, hfl, hfl1, hfl2]
    rw [floOf_wr (by kernel_rfl)]
    simp only [↓R1, R2, R3, R4, TY, reduceIte, Nat.reduceEqDiff, Nat.reduceAdd, Nat.reduceMul, Nat.reduceLT, Nat.reduceLeDiff, reduceCtorEq, decide_true, decide_false, Int.reduceLE, Int.reduceLT, Int.reduceToNat, Int.reduceAdd, Int.reduceSub, Int.reduceMul, Int.reduceEq, hfl, hfl1, hfl2, NE]
    rw [floOf_wr (by kernel_rfl)]
    simp only [↓R1, R2, R3, R4, TY, reduceIte, Nat.reduceEqDiff, Nat.reduceAdd, Nat.reduceMul, Nat.reduceLT, Nat.reduceLeDiff, reduceCtorEq, decide_true, decide_false, Int.reduceLE, Int.reduceLT, Int.reduceToNat, Int.reduceAdd, Int.reduceSub, Int.reduceMul, Int.reduceEq, hfl, hfl1, hfl2, NE, S_nb, hp', hq', beq_self_eq_true, tf_ne, ft_ne]
    exact hneg _ _ (fin _ _ _ _) (rcmp_neg hpn hqn).symm
  · have hp' : (p.num < 0) = False := eq_false hpn
    have hq' : (q.num < 0) = True := eq_true hqn
    rw [ratV, ratV] at *
    simp only [↓R1, R2, R3, R4, TY, reduceIte, Nat.reduceEqDiff, Nat.reduceAdd, Nat.reduceMul, Nat.reduceLT, Nat.reduceLeDiff, reduceCtorEq, decide_true, decide_false, Int.reduceLE, Int.reduceLT, Int.reduceToNat, Int.reduceAdd, Int.reduceSub, Int.reduceMul, Int.reduceEq, hfl, hfl1, hfl2]
    refine call_of (fp _ _) ?_
    simp only [↓R1, R2, R3, R4, TY, reduceIte, Nat.reduceEqDiff, Nat.reduceAdd, Nat.reduceMul, Nat.reduceLT, Nat.reduceLeDiff, reduceCtorEq, decide_true, decide_false, Int.reduceLE, Int.reduceLT, Int.reduceToNat, Int.reduceAdd, Int.reduceSub, Int.reduceMul, Int.reduceEq, hfl, hfl1, hfl2]
    refine call_of (fq _ _) ?_
    simp only [↓R1, R2, R3, R4, TY, reduceIte, Nat.reduceEqDiff, Nat.reduceAdd, Nat.reduceMul, Nat.reduceLT, Nat.reduceLeDiff, reduceCtorEq, decide_true, decide_false, Int.reduceLE, Int.reduceLT, Int.reduceToNat, Int.reduceAdd, Int.reduceSub, Int.reduceMul, Int.reduceEq, hfl, hfl1, hfl2]
    rw [floOf_wr (by kernel_rfl)]
    simp only [↓R1, R2, R3, R4, TY, reduceIte, Nat.reduceEqDiff, Nat.reduceAdd, Nat.reduceMul, Nat.reduceLT, Nat.reduceLeDiff, reduceCtorEq, decide_true, decide_false, Int.reduceLE, Int.reduceLT, Int.reduceToNat, Int.reduceAdd, Int.reduceSub, Int.reduceMul, Int.reduceEq, hfl, hfl1, hfl2, NE]
    rw [floOf_wr (by kernel_rfl)]
    simp only [↓R1, R2, R3, R4, TY, reduceIte, Nat.reduceEqDiff, Nat.reduceAdd, Nat.reduceMul, Nat.reduceLT, Nat.reduceLeDiff, reduceCtorEq, decide_true, decide_false, Int.reduceLE, Int.reduceLT, Int.reduceToNat, Int.reduceAdd, Int.reduceSub, Int.reduceMul, Int.reduceEq, hfl, hfl1, hfl2, NE, S_nb, hp', hq', beq_self_eq_true, tf_ne, ft_ne]
    exact hneg _ _ (fin _ _ _ _) (rcmp_pos hpn hqn).symm
  · have hp' : (p.num < 0) = False := eq_false hpn
    have hq' : (q.num < 0) = False := eq_false hqn
    rw [ratV, ratV] at *
    simp only [↓R1, R2, R3, R4, TY, reduceIte, Nat.reduceEqDiff, Nat.reduceAdd, Nat.reduceMul, Nat.reduceLT, Nat.reduceLeDiff, reduceCtorEq, decide_true, decide_false, Int.reduceLE, Int.reduceLT, Int.reduceToNat, Int.reduceAdd, Int.reduceSub, Int.reduceMul, Int.reduceEq, hfl, hfl1, hfl2]
    refine call_of (fp _ _) ?_
    simp only [↓R1, R2, R3, R4, TY, reduceIte, Nat.reduceEqDiff, Nat.reduceAdd, Nat.reduceMul, Nat.reduceLT, Nat.reduceLeDiff, reduceCtorEq, decide_true, decide_false, Int.reduceLE, Int.reduceLT, Int.reduceToNat, Int.reduceAdd, Int.reduceSub, Int.reduceMul, Int.reduceEq, hfl, hfl1, hfl2]
    refine call_of (fq _ _) ?_
    simp only [↓R1, R2, R3, R4, TY, reduceIte, Nat.reduceEqDiff, Nat.reduceAdd, Nat.reduceMul, Nat.reduceLT, Nat.reduceLeDiff, reduceCtorEq, decide_true, decide_false, Int.reduceLE, Int.reduceLT, Int.reduceToNat, Int.reduceAdd, Int.reduceSub, Int.reduceMul, Int.reduceEq, hfl, hfl1, hfl2]
    rw [floOf_wr (by kernel_rfl)]
    simp only [↓R1, R2, R3, R4, TY, reduceIte, Nat.reduceEqDiff, Nat.reduceAdd, Nat.reduceMul, Nat.reduceLT, Nat.reduceLeDiff, reduceCtorEq, decide_true, decide_false, Int.reduceLE, Int.reduceLT, Int.reduceToNat, Int.reduceAdd, Int.reduceSub, Int.reduceMul, Int.reduceEq, hfl, hfl1, hfl2, NE]
    rw [floOf_wr (by kernel_rfl)]
    simp only [↓R1, R2, R3, R4, TY, reduceIte, Nat.reduceEqDiff, Nat.reduceAdd, Nat.reduceMul, Nat.reduceLT, Nat.reduceLeDiff, reduceCtorEq, decide_true, decide_false, Int.reduceLE, Int.reduceLT, Int.reduceToNat, Int.reduceAdd, Int.reduceSub, Int.reduceMul, Int.reduceEq, hfl, hfl1, hfl2, NE, S_nb, hp', hq', beq_self_eq_true, tf_ne, ft_ne]
    refine call_of (mulN (by omega) (by omega)) ?_
    simp only [↓R1, R2, R3, R4, TY, reduceIte, Nat.reduceEqDiff, Nat.reduceAdd, Nat.reduceMul, Nat.reduceLT, Nat.reduceLeDiff, reduceCtorEq, decide_true, decide_false, Int.reduceLE, Int.reduceLT, Int.reduceToNat, Int.reduceAdd, Int.reduceSub, Int.reduceMul, Int.reduceEq, hp', hq']
    refine call_of (mulN (by omega) (by omega)) ?_
    simp only [↓R1, R2, R3, R4, TY, reduceIte, Nat.reduceEqDiff, Nat.reduceAdd, Nat.reduceMul, Nat.reduceLT, Nat.reduceLeDiff, reduceCtorEq, decide_true, decide_false, Int.reduceLE, Int.reduceLT, Int.reduceToNat, Int.reduceAdd, Int.reduceSub, Int.reduceMul, Int.reduceEq, hp', hq']
    refine call_of (cmpN_ok _ _) ?_
    have hcb := cmpN_bound (p.num.natAbs * q.den) (q.num.natAbs * p.den)
    have hw : IntKind.i64.wrap (0 - cmpN (p.num.natAbs * q.den) (q.num.natAbs * p.den)) = -cmpN (p.num.natAbs * q.den) (q.num.natAbs * p.den) := by rw [wrapI (by omega)]; omega
    simp only [↓R1, R2, R3, R4, TY, reduceIte, Nat.reduceEqDiff, Nat.reduceAdd, Nat.reduceMul, Nat.reduceLT, Nat.reduceLeDiff, reduceCtorEq, decide_true, decide_false, Int.reduceLE, Int.reduceLT, Int.reduceToNat, Int.reduceAdd, Int.reduceSub, Int.reduceMul, Int.reduceEq, hp', hq', hw]
    exact hneg _ _ (fin _ _ _ _) (rcmp_same hpn hqn).symm

theorem qmin {p q : Rat} {j k : Nat} (hG : G 1 = some tabV) (hp : Rz p j) (hq : Rz q k) (hb : j + k ≤ 30000000000) : Sound Tryd.prog G 22 [ratV p, ratV q] fl A (ratV (rmin p q)) A := by
  refine Sound.of mixed Tryd.func22 Tryd.ntmps22 Tryd.results22 (by kernel_rfl) rfl (by kernel_rfl) (by kernel_rfl) fun hA => ?_
  have fp := fun fl A => qfit (G := G) (fl := fl) (A := A) (q := p) hG (by have := hp.1; omega) (by have := hp.2; omega)
  have fq := fun fl A => qfit (G := G) (fl := fl) (A := A) (q := q) hG (by have := hq.1; omega) (by have := hq.2; omega)
  have hc := fun fl A => qcmp (G := G) (fl := fl) (A := A) hG hp hq hb
  have hfl2 : fl ≤ A.next + 2 := by have := hA.floor; omega
  have hrp := ratV_rb A.next p
  have hrq := ratV_rb A.next q
  unfold rmin
  rw [ratV, ratV] at *
  simp only [↓R1, R2, R3, R4, TY, reduceIte, Nat.reduceEqDiff, Nat.reduceAdd, Nat.reduceMul, Nat.reduceLT, Nat.reduceLeDiff, reduceCtorEq, decide_true, decide_false, Int.reduceLE, Int.reduceLT, Int.reduceToNat, Int.reduceAdd, Int.reduceSub, Int.reduceMul, Int.reduceEq]
  refine call_of (hc _ _) ?_
  simp only [↓R1, R2, R3, R4, TY, reduceIte, Nat.reduceEqDiff, Nat.reduceAdd, Nat.reduceMul, Nat.reduceLT, Nat.reduceLeDiff, reduceCtorEq, decide_true, decide_false, Int.reduceLE, Int.reduceLT, Int.reduceToNat, Int.reduceAdd, Int.reduceSub, Int.reduceMul, Int.reduceEq, hfl2, NE]
  refine ⟨fun h => ?_, fun h => ?_⟩
  · refine call_of (fp _ _) ?_
    rw [if_pos h]
    simp only [↓R1, R2, R3, R4, TY, reduceIte, Nat.reduceEqDiff, Nat.reduceAdd, Nat.reduceMul, Nat.reduceLT, Nat.reduceLeDiff, reduceCtorEq, decide_true, decide_false, Int.reduceLE, Int.reduceLT, Int.reduceToNat, Int.reduceAdd, Int.reduceSub, Int.reduceMul, Int.reduceEq, hfl2, NE]
    exact Ended.back hA ((((Xt.refl A).push _).push _).push _ |>.put (by omega) _) rfl hrp
  · refine call_of (fq _ _) ?_
    rw [if_neg h]
    simp only [↓R1, R2, R3, R4, TY, reduceIte, Nat.reduceEqDiff, Nat.reduceAdd, Nat.reduceMul, Nat.reduceLT, Nat.reduceLeDiff, reduceCtorEq, decide_true, decide_false, Int.reduceLE, Int.reduceLT, Int.reduceToNat, Int.reduceAdd, Int.reduceSub, Int.reduceMul, Int.reduceEq, hfl2, NE]
    exact Ended.back hA ((((Xt.refl A).push _).push _).push _ |>.put (by omega) _) rfl hrq


theorem qmax {p q : Rat} {j k : Nat} (hG : G 1 = some tabV) (hp : Rz p j) (hq : Rz q k) (hb : j + k ≤ 30000000000) : Sound Tryd.prog G 30 [ratV p, ratV q] fl A (ratV (rmax p q)) A := by
  refine Sound.of mixed Tryd.func30 Tryd.ntmps30 Tryd.results30 (by kernel_rfl) rfl (by kernel_rfl) (by kernel_rfl) fun hA => ?_
  have fp := fun fl A => qfit (G := G) (fl := fl) (A := A) (q := p) hG (by have := hp.1; omega) (by have := hp.2; omega)
  have fq := fun fl A => qfit (G := G) (fl := fl) (A := A) (q := q) hG (by have := hq.1; omega) (by have := hq.2; omega)
  have hc := fun fl A => qcmp (G := G) (fl := fl) (A := A) hG hp hq hb
  have hfl2 : fl ≤ A.next + 2 := by have := hA.floor; omega
  have hrp := ratV_rb A.next p
  have hrq := ratV_rb A.next q
  unfold rmax
  rw [ratV, ratV] at *
  simp only [↓R1, R2, R3, R4, TY, reduceIte, Nat.reduceEqDiff, Nat.reduceAdd, Nat.reduceMul, Nat.reduceLT, Nat.reduceLeDiff, reduceCtorEq, decide_true, decide_false, Int.reduceLE, Int.reduceLT, Int.reduceToNat, Int.reduceAdd, Int.reduceSub, Int.reduceMul, Int.reduceEq]
  refine call_of (hc _ _) ?_
  simp only [↓R1, R2, R3, R4, TY, reduceIte, Nat.reduceEqDiff, Nat.reduceAdd, Nat.reduceMul, Nat.reduceLT, Nat.reduceLeDiff, reduceCtorEq, decide_true, decide_false, Int.reduceLE, Int.reduceLT, Int.reduceToNat, Int.reduceAdd, Int.reduceSub, Int.reduceMul, Int.reduceEq, hfl2, NE]
  refine ⟨fun h => ?_, fun h => ?_⟩
  · refine call_of (fp _ _) ?_
    rw [if_pos h]
    simp only [↓R1, R2, R3, R4, TY, reduceIte, Nat.reduceEqDiff, Nat.reduceAdd, Nat.reduceMul, Nat.reduceLT, Nat.reduceLeDiff, reduceCtorEq, decide_true, decide_false, Int.reduceLE, Int.reduceLT, Int.reduceToNat, Int.reduceAdd, Int.reduceSub, Int.reduceMul, Int.reduceEq, hfl2, NE]
    exact Ended.back hA ((((Xt.refl A).push _).push _).push _ |>.put (by omega) _) rfl hrp
  · refine call_of (fq _ _) ?_
    rw [if_neg h]
    simp only [↓R1, R2, R3, R4, TY, reduceIte, Nat.reduceEqDiff, Nat.reduceAdd, Nat.reduceMul, Nat.reduceLT, Nat.reduceLeDiff, reduceCtorEq, decide_true, decide_false, Int.reduceLE, Int.reduceLT, Int.reduceToNat, Int.reduceAdd, Int.reduceSub, Int.reduceMul, Int.reduceEq, hfl2, NE]
    exact Ended.back hA ((((Xt.refl A).push _).push _).push _ |>.put (by omega) _) rfl hrq

end
end Go.Proofs.YtjkimjmocfjjnaaDoor.Ab

/- Rational numbers are ordered: plain facts. -/
namespace Go.Proofs.YtjkimjmocfjjnaaDoor.Ab
open Go.RowKit
set_option linter.unusedVariables false
set_option linter.unusedSimpArgs false
set_option maxRecDepth 100000

theorem num_neg_iff {q : Rat} : q.num < 0 ↔ q < 0 := by
  have := Rat.num_nonneg (q := q)
  rw [← Rat.not_le, ← this]; omega
theorem rsign_eq (q : Rat) : rsign q = if q = 0 then 0 else if q < 0 then -1 else 1 := by
  unfold rsign
  simp only [num_neg_iff, Rat.num_eq_zero]
theorem rabs_eq (q : Rat) : rabs q = if q < 0 then -q else q := by
  unfold rabs
  simp only [num_neg_iff]
theorem rlt_asymm {p q : Rat} (h : p < q) : ¬ q < p := Rat.not_lt.2 (Rat.le_of_lt h)
theorem req_of {p q : Rat} (h : ¬ p < q) (h2 : ¬ q < p) : p = q := Rat.le_antisymm (Rat.not_lt.1 h2) (Rat.not_lt.1 h)
theorem rlt_irrefl (p : Rat) : ¬ p < p := Rat.lt_irrefl
theorem rcmp_sub (p q : Rat) : rsign (p - q) = rcmp p q := by
  rw [rsign_eq, rcmp]
  have h1 : p - q < 0 ↔ p < q := by rw [Rat.sub_lt_iff, Rat.zero_add]
  have h2 : p - q = 0 ↔ p = q := ⟨fun h => by have := Rat.sub_add_cancel (a := p) (b := q); rw [h, Rat.zero_add] at this; exact this.symm, fun h => by rw [h, Rat.sub_self]⟩
  by_cases ha : p < q
  · have : p ≠ q := fun e => by rw [e] at ha; exact rlt_irrefl _ ha
    rw [if_neg (fun e => this (h2.1 e)), if_pos (h1.2 ha), if_pos ha]
  · by_cases hb : q < p
    · have : p ≠ q := fun e => by rw [e] at hb; exact rlt_irrefl _ hb
      rw [if_neg (fun e => this (h2.1 e)), if_neg (fun e => ha (h1.1 e)), if_neg ha, if_pos hb]
    · rw [if_pos (h2.2 (req_of ha hb)), if_neg ha, if_neg hb]
theorem rcmp_swap (p q : Rat) : rcmp q p = -rcmp p q := by
  unfold rcmp
  by_cases ha : p < q
  · rw [if_neg (rlt_asymm ha), if_pos ha, if_pos ha]; rfl
  · by_cases hb : q < p
    · rw [if_pos hb, if_neg ha, if_pos hb]
    · rw [if_neg hb, if_neg ha, if_neg ha, if_neg hb]; rfl
theorem rcmp_zero (p q : Rat) : (rcmp p q = 0) = (p = q) := by
  apply propext
  unfold rcmp
  by_cases ha : p < q
  · rw [if_pos ha]; exact ⟨fun h => absurd h (by decide), fun e => absurd ha (by rw [e]; exact rlt_irrefl _)⟩
  · by_cases hb : q < p
    · rw [if_neg ha, if_pos hb]; exact ⟨fun h => absurd h (by decide), fun e => absurd hb (by rw [e]; exact rlt_irrefl _)⟩
    · rw [if_neg ha, if_neg hb]; exact ⟨fun _ => req_of ha hb, fun _ => rfl⟩
theorem rminmax (p q : Rat) : rcmp (rmin p q) (rmax p q) ≤ 0 ∧ rmin p q + rmax p q = p + q := by
  unfold rmin rmax
  by_cases ha : p < q
  · have e : rcmp p q = -1 := by rw [rcmp, if_pos ha]
    rw [e, if_pos (by omega), if_neg (by omega), e]; exact ⟨by omega, rfl⟩
  · by_cases hb : q < p
    · have e : rcmp p q = 1 := by rw [rcmp, if_neg ha, if_pos hb]
      have e' : rcmp q p = -1 := by rw [rcmp_swap, e]
      rw [e, if_neg (by omega), if_pos (by omega), e']; exact ⟨by omega, Rat.add_comm _ _⟩
    · have h := req_of ha hb
      subst h
      have e : rcmp p p = 0 := by rw [rcmp_zero]
      simp [e]
theorem rcmp_add (p q r : Rat) : rcmp (p + r) (q + r) = rcmp p q := by
  unfold rcmp
  simp only [Rat.add_lt_add_right]
theorem rcmp_mul (p q r : Rat) : rcmp (p * r) (q * r) = rcmp p q * rsign r := by
  rw [rsign_eq]
  by_cases h0 : r = 0
  · subst h0
    rw [if_pos rfl, Rat.mul_zero, Rat.mul_zero, Int.mul_zero, rcmp_zero]
  · rw [if_neg h0]
    by_cases hn : r < 0
    · rw [if_pos hn]
      have hs : 0 < -r := by rw [← Rat.neg_zero]; exact Rat.neg_lt_neg hn
      have e : ∀ x : Rat, x * r = -(x * -r) := fun x => by rw [Rat.mul_neg, Rat.neg_neg]
      rw [e p, e q]
      unfold rcmp
      simp only [Rat.neg_lt_neg_iff, Rat.mul_lt_mul_right hs]
      by_cases ha : p < q
      · rw [if_neg (rlt_asymm ha), if_pos ha, if_pos ha]; rfl
      · by_cases hb : q < p
        · rw [if_pos hb, if_neg ha, if_pos hb]; rfl
        · rw [if_neg hb, if_neg ha, if_neg ha, if_neg hb]; rfl
    · rw [if_neg hn]
      have hs : 0 < r := Rat.lt_of_le_of_ne (Rat.not_lt.1 hn) (Ne.symm h0)
      unfold rcmp
      simp only [Rat.mul_lt_mul_right hs, Int.mul_one]

theorem rabs_mul (p q : Rat) : rabs p * rabs q = rabs (p * q) := by
  rw [rabs_eq, rabs_eq, rabs_eq]
  have hneg : ∀ {x : Rat}, x < 0 → 0 < -x := fun {x} h => by rw [← Rat.neg_zero]; exact Rat.neg_lt_neg h
  by_cases hp : p < 0
  · rw [if_pos hp]
    by_cases hq : q < 0
    · rw [if_pos hq, Rat.neg_mul, Rat.mul_neg, Rat.neg_neg, if_neg]
      have := Rat.mul_pos (hneg hp) (hneg hq)
      rw [Rat.neg_mul, Rat.mul_neg, Rat.neg_neg] at this
      exact rlt_asymm this
    · rw [if_neg hq]
      by_cases h0 : q = 0
      · subst h0; rw [Rat.mul_zero, Rat.mul_zero, if_neg (rlt_irrefl _)]
      · have hs : 0 < q := Rat.lt_of_le_of_ne (Rat.not_lt.1 hq) (Ne.symm h0)
        have := Rat.mul_pos (hneg hp) hs
        rw [Rat.neg_mul] at this
        rw [if_pos, Rat.neg_mul]
        have := Rat.neg_lt_neg this
        rwa [Rat.neg_neg, Rat.neg_zero] at this
  · rw [if_neg hp]
    by_cases hq : q < 0
    · rw [if_pos hq]
      by_cases h0 : p = 0
      · subst h0; rw [Rat.zero_mul, Rat.zero_mul, if_neg (rlt_irrefl _)]
      · have hs : 0 < p := Rat.lt_of_le_of_ne (Rat.not_lt.1 hp) (Ne.symm h0)
        have := Rat.mul_pos hs (hneg hq)
        rw [Rat.mul_neg] at this
        rw [if_pos, Rat.mul_neg]
        have := Rat.neg_lt_neg this
        rwa [Rat.neg_neg, Rat.neg_zero] at this
    · rw [if_neg hq, if_neg]
      exact Rat.not_lt.2 (Rat.mul_nonneg (Rat.not_lt.1 hp) (Rat.not_lt.1 hq))

theorem rcmp_bound (p q : Rat) : -1 ≤ rcmp p q ∧ rcmp p q ≤ 1 := by
  unfold rcmp
  split
  · omega
  · split <;> omega
theorem rsign_bound (q : Rat) : -1 ≤ rsign q ∧ rsign q ≤ 1 := by
  unfold rsign
  split
  · omega
  · split <;> omega
theorem Sz.abs {q : Rat} {k : Nat} (h : Sz q k) : Sz (rabs q) k := by unfold rabs; split; exact h.neg; exact h
theorem Sz.min {p q : Rat} {k : Nat} (hp : Sz p k) (hq : Sz q k) : Sz (rmin p q) k := by unfold rmin; split; exact hp; exact hq
theorem Sz.max {p q : Rat} {k : Nat} (hp : Sz p k) (hq : Sz q k) : Sz (rmax p q) k := by unfold rmax; split; exact hp; exact hq

end Go.Proofs.YtjkimjmocfjjnaaDoor.Ab

/- Rational numbers, rounded. -/
namespace Go.Proofs.YtjkimjmocfjjnaaDoor.Ab
open Go.RowKit
set_option linter.unusedVariables false
set_option linter.unusedSimpArgs false
set_option maxRecDepth 100000

def rdown (q : Rat) (d : Nat) : Rat := mkRat (q * rOf d).floor d
def rup (q : Rat) (d : Nat) : Rat := -rdown (-q) d
theorem rOf_pos {d : Nat} (h : 0 < d) : (0 : Rat) < rOf d := by
  rw [rOf_eq]
  exact Rat.intCast_pos.2 (by omega)
theorem mkRat_mul_of {F : Int} {d : Nat} (h : 0 < d) : mkRat F d * rOf d = rOf F := by
  rw [rOf, rOf, Rat.mkRat_mul_mkRat, Nat.mul_one, Rat.mkRat_eq_iff (by omega) (by omega)]
  simp
theorem rdown_mul (q : Rat) {d : Nat} (h : 0 < d) : rdown q d * rOf d = rOf (q * rOf d).floor := mkRat_mul_of h
theorem unit_mul {d : Nat} (h : 0 < d) : rOf 1 / rOf d * rOf d = rOf 1 := Rat.div_mul_cancel (fun e => by have := rOf_pos h; rw [e] at this; exact Rat.lt_irrefl this)
theorem rOf_one : rOf 1 = 1 := by rw [rOf_eq]; rfl
theorem rdown_le (q : Rat) {d : Nat} (h : 0 < d) : rdown q d ≤ q := by
  refine Rat.le_of_mul_le_mul_right ?_ (rOf_pos h)
  rw [rdown_mul q h, rOf_eq]
  exact Rat.floor_le _
theorem rdown_lt (q : Rat) {d : Nat} (h : 0 < d) : q < rdown q d + rOf 1 / rOf d := by
  rw [← Rat.mul_lt_mul_right (rOf_pos h), Rat.add_mul, rdown_mul q h, unit_mul h, rOf_eq (q * rOf d).floor, rOf_one]
  have := Rat.lt_floor_add_one (q * rOf d)
  rw [Rat.intCast_add] at this
  exact this
theorem rup_ge (q : Rat) {d : Nat} (h : 0 < d) : q ≤ rup q d := by
  unfold rup
  have := Rat.neg_le_neg (rdown_le (-q) h)
  rwa [Rat.neg_neg] at this
theorem rup_lt (q : Rat) {d : Nat} (h : 0 < d) : rup q d - rOf 1 / rOf d < q := by
  have h1 := Rat.neg_lt_neg (rdown_lt (-q) h)
  rw [Rat.neg_neg, Rat.neg_add] at h1
  rw [Rat.sub_eq_add_neg]; exact h1
theorem floor_of (n : Int) : (rOf n).floor = n := by rw [rOf_eq]; exact Rat.floor_intCast n
theorem mkRat_unit {F : Int} {d : Nat} (h : 0 < d) : rOf F * (rOf 1 / rOf d) = mkRat F d := by
  have hne : rOf d ≠ 0 := fun e => by have := rOf_pos h; rw [e] at this; exact Rat.lt_irrefl this
  rw [← mkRat_mul_of (F := F) h, Rat.mul_assoc, Rat.mul_comm (rOf d), unit_mul h, rOf_one, Rat.mul_one]
theorem rdown_down (q : Rat) {d : Nat} (h : 0 < d) : rdown (rdown q d) d = rdown q d := by
  conv => lhs; unfold rdown
  rw [show mkRat (q * rOf d).floor d = rdown q d from rfl, rdown_mul q h, floor_of]; rfl
theorem rup_down (q : Rat) {d : Nat} (h : 0 < d) : rup (rdown q d) d = rdown q d := by
  unfold rup
  conv => lhs; unfold rdown
  rw [show mkRat (q * rOf d).floor d = rdown q d from rfl, Rat.neg_mul, rdown_mul q h]
  have e : -rOf (q * rOf d).floor = rOf (-(q * rOf d).floor) := Rat.neg_mkRat _ _
  rw [e, floor_of, Rat.neg_mkRat, Int.neg_neg]; rfl
theorem rdown_one (q : Rat) : rOf q.floor = rdown q 1 := by
  unfold rdown
  rw [show rOf ((1 : Nat) : Int) = 1 from rOf_one, Rat.mul_one]; rfl
theorem rcmp_le {p q : Rat} (h : p ≤ q) : rcmp p q ≤ 0 := by
  unfold rcmp
  split
  · omega
  · rw [if_neg (Rat.not_lt.2 h)]; omega
theorem rcmp_lt {p q : Rat} (h : p < q) : rcmp p q = -1 := by rw [rcmp, if_pos h]
theorem rcmp_ge {p q : Rat} (h : q ≤ p) : 0 ≤ rcmp p q := by
  unfold rcmp
  rw [if_neg (Rat.not_lt.2 h)]
  split <;> omega
theorem floor_abs (q : Rat) : q.floor.natAbs ≤ q.num.natAbs := by
  rw [Rat.floor_def]
  exact Int.natAbs_ediv_le_natAbs _ _
theorem floor_sgn (q : Rat) : sgn (decide (q.num < 0)) (if q.num < 0 ∧ q.num.natAbs % q.den ≠ 0 then q.num.natAbs / q.den + 1 else q.num.natAbs / q.den) = q.floor := by
  rw [Rat.floor_def]
  have hd := q.den_pos
  by_cases hn : q.num < 0
  · have e : q.num = -(q.num.natAbs : Int) := by omega
    rw [decide_eq_true hn]
    conv => rhs; rw [e]
    rw [Int.neg_ediv]
    by_cases hm : q.num.natAbs % q.den = 0
    · have hdv : (q.den : Int) ∣ (q.num.natAbs : Int) := Int.natCast_dvd_natCast.2 (Nat.dvd_of_mod_eq_zero hm)
      rw [if_neg (fun h => h.2 hm), if_pos hdv]
      unfold sgn; simp
    · have hdv : ¬ (q.den : Int) ∣ (q.num.natAbs : Int) := fun h => hm (Nat.mod_eq_zero_of_dvd (Int.natCast_dvd_natCast.1 h))
      rw [if_pos ⟨hn, hm⟩, if_neg hdv, Int.sign_eq_one_of_pos (by omega)]
      unfold sgn; simp; omega
  · rw [decide_eq_false hn, if_neg (fun h => hn h.1)]
    have e : q.num = (q.num.natAbs : Int) := by omega
    conv => rhs; rw [e]
    unfold sgn; simp

theorem Sz.floor {q : Rat} {k : Nat} (h : Sz q k) : Sz (rOf q.floor) k := sz_of (Nat.le_trans (floor_abs q) h.1) h.pos
theorem sz_nat {d k : Nat} (h1 : d ≤ k) (h2 : 1 ≤ k) : Sz (rOf d) k := sz_of (by omega) h2
theorem Sz.down {q : Rat} {d j k : Nat} (h : Sz q j) (hd : d ≤ k) (hk : 1 ≤ k) : Sz (rdown q d) (j * k) := by
  have h1 := h.mul (sz_nat hd hk)
  unfold rdown
  refine Sz.mk (Nat.le_trans (floor_abs _) h1.1) ?_ h1.pos
  have := Nat.le_mul_of_pos_left k h.pos
  omega
theorem Rz.floor {q : Rat} {k : Nat} (h : Rz q k) : Rz (rOf q.floor) k := by
  refine Rz.mk (nb_len_le' (floor_abs q) h.1) ?_ h.pos
  rw [nb_one]; exact h.pos
theorem Rz.of {n : Int} {k : Nat} (h : (nb n.natAbs).length ≤ k) (hk : 1 ≤ k) : Rz (rOf n) k := Rz.mk h (by rw [nb_one]; exact hk) hk
theorem Rz.down {q : Rat} {d j : Nat} (h : Rz q j) (hd : d ≤ 1000) : Rz (rdown q d) (j + 2) := by
  have h1 : Rz (rOf d) 2 := (sz_nat hd (by omega)).rz (nb_len_le.2 (by omega))
  have h2 := h.mul h1
  exact Rz.mk (nb_len_le' (floor_abs _) h2.1) (Nat.le_trans (nb_len_le.2 (show d < 256 ^ 2 by omega)) (by omega)) (by omega)
theorem Rz.up {q : Rat} {d j : Nat} (h : Rz q j) (hd : d ≤ 1000) : Rz (rup q d) (j + 2) := (h.neg.down hd).neg

section
variable {G : Gl} {fl : Nat} {A : Hp}

end
end Go.Proofs.YtjkimjmocfjjnaaDoor.Ab
