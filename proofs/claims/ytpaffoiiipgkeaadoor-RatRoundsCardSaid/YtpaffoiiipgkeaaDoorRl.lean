/- Rational numbers, rounded. -/
import Derived.Test.YtpaffoiiipgkeaaDoorRk
namespace Go.Proofs.YtpaffoiiipgkeaaDoor.Ab
open Go.RowKit
set_option linter.unusedVariables false
set_option linter.unusedSimpArgs false
set_option maxRecDepth 100000

def rdown (q : Rat) (d : Nat) : Rat := mkRat (q * rOf d).floor d
def rup (q : Rat) (d : Nat) : Rat := -rdown (-q) d
theorem rOf_pos {d : Nat} (h : 0 < d) : (0 : Rat) < rOf d := by
  rw [rOf_eq]
  exact Rat.intCast_pos.2 (by omega)
theorem mkRat_mul_of {F : Int} {d : Nat} (h : 0 < d) : mkRat F d * rOf d = rOf F := by
  rw [rOf, rOf, Rat.mkRat_mul_mkRat, Nat.mul_one, Rat.mkRat_eq_iff (by omega) (by omega)]
  simp
theorem rdown_mul (q : Rat) {d : Nat} (h : 0 < d) : rdown q d * rOf d = rOf (q * rOf d).floor := mkRat_mul_of h
theorem unit_mul {d : Nat} (h : 0 < d) : rOf 1 / rOf d * rOf d = rOf 1 := Rat.div_mul_cancel (fun e => by have := rOf_pos h; rw [e] at this; exact Rat.lt_irrefl this)
theorem rOf_one : rOf 1 = 1 := by rw [rOf_eq]; rfl
theorem rdown_le (q : Rat) {d : Nat} (h : 0 < d) : rdown q d ≤ q := by
  refine Rat.le_of_mul_le_mul_right ?_ (rOf_pos h)
  rw [rdown_mul q h, rOf_eq]
  exact Rat.floor_le _
theorem rdown_lt (q : Rat) {d : Nat} (h : 0 < d) : q < rdown q d + rOf 1 / rOf d := by
  rw [← Rat.mul_lt_mul_right (rOf_pos h), Rat.add_mul, rdown_mul q h, unit_mul h, rOf_eq (q * rOf d).floor, rOf_one]
  have := Rat.lt_floor_add_one (q * rOf d)
  rw [Rat.intCast_add] at this
  exact this
theorem rup_ge (q : Rat) {d : Nat} (h : 0 < d) : q ≤ rup q d := by
  unfold rup
  have := Rat.neg_le_neg (rdown_le (-q) h)
  rwa [Rat.neg_neg] at this
theorem rup_lt (q : Rat) {d : Nat} (h : 0 < d) : rup q d - rOf 1 / rOf d < q := by
  have h1 := Rat.neg_lt_neg (rdown_lt (-q) h)
  rw [Rat.neg_neg, Rat.neg_add] at h1
  rw [Rat.sub_eq_add_neg]; exact h1
theorem floor_of (n : Int) : (rOf n).floor = n := by rw [rOf_eq]; exact Rat.floor_intCast n
theorem mkRat_unit {F : Int} {d : Nat} (h : 0 < d) : rOf F * (rOf 1 / rOf d) = mkRat F d := by
  have hne : rOf d ≠ 0 := fun e => by have := rOf_pos h; rw [e] at this; exact Rat.lt_irrefl this
  rw [← mkRat_mul_of (F := F) h, Rat.mul_assoc, Rat.mul_comm (rOf d), unit_mul h, rOf_one, Rat.mul_one]
theorem rdown_down (q : Rat) {d : Nat} (h : 0 < d) : rdown (rdown q d) d = rdown q d := by
  conv => lhs; unfold rdown
  rw [show mkRat (q * rOf d).floor d = rdown q d from rfl, rdown_mul q h, floor_of]; rfl
theorem rup_down (q : Rat) {d : Nat} (h : 0 < d) : rup (rdown q d) d = rdown q d := by
  unfold rup
  conv => lhs; unfold rdown
  rw [show mkRat (q * rOf d).floor d = rdown q d from rfl, Rat.neg_mul, rdown_mul q h]
  have e : -rOf (q * rOf d).floor = rOf (-(q * rOf d).floor) := Rat.neg_mkRat _ _
  rw [e, floor_of, Rat.neg_mkRat, Int.neg_neg]; rfl
theorem rdown_one (q : Rat) : rOf q.floor = rdown q 1 := by
  unfold rdown
  rw [show rOf ((1 : Nat) : Int) = 1 from rOf_one, Rat.mul_one]; rfl
theorem rcmp_le {p q : Rat} (h : p ≤ q) : rcmp p q ≤ 0 := by
  unfold rcmp
  split
  · omega
  · rw [if_neg (Rat.not_lt.2 h)]; omega
theorem rcmp_lt {p q : Rat} (h : p < q) : rcmp p q = -1 := by rw [rcmp, if_pos h]
theorem rcmp_ge {p q : Rat} (h : q ≤ p) : 0 ≤ rcmp p q := by
  unfold rcmp
  rw [if_neg (Rat.not_lt.2 h)]
  split <;> omega
theorem floor_abs (q : Rat) : q.floor.natAbs ≤ q.num.natAbs := by
  rw [Rat.floor_def]
  exact Int.natAbs_ediv_le_natAbs _ _
theorem floor_sgn (q : Rat) : sgn (decide (q.num < 0)) (if q.num < 0 ∧ q.num.natAbs % q.den ≠ 0 then q.num.natAbs / q.den + 1 else q.num.natAbs / q.den) = q.floor := by
  rw [Rat.floor_def]
  have hd := q.den_pos
  by_cases hn : q.num < 0
  · have e : q.num = -(q.num.natAbs : Int) := by omega
    rw [decide_eq_true hn]
    conv => rhs; rw [e]
    rw [Int.neg_ediv]
    by_cases hm : q.num.natAbs % q.den = 0
    · have hdv : (q.den : Int) ∣ (q.num.natAbs : Int) := Int.natCast_dvd_natCast.2 (Nat.dvd_of_mod_eq_zero hm)
      rw [if_neg (fun h => h.2 hm), if_pos hdv]
      unfold sgn; simp
    · have hdv : ¬ (q.den : Int) ∣ (q.num.natAbs : Int) := fun h => hm (Nat.mod_eq_zero_of_dvd (Int.natCast_dvd_natCast.1 h))
      rw [if_pos ⟨hn, hm⟩, if_neg hdv, Int.sign_eq_one_of_pos (by omega)]
      unfold sgn; simp; omega
  · rw [decide_eq_false hn, if_neg (fun h => hn h.1)]
    have e : q.num = (q.num.natAbs : Int) := by omega
    conv => rhs; rw [e]
    unfold sgn; simp

theorem Sz.floor {q : Rat} {k : Nat} (h : Sz q k) : Sz (rOf q.floor) k := sz_of (Nat.le_trans (floor_abs q) h.1) h.pos
theorem sz_nat {d k : Nat} (h1 : d ≤ k) (h2 : 1 ≤ k) : Sz (rOf d) k := sz_of (by omega) h2
theorem Sz.down {q : Rat} {d j k : Nat} (h : Sz q j) (hd : d ≤ k) (hk : 1 ≤ k) : Sz (rdown q d) (j * k) := by
  have h1 := h.mul (sz_nat hd hk)
  unfold rdown
  refine Sz.mk (Nat.le_trans (floor_abs _) h1.1) ?_ h1.pos
  have := Nat.le_mul_of_pos_left k h.pos
  omega

section
variable {G : Gl} {fl : Nat} {A : Hp}

theorem whole_ok {q : Rat} {k : Nat} (hq : Sz q k) (hb : k < 18446744073709551615) : Sound Tryd.prog G 59 [ratV q] fl A (ratV (rOf q.floor)) A := by
  refine Sound.of mixed Tryd.func59 Tryd.ntmps59 Tryd.results59 (by kernel_rfl) rfl (by kernel_rfl) (by simp) fun hA => ?_
  obtain ⟨q1, q2⟩ := id hq
  have hfl : fl ≤ A.next := hA.floor
  have hfl1 : fl ≤ A.next + 1 := by omega
  have hd := rat_den_pos q
  have hrb := ratV_rb A.next (rOf q.floor)
  have hlq : q.num.natAbs / q.den ≤ k := Nat.le_trans (Nat.div_le_self _ _) q1
  have l1 : (nb (q.num.natAbs / q.den)).length ≤ 8 := nb8.2 (by omega)
  have hfs := floor_sgn q
  have hm := fun neg m (h : m < 18446744073709551616) fl A => made_ok (G := G) (fl := fl) (A := A) (neg := neg) (m := m) (d := 1) (by omega) h (by omega)
  have ha := fun fl A => addN (G := G) (fl := fl) (A := A) (m := q.num.natAbs / q.den) (n := 1) (by omega) (by rw [nb_one]; decide)
  rw [nb_one] at hm ha
  have hmod : (nb (q.num.natAbs % q.den) = []) = (q.num.natAbs % q.den = 0) := nb_nil_eq _
  rw [ratV_def]
  simp only [↓R1, R2, R3, R4, TY, reduceIte, Nat.reduceEqDiff, Nat.reduceAdd, Nat.reduceMul, Nat.reduceLT, Nat.reduceLeDiff, reduceCtorEq, decide_true, decide_false, Int.reduceLE, Int.reduceLT, Int.reduceToNat, Int.reduceAdd, Int.reduceSub, Int.reduceMul, Int.reduceEq]
  refine call_of (divN (by omega) (by omega) hd) ?_
  have hend : ∀ b1 b2 b3, Ended A (ratV (rOf q.floor)) (((A.push b1).push b2).put (A.next + 1) b3) (ratV (rOf q.floor)) A := fun b1 b2 b3 => Ended.back hA (((Xt.refl A).push _).push _ |>.put (by omega) _) rfl hrb
  by_cases hn : q.num < 0
  · have hn' : (q.num < 0) = True := eq_true hn
    by_cases hz : q.num.natAbs % q.den = 0
    · have hz' : (q.num.natAbs % q.den = 0) = True := eq_true hz
      rw [if_neg (fun h => h.2 hz), decide_eq_true hn] at hfs
      have hmm := hm true (q.num.natAbs / q.den) (by omega)
      rw [hfs] at hmm
      simp only [↓R1, R2, R3, R4, TY, reduceIte, Nat.reduceEqDiff, Nat.reduceAdd, Nat.reduceMul, Nat.reduceLT, Nat.reduceLeDiff, reduceCtorEq, decide_true, decide_false, Int.reduceLE, Int.reduceLT, Int.reduceToNat, Int.reduceAdd, Int.reduceSub, Int.reduceMul, Int.reduceEq, hn', S_inj, hmod, hz', NE]
      refine call_of (hmm _ _) ?_
      unfold rOf at hend ⊢
      rw [ratV_def] at hend ⊢
      simp only [↓R1, R2, R3, R4, TY, reduceIte, Nat.reduceEqDiff, Nat.reduceAdd, Nat.reduceMul, Nat.reduceLT, Nat.reduceLeDiff, reduceCtorEq, decide_true, decide_false, Int.reduceLE, Int.reduceLT, Int.reduceToNat, Int.reduceAdd, Int.reduceSub, Int.reduceMul, Int.reduceEq, hfl1, NE]
      exact hend _ _ _
    · have hz' : (q.num.natAbs % q.den = 0) = False := eq_false hz
      rw [if_pos ⟨hn, hz⟩, decide_eq_true hn] at hfs
      have hmm := hm true (q.num.natAbs / q.den + 1) (by omega)
      rw [hfs] at hmm
      simp only [↓R1, R2, R3, R4, TY, reduceIte, Nat.reduceEqDiff, Nat.reduceAdd, Nat.reduceMul, Nat.reduceLT, Nat.reduceLeDiff, reduceCtorEq, decide_true, decide_false, Int.reduceLE, Int.reduceLT, Int.reduceToNat, Int.reduceAdd, Int.reduceSub, Int.reduceMul, Int.reduceEq, hn', S_inj, hmod, hz', NE]
      refine call_of (ha _ _) ?_
      simp only [↓R1, R2, R3, R4, TY, reduceIte, Nat.reduceEqDiff, Nat.reduceAdd, Nat.reduceMul, Nat.reduceLT, Nat.reduceLeDiff, reduceCtorEq, decide_true, decide_false, Int.reduceLE, Int.reduceLT, Int.reduceToNat, Int.reduceAdd, Int.reduceSub, Int.reduceMul, Int.reduceEq, hn', NE]
      refine call_of (hmm _ _) ?_
      unfold rOf at hend ⊢
      rw [ratV_def] at hend ⊢
      simp only [↓R1, R2, R3, R4, TY, reduceIte, Nat.reduceEqDiff, Nat.reduceAdd, Nat.reduceMul, Nat.reduceLT, Nat.reduceLeDiff, reduceCtorEq, decide_true, decide_false, Int.reduceLE, Int.reduceLT, Int.reduceToNat, Int.reduceAdd, Int.reduceSub, Int.reduceMul, Int.reduceEq, hfl1, NE]
      exact hend _ _ _
  · have hn' : (q.num < 0) = False := eq_false hn
    rw [if_neg (fun h => hn h.1), decide_eq_false hn] at hfs
    have hmm := hm false (q.num.natAbs / q.den) (by omega)
    rw [hfs] at hmm
    simp only [↓R1, R2, R3, R4, TY, reduceIte, Nat.reduceEqDiff, Nat.reduceAdd, Nat.reduceMul, Nat.reduceLT, Nat.reduceLeDiff, reduceCtorEq, decide_true, decide_false, Int.reduceLE, Int.reduceLT, Int.reduceToNat, Int.reduceAdd, Int.reduceSub, Int.reduceMul, Int.reduceEq, hn', NE]
    refine call_of (hmm _ _) ?_
    unfold rOf at hend ⊢
    rw [ratV_def] at hend ⊢
    simp only [↓R1, R2, R3, R4, TY, reduceIte, Nat.reduceEqDiff, Nat.reduceAdd, Nat.reduceMul, Nat.reduceLT, Nat.reduceLeDiff, reduceCtorEq, decide_true, decide_false, Int.reduceLE, Int.reduceLT, Int.reduceToNat, Int.reduceAdd, Int.reduceSub, Int.reduceMul, Int.reduceEq, hfl1, NE]
    exact hend _ _ _

theorem nint_ok {m : Nat} (h : m ≤ 9223372036854775807) : Sound Tryd.prog G 60 [.string (S (nb m))] fl A (.tuple [Value.int .i64 (m : Nat), .int .i64 0].toArray) A := by
  refine Sound.of mixed Tryd.func60 Tryd.ntmps60 Tryd.results60 (by kernel_rfl) rfl (by kernel_rfl) (by simp) fun hA => ?_
  have l1 : (nb m).length ≤ 8 := nb8.2 (by omega)
  have hc : ((8 : Int) < ((nb m).length : Nat)) = False := eq_false (by omega)
  have hc2 : ((9223372036854775807 : Int) < ((m : Nat) : Int)) = False := eq_false (by omega)
  have w1 : IntKind.i64.wrap ((m : Nat) : Int) = ((m : Nat) : Int) := wrapI (by omega)
  simp only [↓R1, R2, R3, R4, TY, reduceIte, Nat.reduceEqDiff, Nat.reduceAdd, Nat.reduceMul, Nat.reduceLT, Nat.reduceLeDiff, reduceCtorEq, decide_true, decide_false, Int.reduceLE, Int.reduceLT, Int.reduceToNat, Int.reduceAdd, Int.reduceSub, Int.reduceMul, Int.reduceEq]
  refine call_of (trim_ok _) ?_
  simp only [↓R1, R2, R3, R4, TY, reduceIte, Nat.reduceEqDiff, Nat.reduceAdd, Nat.reduceMul, Nat.reduceLT, Nat.reduceLeDiff, reduceCtorEq, decide_true, decide_false, Int.reduceLE, Int.reduceLT, Int.reduceToNat, Int.reduceAdd, Int.reduceSub, Int.reduceMul, Int.reduceEq, nv_nb, S_size, hc]
  refine call_of (shortN (by omega)) ?_
  simp only [↓R1, R2, R3, R4, TY, reduceIte, Nat.reduceEqDiff, Nat.reduceAdd, Nat.reduceMul, Nat.reduceLT, Nat.reduceLeDiff, reduceCtorEq, decide_true, decide_false, Int.reduceLE, Int.reduceLT, Int.reduceToNat, Int.reduceAdd, Int.reduceSub, Int.reduceMul, Int.reduceEq, hc2]
  refine call_of (shortN (by omega)) ?_
  simp only [↓R1, R2, R3, R4, TY, reduceIte, Nat.reduceEqDiff, Nat.reduceAdd, Nat.reduceMul, Nat.reduceLT, Nat.reduceLeDiff, reduceCtorEq, decide_true, decide_false, Int.reduceLE, Int.reduceLT, Int.reduceToNat, Int.reduceAdd, Int.reduceSub, Int.reduceMul, Int.reduceEq, w1]
  refine Ended.back hA (Xt.refl _) rfl (RB.tuple fun w hw => ?_)
  simp only [List.mem_cons, List.not_mem_nil, or_false] at hw
  rcases hw with rfl | rfl <;> exact RB.int _ _

theorem rfloor_ok {q : Rat} {k : Nat} (hq : Sz q k) (hb : k < 9223372036854775807) : Sound Tryd.prog G 40 [ratV q] fl A (.tuple [Value.int .i64 q.floor, .int .i64 0].toArray) A := by
  refine Sound.of mixed Tryd.func40 Tryd.ntmps40 Tryd.results40 (by kernel_rfl) rfl (by kernel_rfl) (by simp) fun hA => ?_
  have hfl : fl ≤ A.next := hA.floor
  have fq := fun fl A => fit_ok (G := G) (fl := fl) (A := A) (q := q) (by have := hq.1; omega) (by have := hq.2; omega)
  have hw := fun fl A => whole_ok (G := G) (fl := fl) (A := A) hq (by omega)
  have hsz := hq.floor
  have hnum := rOf_num q.floor
  have h1 := hsz.1
  have hi := fun fl A => nint_ok (G := G) (fl := fl) (A := A) (m := (rOf q.floor).num.natAbs) (by omega)
  rw [ratV_def] at *
  rw [ratV_def (rOf q.floor), hnum] at hw
  rw [hnum] at hi h1
  simp only [↓R1, R2, R3, R4, TY, reduceIte, Nat.reduceEqDiff, Nat.reduceAdd, Nat.reduceMul, Nat.reduceLT, Nat.reduceLeDiff, reduceCtorEq, decide_true, decide_false, Int.reduceLE, Int.reduceLT, Int.reduceToNat, Int.reduceAdd, Int.reduceSub, Int.reduceMul, Int.reduceEq]
  refine call_of (fq _ _) ?_
  simp only [↓R1, R2, R3, R4, TY, reduceIte, Nat.reduceEqDiff, Nat.reduceAdd, Nat.reduceMul, Nat.reduceLT, Nat.reduceLeDiff, reduceCtorEq, decide_true, decide_false, Int.reduceLE, Int.reduceLT, Int.reduceToNat, Int.reduceAdd, Int.reduceSub, Int.reduceMul, Int.reduceEq]
  refine call_of (hw _ _) ?_
  simp only [↓R1, R2, R3, R4, TY, reduceIte, Nat.reduceEqDiff, Nat.reduceAdd, Nat.reduceMul, Nat.reduceLT, Nat.reduceLeDiff, reduceCtorEq, decide_true, decide_false, Int.reduceLE, Int.reduceLT, Int.reduceToNat, Int.reduceAdd, Int.reduceSub, Int.reduceMul, Int.reduceEq, hfl, NE]
  refine call_of (hi _ _) ?_
  simp only [↓R1, R2, R3, R4, TY, reduceIte, Nat.reduceEqDiff, Nat.reduceAdd, Nat.reduceMul, Nat.reduceLT, Nat.reduceLeDiff, reduceCtorEq, decide_true, decide_false, Int.reduceLE, Int.reduceLT, Int.reduceToNat, Int.reduceAdd, Int.reduceSub, Int.reduceMul, Int.reduceEq, hfl, NE]
  have w1 : IntKind.i64.wrap (0 - ((q.floor.natAbs : Nat) : Int)) = -((q.floor.natAbs : Nat) : Int) := by rw [wrapI (by omega)]; omega
  have hend : ∀ (x : Int) (B : Hp), Xt A.next A B → x = q.floor → Ended A (.tuple [Value.int .i64 x, .int .i64 0].toArray) B (.tuple [Value.int .i64 q.floor, .int .i64 0].toArray) A := by
    rintro x B hB rfl
    refine Ended.back hA hB rfl (RB.tuple fun w hw => ?_)
    simp only [List.mem_cons, List.not_mem_nil, or_false] at hw
    rcases hw with rfl | rfl <;> exact RB.int _ _
  simp only [↓R1, R2, R3, R4, TY, reduceIte, Nat.reduceEqDiff, Nat.reduceAdd, Nat.reduceMul, Nat.reduceLT, Nat.reduceLeDiff, reduceCtorEq, decide_true, decide_false, Int.reduceLE, Int.reduceLT, Int.reduceToNat, Int.reduceAdd, Int.reduceSub, Int.reduceMul, Int.reduceEq, w1]
  refine ⟨fun h => ?_, fun h => ?_⟩
  · exact hend _ _ (((Xt.refl A).push _).put (Nat.le_refl _) _) (by omega)
  · exact hend _ _ (((Xt.refl A).push _).put (Nat.le_refl _) _) (by omega)

theorem rdown_ok {q : Rat} {d j : Nat} (hq : Sz q j) (hd : 0 < d) (hd2 : d ≤ 1000) (hb : j < 1000000000) : Sound Tryd.prog G 38 [ratV q, .int .i64 (d : Nat)] fl A (ratV (rdown q d)) A := by
  refine Sound.of mixed Tryd.func38 Tryd.ntmps38 Tryd.results38 (by kernel_rfl) rfl (by kernel_rfl) (by simp) fun hA => ?_
  have hfl : fl ≤ A.next := hA.floor
  have hfl1 : fl ≤ A.next + 1 := by omega
  have hszd : Sz (rOf d) 1000 := sz_nat hd2 (by omega)
  have hszm := hq.mul hszd
  have hml := fun fl A => rmul_ok (G := G) (fl := fl) (A := A) hq hszd (by omega)
  have hwh := fun fl A => whole_ok (G := G) (fl := fl) (A := A) hszm (by omega)
  have hfa := floor_abs (q * rOf d)
  have hma := fun fl A => made_ok (G := G) (fl := fl) (A := A) (neg := decide ((q * rOf d).floor < 0)) (m := (q * rOf d).floor.natAbs) (d := d) (by omega) (by have := hszm.1; omega) (by omega)
  have hmx : (if (1 : Int) > ((d : Nat) : Int) then 1 else ((d : Nat) : Int)) = ((d : Nat) : Int) := by split <;> omega
  have hrb := ratV_rb A.next (rdown q d)
  have hrd : ratV (rOf d) = .agg #[.bool false, .string (S (nb d)), .string (S [1])] := by
    rw [ratV_def, rOf_num, rOf_den, nb_one, decide_eq_false (by omega)]; rfl
  have hof := fun fl A => of_ok (G := G) (fl := fl) (A := A) (n := (d : Int)) (by omega)
  rw [Int.toNat_natCast] at hof
  rw [sgn_num] at hma
  rw [hrd, ratV_def q, ratV_def (q * rOf d)] at hml
  rw [ratV_def (q * rOf d), ratV_def (rOf (q * rOf d).floor), rOf_num, rOf_den] at hwh
  rw [show mkRat (q * rOf d).floor d = rdown q d from rfl] at hma
  rw [ratV_def (rdown q d)] at hma hrb ⊢
  rw [ratV_def q]
  simp only [↓R1, R2, R3, R4, TY, reduceIte, Nat.reduceEqDiff, Nat.reduceAdd, Nat.reduceMul, Nat.reduceLT, Nat.reduceLeDiff, reduceCtorEq, decide_true, decide_false, Int.reduceLE, Int.reduceLT, Int.reduceToNat, Int.reduceAdd, Int.reduceSub, Int.reduceMul, Int.reduceEq, hmx]
  refine call_of (hof _ _) ?_
  simp only [↓R1, R2, R3, R4, TY, reduceIte, Nat.reduceEqDiff, Nat.reduceAdd, Nat.reduceMul, Nat.reduceLT, Nat.reduceLeDiff, reduceCtorEq, decide_true, decide_false, Int.reduceLE, Int.reduceLT, Int.reduceToNat, Int.reduceAdd, Int.reduceSub, Int.reduceMul, Int.reduceEq, hmx]
  refine call_of (hml _ _) ?_
  simp only [↓R1, R2, R3, R4, TY, reduceIte, Nat.reduceEqDiff, Nat.reduceAdd, Nat.reduceMul, Nat.reduceLT, Nat.reduceLeDiff, reduceCtorEq, decide_true, decide_false, Int.reduceLE, Int.reduceLT, Int.reduceToNat, Int.reduceAdd, Int.reduceSub, Int.reduceMul, Int.reduceEq, hfl, hfl1]
  refine call_of (hwh _ _) ?_
  simp only [↓R1, R2, R3, R4, TY, reduceIte, Nat.reduceEqDiff, Nat.reduceAdd, Nat.reduceMul, Nat.reduceLT, Nat.reduceLeDiff, reduceCtorEq, decide_true, decide_false, Int.reduceLE, Int.reduceLT, Int.reduceToNat, Int.reduceAdd, Int.reduceSub, Int.reduceMul, Int.reduceEq, hfl, hfl1, NE]
  refine call_of (hma _ _) ?_
  simp only [↓R1, R2, R3, R4, TY, reduceIte, Nat.reduceEqDiff, Nat.reduceAdd, Nat.reduceMul, Nat.reduceLT, Nat.reduceLeDiff, reduceCtorEq, decide_true, decide_false, Int.reduceLE, Int.reduceLT, Int.reduceToNat, Int.reduceAdd, Int.reduceSub, Int.reduceMul, Int.reduceEq, hfl, hfl1, NE]
  exact Ended.back hA ((((Xt.refl A).push _).push _).put (Nat.le_refl _) _ |>.put (by omega) _) rfl hrb

theorem rup_ok {q : Rat} {d j : Nat} (hq : Sz q j) (hd : 0 < d) (hd2 : d ≤ 1000) (hb : j < 1000000000) : Sound Tryd.prog G 39 [ratV q, .int .i64 (d : Nat)] fl A (ratV (rup q d)) A := by
  refine Sound.of mixed Tryd.func39 Tryd.ntmps39 Tryd.results39 (by kernel_rfl) rfl (by kernel_rfl) (by simp) fun hA => ?_
  have hfl1 : fl ≤ A.next + 1 := by have := hA.floor; omega
  have hn := fun fl A => rneg_ok (G := G) (fl := fl) (A := A) hq (by omega)
  have hdn := fun fl A => rdown_ok (G := G) (fl := fl) (A := A) hq.neg hd hd2 hb
  have hn2 := fun fl A => rneg_ok (G := G) (fl := fl) (A := A) (hq.neg.down hd2 (by omega)) (by omega)
  have hrb := ratV_rb A.next (rup q d)
  rw [show -rdown (-q) d = rup q d from rfl] at hn2
  rw [ratV_def q] at hn ⊢
  rw [ratV_def (rup q d)] at hn2 hrb ⊢
  simp only [↓R1, R2, R3, R4, TY, reduceIte, Nat.reduceEqDiff, Nat.reduceAdd, Nat.reduceMul, Nat.reduceLT, Nat.reduceLeDiff, reduceCtorEq, decide_true, decide_false, Int.reduceLE, Int.reduceLT, Int.reduceToNat, Int.reduceAdd, Int.reduceSub, Int.reduceMul, Int.reduceEq]
  refine call_of (hn _ _) ?_
  simp only [↓R1, R2, R3, R4, TY, reduceIte, Nat.reduceEqDiff, Nat.reduceAdd, Nat.reduceMul, Nat.reduceLT, Nat.reduceLeDiff, reduceCtorEq, decide_true, decide_false, Int.reduceLE, Int.reduceLT, Int.reduceToNat, Int.reduceAdd, Int.reduceSub, Int.reduceMul, Int.reduceEq]
  refine call_of (hdn _ _) ?_
  simp only [↓R1, R2, R3, R4, TY, reduceIte, Nat.reduceEqDiff, Nat.reduceAdd, Nat.reduceMul, Nat.reduceLT, Nat.reduceLeDiff, reduceCtorEq, decide_true, decide_false, Int.reduceLE, Int.reduceLT, Int.reduceToNat, Int.reduceAdd, Int.reduceSub, Int.reduceMul, Int.reduceEq]
  refine call_of (hn2 _ _) ?_
  simp only [↓R1, R2, R3, R4, TY, reduceIte, Nat.reduceEqDiff, Nat.reduceAdd, Nat.reduceMul, Nat.reduceLT, Nat.reduceLeDiff, reduceCtorEq, decide_true, decide_false, Int.reduceLE, Int.reduceLT, Int.reduceToNat, Int.reduceAdd, Int.reduceSub, Int.reduceMul, Int.reduceEq, hfl1, NE]
  exact Ended.back hA (((Xt.refl A).push _).push _ |>.put (by omega) _) rfl hrb
end
end Go.Proofs.YtpaffoiiipgkeaaDoor.Ab
