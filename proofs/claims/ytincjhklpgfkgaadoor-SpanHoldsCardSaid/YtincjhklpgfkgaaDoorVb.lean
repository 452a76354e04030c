/- Whatever numbers are taken from spans, their results are in the results of the spans. -/
import Derived.Test.YtincjhklpgfkgaaDoorVa
namespace Go.Proofs.YtincjhklpgfkgaaDoor.Ab
open Go.RowKit
set_option linter.unusedVariables false
set_option linter.unusedSimpArgs false
set_option maxRecDepth 100000

theorem lin_in {a b p : Rat} (h1 : a ≤ p) (h2 : p ≤ b) (q : Rat) : (a * q ≤ p * q ∧ p * q ≤ b * q) ∨ (b * q ≤ p * q ∧ p * q ≤ a * q) := by
  rcases Rat.le_total (a := 0) (b := q) with h | h
  · have e1 : 0 ≤ (p - a) * q := Rat.mul_nonneg (by grind) h
    have e2 : 0 ≤ (b - p) * q := Rat.mul_nonneg (by grind) h
    have e3 : (p - a) * q = p * q - a * q := by grind
    have e4 : (b - p) * q = b * q - p * q := by grind
    exact .inl ⟨by grind, by grind⟩
  · have e1 : 0 ≤ (p - a) * (-q) := Rat.mul_nonneg (by grind) (by grind)
    have e2 : 0 ≤ (b - p) * (-q) := Rat.mul_nonneg (by grind) (by grind)
    have e3 : (p - a) * (-q) = a * q - p * q := by grind
    have e4 : (b - p) * (-q) = p * q - b * q := by grind
    exact .inr ⟨by grind, by grind⟩
theorem mul_in {a b c d p q : Rat} (h1 : a ≤ p) (h2 : p ≤ b) (h3 : c ≤ q) (h4 : q ≤ d) : smlo a b c d ≤ p * q ∧ p * q ≤ smhi a b c d := by
  have l1 := lin_in h1 h2 q
  have l2 := lin_in h3 h4 a
  have l3 := lin_in h3 h4 b
  rw [Rat.mul_comm c a, Rat.mul_comm q a, Rat.mul_comm d a] at l2
  rw [Rat.mul_comm c b, Rat.mul_comm q b, Rat.mul_comm d b] at l3
  unfold smlo smhi
  simp only [rmin_def, rmax_def]
  generalize a * q = x1 at *
  generalize b * q = x2 at *
  generalize p * q = x3 at *
  generalize a * c = x4 at *
  generalize a * d = x5 at *
  generalize b * c = x6 at *
  generalize b * d = x7 at *
  constructor <;> grind
theorem diff_sq (x y : Rat) : (x - y) * (x + y) = x * x - y * y := by grind
theorem sq_in {a b p : Rat} (h1 : a ≤ p) (h2 : p ≤ b) : sqlo a b ≤ p * p ∧ p * p ≤ sqhi a b := by
  have hi : p * p ≤ a * a ∨ p * p ≤ b * b := by
    rcases Rat.le_total (a := 0) (b := p) with h | h
    · have := Rat.mul_nonneg (a := b - p) (b := b + p) (by grind) (by grind)
      rw [diff_sq] at this; exact .inr (by grind)
    · have := Rat.mul_nonneg (a := -a - -p) (b := -a + -p) (by grind) (by grind)
      rw [diff_sq] at this; exact .inl (by grind)
  have hpp : 0 ≤ p * p := by
    rcases Rat.le_total (a := 0) (b := p) with h | h
    · exact Rat.mul_nonneg h h
    · have := Rat.mul_nonneg (a := -p) (b := -p) (by grind) (by grind)
      grind
  have lo : (a ≤ 0 ∧ 0 ≤ b) ∨ a * a ≤ p * p ∨ b * b ≤ p * p := by
    by_cases ha : a ≤ 0
    · by_cases hb : 0 ≤ b
      · exact .inl ⟨ha, hb⟩
      · have := Rat.mul_nonneg (a := -p - -b) (b := -p + -b) (by grind) (by grind)
        rw [diff_sq] at this; exact .inr (.inr (by grind))
    · have := Rat.mul_nonneg (a := p - a) (b := p + a) (by grind) (by grind)
      rw [diff_sq] at this; exact .inr (.inl (by grind))
  unfold sqlo sqhi
  simp only [rmin_def, rmax_def]
  generalize p * p = x1 at *
  generalize a * a = x2 at *
  generalize b * b = x3 at *
  constructor <;> grind

theorem prt_in {a b : Rat} (h : a ≤ b) (k : Int) : a ≤ prt a b k ∧ prt a b k ≤ b := by
  have hr := below_range (x := k) (n := 9) (by omega)
  unfold prt
  generalize below k 9 = n at *
  have h1 : (0 : Rat) ≤ (n : Rat) := by exact_mod_cast hr.1
  have h2 : (n : Rat) ≤ (8 : Rat) := by exact_mod_cast (show n ≤ 8 by omega)
  have e : ((8 : Int) : Rat) = 8 := by rfl
  rw [e]
  generalize hx : (n : Rat) = x at *
  have ht : x / 8 * 8 = x := by grind
  generalize x / 8 = t at *
  have e1 : 0 ≤ t * (b - a) := Rat.mul_nonneg (by grind) (by grind)
  have e2 : 0 ≤ (1 - t) * (b - a) := Rat.mul_nonneg (by grind) (by grind)
  have e3 : (1 - t) * (b - a) = b - a - t * (b - a) := by grind
  constructor <;> grind
theorem sgn_zero {c d : Rat} (h : c ≤ d) : rsign c * rsign d ≤ 0 ↔ c ≤ 0 ∧ 0 ≤ d := by
  rw [rsign_eq, rsign_eq]
  by_cases hc : c = 0
  · rw [if_pos hc, Int.zero_mul]; subst hc; exact ⟨fun _ => ⟨Rat.le_refl, h⟩, fun _ => by omega⟩
  · by_cases hd : d = 0
    · rw [if_pos hd, Int.mul_zero]; subst hd; exact ⟨fun _ => ⟨h, Rat.le_refl⟩, fun _ => by omega⟩
    · rw [if_neg hc, if_neg hd]
      by_cases hc1 : c < 0 <;> by_cases hd1 : d < 0
      · rw [if_pos hc1, if_pos hd1]; exact ⟨fun h => by omega, fun h => by grind⟩
      · rw [if_pos hc1, if_neg hd1]; exact ⟨fun _ => by grind, fun _ => by omega⟩
      · rw [if_neg hc1, if_pos hd1]; grind
      · rw [if_neg hc1, if_neg hd1]; exact ⟨fun h => by omega, fun h => by grind⟩
theorem inv_in {c d q : Rat} (hz : ¬ (c ≤ 0 ∧ 0 ≤ d)) (h1 : c ≤ q) (h2 : q ≤ d) : 1 / d ≤ 1 / q ∧ 1 / q ≤ 1 / c ∧ q ≠ 0 := by
  by_cases hc : 0 < c
  · exact ⟨inv_le_pos (by grind) h2, inv_le_pos hc h1, by grind⟩
  · exact ⟨inv_le_neg (by grind) h2, inv_le_neg (by grind) h1, by grind⟩
theorem quo_in {a b c d p q : Rat} (hz : ¬ (c ≤ 0 ∧ 0 ≤ d)) (h1 : a ≤ p) (h2 : p ≤ b) (h3 : c ≤ q) (h4 : q ≤ d) : smlo a b (1 / d) (1 / c) ≤ p / q ∧ p / q ≤ smhi a b (1 / d) (1 / c) := by
  obtain ⟨e1, e2, e3⟩ := inv_in hz h3 h4
  have := mul_in h1 h2 e1 e2
  have e : p * (1 / q) = p / q := by grind
  rwa [e] at this
theorem Rz.smlo {a b c d : Rat} {j k : Nat} (ha : Rz a j) (hb : Rz b j) (hc : Rz c k) (hd : Rz d k) : Rz (smlo a b c d) (j + k) := (((ha.mul hc).min (ha.mul hd)).min (hb.mul hc)).min (hb.mul hd)
theorem Rz.smhi {a b c d : Rat} {j k : Nat} (ha : Rz a j) (hb : Rz b j) (hc : Rz c k) (hd : Rz d k) : Rz (smhi a b c d) (j + k) := (((ha.mul hc).max (ha.mul hd)).max (hb.mul hc)).max (hb.mul hd)
theorem Sp.add {a b c d : Rat} {j k : Nat} (h : Sp a b j) (h' : Sp c d k) : Sp (a + c) (b + d) (j + k + 1) := ⟨h.low.add h'.low, h.high.add h'.high, by have := h.le; have := h'.le; grind⟩
theorem Sp.mul {a b c d : Rat} {j k : Nat} (h : Sp a b j) (h' : Sp c d k) : Sp (Ab.smlo a b c d) (Ab.smhi a b c d) (j + k) := by
  have := mul_in (p := a) (q := c) (Rat.le_refl) h.le (Rat.le_refl) h'.le
  exact ⟨h.low.smlo h.high h'.low h'.high, h.low.smhi h.high h'.low h'.high, by grind⟩
theorem Sp.sq {a b : Rat} {j : Nat} (h : Sp a b j) : Sp (sqlo a b) (sqhi a b) (2 * j) := by
  have := sq_in (p := a) (Rat.le_refl) h.le
  have hj := h.low.pos
  refine ⟨?_, ((h.low.mul h.low).max (h.high.mul h.high)).mono (by omega), by grind⟩
  unfold sqlo
  split
  · exact rz_zero.mono (by omega)
  · exact ((h.low.mul h.low).min (h.high.mul h.high)).mono (by omega)
theorem Sp.out {a b : Rat} {d j : Nat} (h : Sp a b j) (hd : 0 < d) (hd2 : d ≤ 1000) : Sp (rdown a d) (rup b d) (j + 2) := ⟨h.low.down hd2, h.high.up hd2, by have := h.le; have := rdown_le a hd; have := rup_ge b hd; grind⟩
theorem Sp.div {a b c d : Rat} {j k : Nat} (h : Sp a b j) (h' : Sp c d k) (hz : ¬ rsign c * rsign d ≤ 0) : Sp (Ab.smlo a b (1 / d) (1 / c)) (Ab.smhi a b (1 / d) (1 / c)) (j + (1 + k)) := by
  have hc0 : c.num ≠ 0 := fun e => hz (by rw [rsign, if_pos e]; omega)
  have hd0 : d.num ≠ 0 := fun e => hz (by rw [show rsign d = 0 from by rw [rsign, if_pos e]]; omega)
  have ro : Rz 1 1 := Rz.of (n := 1) (k := 1) (by rw [show (1 : Int).natAbs = 1 from rfl, nb_one]; decide) (Nat.le_refl _)
  exact h.mul ⟨ro.div h'.high hd0, ro.div h'.low hc0, inv_le h'.le hz⟩

section
variable {G : Gl} {fl : Nat} {A : Hp}

theorem has_true {a b c : Rat} {j k : Nat} (hG : G 2 = some tabV) (h : Sp a b j) (hc : Rz c k) (hk : j + k ≤ 100000) (h1 : a ≤ c ∧ c ≤ b) : Sound Tryd.prog G 16 [prV a b, ratV c] fl A (.bool true) A := by
  have := shas (G := G) (fl := fl) (A := A) hG h hc hk
  rwa [decide_eq_true h1] at this
theorem has_false {a b c : Rat} {j k : Nat} (hG : G 2 = some tabV) (h : Sp a b j) (hc : Rz c k) (hk : j + k ≤ 100000) (h1 : ¬ (a ≤ c ∧ c ≤ b)) : Sound Tryd.prog G 16 [prV a b, ratV c] fl A (.bool false) A := by
  have := shas (G := G) (fl := fl) (A := A) hG h hc hk
  rwa [decide_eq_false h1] at this

set_option maxHeartbeats 4000000 in
theorem spanHolds_calls {x1 x2 x3 x4 x5 x6 : Int} (hG : G 2 = some tabV) (k1 : -9223372036854775808 ≤ x1 ∧ x1 ≤ 9223372036854775807) (k2 : -9223372036854775808 ≤ x2 ∧ x2 ≤ 9223372036854775807) (k3 : -9223372036854775808 ≤ x3 ∧ x3 ≤ 9223372036854775807) (k4 : -9223372036854775808 ≤ x4 ∧ x4 ≤ 9223372036854775807) (k5 : -9223372036854775808 ≤ x5 ∧ x5 ≤ 9223372036854775807) (k6 : -9223372036854775808 ≤ x6 ∧ x6 ≤ 9223372036854775807) :
    ∀ (μ : Mu) (w : World) (args' : Array Value), HR G μ fl A w → fl ≤ A.next → VRa μ A [.int .i64 x1, .int .i64 x2, .int .i64 x3, .int .i64 x4, .int .i64 x5, .int .i64 x6].toArray args' →
    Calls Tryd.prog 5 args' w fun e w' => ∃ u, e = .returned u ∧ ∃ ν, VR ν A (.bool true) u ∧ HR G ν fl A w' ∧ Trans fl μ A w ν A w' := by
  refine calls_of mixed Tryd.func5 Tryd.ntmps5 Tryd.results5 (by kernel_rfl) rfl (by kernel_rfl) (by simp) fun hA => ?_
  have hfl : fl ≤ A.next := by have := hA.floor; omega
  have hfl1 : fl ≤ A.next + 1 := by have := hA.floor; omega
  have hfl2 : fl ≤ A.next + 2 := by have := hA.floor; omega
  have hfl3 : fl ≤ A.next + 3 := by have := hA.floor; omega
  have hfl4 : fl ≤ A.next + 4 := by have := hA.floor; omega
  have hfl5 : fl ≤ A.next + 5 := by have := hA.floor; omega
  have hfl6 : fl ≤ A.next + 6 := by have := hA.floor; omega
  have bg := fun fl A => spanBegun_ok (G := G) (fl := fl) (A := A) hG
  have m1 := fun fl A => made_span (G := G) (fl := fl) (A := A) hG k1 k2
  have m2 := fun fl A => made_span (G := G) (fl := fl) (A := A) hG k3 k4
  have hs := made_sp x1 x2
  have ht := made_sp x3 x4
  generalize rmin (mrat x1) (mrat x2) = a at *
  generalize rmax (mrat x1) (mrat x2) = b at *
  generalize rmin (mrat x3) (mrat x4) = c at *
  generalize rmax (mrat x3) (mrat x4) = d at *
  have hab := hs.le
  have hcd := ht.le
  have ip := prt_in hab x5
  have iq := prt_in hcd x6
  have zp := prt_rz hs.low hs.high x5
  have zq := prt_rz ht.low ht.high x6
  have p1 := fun fl A => part_ok (G := G) (fl := fl) (A := A) hG hs.low hs.high k5 (by omega)
  have p2 := fun fl A => part_ok (G := G) (fl := fl) (A := A) hG ht.low ht.high k6 (by omega)
  generalize prt a b x5 = p at *
  generalize prt c d x6 = q at *
  have sz := sgn_zero hcd
  have z0 := fun fl A => rof_ok (G := G) (fl := fl) (A := A) (n := 0) (by decide) (by decide)
  have h1 := fun fl A => has_true (G := G) (fl := fl) (A := A) hG hs zp (by omega) ip
  have s2 := fun fl A => sadd (G := G) (fl := fl) (A := A) hG hs ht (by omega)
  have r2 := fun fl A => qadd (G := G) (fl := fl) (A := A) hG zp zq (by omega)
  have h2 := fun fl A => has_true (G := G) (fl := fl) (A := A) hG (hs.add ht) (zp.add zq) (by omega) (by constructor <;> grind)
  have s3 := fun fl A => ssub (G := G) (fl := fl) (A := A) hG hs ht (by omega)
  have r3 := fun fl A => qsub (G := G) (fl := fl) (A := A) hG zp zq (by omega)
  have h3 := fun fl A => has_true (G := G) (fl := fl) (A := A) hG (hs.sub ht) (zp.sub zq) (by omega) (by constructor <;> grind)
  have s4 := fun fl A => smul (G := G) (fl := fl) (A := A) hG hs ht (by omega)
  have r4 := fun fl A => qmul (G := G) (fl := fl) (A := A) hG zp zq (by omega)
  have h4 := fun fl A => has_true (G := G) (fl := fl) (A := A) hG (hs.mul ht) (zp.mul zq) (by omega) (mul_in ip.1 ip.2 iq.1 iq.2)
  have s5 := fun fl A => ssq (G := G) (fl := fl) (A := A) hG hs (by omega)
  have r5 := fun fl A => qmul (G := G) (fl := fl) (A := A) hG zp zp (by omega)
  have h5 := fun fl A => has_true (G := G) (fl := fl) (A := A) hG hs.sq (zp.mul zp) (by omega) (sq_in ip.1 ip.2)
  have s6 := fun fl A => sjoin (G := G) (fl := fl) (A := A) hG hs ht (by omega)
  have h6 := fun fl A => has_true (G := G) (fl := fl) (A := A) hG (hs.join ht) zp (by omega) (by rw [rmin_def, rmax_def]; constructor <;> grind)
  have h7 := fun fl A => has_true (G := G) (fl := fl) (A := A) hG (hs.join ht) zq (by omega) (by rw [rmin_def, rmax_def]; constructor <;> grind)
  have s8 := fun fl A => sout (G := G) (fl := fl) (A := A) hG hs (d := 7) (by omega) (by omega) (by omega)
  have h8 := fun fl A => has_true (G := G) (fl := fl) (A := A) hG (hs.out (d := 7) (by omega) (by omega)) zp (by omega) ⟨Rat.le_trans (rdown_le a (by omega)) ip.1, Rat.le_trans ip.2 (rup_ge b (by omega))⟩
  have fin : ∀ (x : Bool) (C : Hp), Xt A.next A C → x = true → Ended A (.bool x) C (.bool true) A := fun x C hC hx => Ended.back hA hC (congrArg _ hx) (RB.bool _)
  rw [rOf_zero, ratV_def] at z0
  rw [ratV_def] at p1 p2
  rw [prV_def] at m1 m2 p1 p2
  rw [prV_def, ratV_def] at h1 h2 h3 h4 h5 h6 h7 h8
  rw [prV_def, prV_def, prV_def] at s2 s3 s4 s6
  rw [prV_def, prV_def] at s5 s8
  rw [ratV_def, ratV_def q, ratV_def (_ + _)] at r2
  rw [ratV_def, ratV_def q, ratV_def (_ - _)] at r3
  rw [ratV_def, ratV_def q, ratV_def (_ * _)] at r4
  rw [ratV_def, ratV_def (_ * _)] at r5
  simp only [↓R1, R2, R3, R4, TY, reduceIte, Nat.reduceEqDiff, Nat.reduceAdd, Nat.reduceMul, Nat.reduceLT, Nat.reduceLeDiff, reduceCtorEq, decide_true, decide_false, Int.reduceLE, Int.reduceLT, Int.reduceToNat, Int.reduceAdd, Int.reduceSub, Int.reduceMul, Int.reduceEq, hfl, hfl1, hfl2, hfl3, hfl4, hfl5, hfl6, NE, NE9, Nat.add_assoc, beq_self_eq_true, tf_ne, ft_ne]
  refine call_of (bg _ _) ?_
  simp only [↓R1, R2, R3, R4, TY, reduceIte, Nat.reduceEqDiff, Nat.reduceAdd, Nat.reduceMul, Nat.reduceLT, Nat.reduceLeDiff, reduceCtorEq, decide_true, decide_false, Int.reduceLE, Int.reduceLT, Int.reduceToNat, Int.reduceAdd, Int.reduceSub, Int.reduceMul, Int.reduceEq, hfl, hfl1, hfl2, hfl3, hfl4, hfl5, hfl6, NE, NE9, Nat.add_assoc, beq_self_eq_true, tf_ne, ft_ne]
  refine call_of (m1 _ _) ?_
  simp only [↓R1, R2, R3, R4, TY, reduceIte, Nat.reduceEqDiff, Nat.reduceAdd, Nat.reduceMul, Nat.reduceLT, Nat.reduceLeDiff, reduceCtorEq, decide_true, decide_false, Int.reduceLE, Int.reduceLT, Int.reduceToNat, Int.reduceAdd, Int.reduceSub, Int.reduceMul, Int.reduceEq, hfl, hfl1, hfl2, hfl3, hfl4, hfl5, hfl6, NE, NE9, Nat.add_assoc, beq_self_eq_true, tf_ne, ft_ne]
  refine call_of (m2 _ _) ?_
  simp only [↓R1, R2, R3, R4, TY, reduceIte, Nat.reduceEqDiff, Nat.reduceAdd, Nat.reduceMul, Nat.reduceLT, Nat.reduceLeDiff, reduceCtorEq, decide_true, decide_false, Int.reduceLE, Int.reduceLT, Int.reduceToNat, Int.reduceAdd, Int.reduceSub, Int.reduceMul, Int.reduceEq, hfl, hfl1, hfl2, hfl3, hfl4, hfl5, hfl6, NE, NE9, Nat.add_assoc, beq_self_eq_true, tf_ne, ft_ne]
  refine call_of (p1 _ _) ?_
  simp only [↓R1, R2, R3, R4, TY, reduceIte, Nat.reduceEqDiff, Nat.reduceAdd, Nat.reduceMul, Nat.reduceLT, Nat.reduceLeDiff, reduceCtorEq, decide_true, decide_false, Int.reduceLE, Int.reduceLT, Int.reduceToNat, Int.reduceAdd, Int.reduceSub, Int.reduceMul, Int.reduceEq, hfl, hfl1, hfl2, hfl3, hfl4, hfl5, hfl6, NE, NE9, Nat.add_assoc, beq_self_eq_true, tf_ne, ft_ne]
  refine call_of (p2 _ _) ?_
  simp only [↓R1, R2, R3, R4, TY, reduceIte, Nat.reduceEqDiff, Nat.reduceAdd, Nat.reduceMul, Nat.reduceLT, Nat.reduceLeDiff, reduceCtorEq, decide_true, decide_false, Int.reduceLE, Int.reduceLT, Int.reduceToNat, Int.reduceAdd, Int.reduceSub, Int.reduceMul, Int.reduceEq, hfl, hfl1, hfl2, hfl3, hfl4, hfl5, hfl6, NE, NE9, Nat.add_assoc, beq_self_eq_true, tf_ne, ft_ne]
  rw [floOf_wr (by kernel_rfl)]
  simp only [↓R1, R2, R3, R4, TY, reduceIte, Nat.reduceEqDiff, Nat.reduceAdd, Nat.reduceMul, Nat.reduceLT, Nat.reduceLeDiff, reduceCtorEq, decide_true, decide_false, Int.reduceLE, Int.reduceLT, Int.reduceToNat, Int.reduceAdd, Int.reduceSub, Int.reduceMul, Int.reduceEq, hfl, hfl1, hfl2, hfl3, hfl4, hfl5, hfl6, NE, NE9, Nat.add_assoc, beq_self_eq_true, tf_ne, ft_ne]
  rw [floOf_wr (by kernel_rfl)]
  simp only [↓R1, R2, R3, R4, TY, reduceIte, Nat.reduceEqDiff, Nat.reduceAdd, Nat.reduceMul, Nat.reduceLT, Nat.reduceLeDiff, reduceCtorEq, decide_true, decide_false, Int.reduceLE, Int.reduceLT, Int.reduceToNat, Int.reduceAdd, Int.reduceSub, Int.reduceMul, Int.reduceEq, hfl, hfl1, hfl2, hfl3, hfl4, hfl5, hfl6, NE, NE9, Nat.add_assoc, beq_self_eq_true, tf_ne, ft_ne]
  by_cases hz : rsign c * rsign d ≤ 0
  · have dv := fun fl A => sdivz (G := G) (fl := fl) (A := A) hG hs ht (by omega) hz
    have hz0 := fun fl A => has_true (G := G) (fl := fl) (A := A) hG ht rz_zero (by omega) (sz.1 hz)
    rw [prV_def, prV_def] at dv
    rw [prV_def, ratV_def] at hz0
    obtain ⟨y1, y2, y3, e, rd⟩ : ∃ (y1 : Bool) (y2 y3 : ByteArray) (e : Int), ∀ fl A, Sound Tryd.prog G 31 [ratV p, ratV q] fl A (.tuple [Value.agg #[.bool y1, .string y2, .string y3], .int .i64 e].toArray) A := by
      by_cases hq : q.num = 0
      · exact ⟨_, _, _, 12, fun fl A => qdivz hG zp zq (by omega) hq⟩
      · exact ⟨_, _, _, 0, fun fl A => qdiv hG zp zq (by omega) hq⟩
    rw [ratV_def, ratV_def q] at rd
    refine call_of (dv _ _) ?_
    simp only [↓R1, R2, R3, R4, TY, reduceIte, Nat.reduceEqDiff, Nat.reduceAdd, Nat.reduceMul, Nat.reduceLT, Nat.reduceLeDiff, reduceCtorEq, decide_true, decide_false, Int.reduceLE, Int.reduceLT, Int.reduceToNat, Int.reduceAdd, Int.reduceSub, Int.reduceMul, Int.reduceEq, hfl, hfl1, hfl2, hfl3, hfl4, hfl5, hfl6, NE, NE9, Nat.add_assoc, beq_self_eq_true, tf_ne, ft_ne]
    refine call_of (rd _ _) ?_
    simp only [↓R1, R2, R3, R4, TY, reduceIte, Nat.reduceEqDiff, Nat.reduceAdd, Nat.reduceMul, Nat.reduceLT, Nat.reduceLeDiff, reduceCtorEq, decide_true, decide_false, Int.reduceLE, Int.reduceLT, Int.reduceToNat, Int.reduceAdd, Int.reduceSub, Int.reduceMul, Int.reduceEq, hfl, hfl1, hfl2, hfl3, hfl4, hfl5, hfl6, NE, NE9, Nat.add_assoc, beq_self_eq_true, tf_ne, ft_ne]
    refine call_of (z0 _ _) ?_
    simp only [↓R1, R2, R3, R4, TY, reduceIte, Nat.reduceEqDiff, Nat.reduceAdd, Nat.reduceMul, Nat.reduceLT, Nat.reduceLeDiff, reduceCtorEq, decide_true, decide_false, Int.reduceLE, Int.reduceLT, Int.reduceToNat, Int.reduceAdd, Int.reduceSub, Int.reduceMul, Int.reduceEq, hfl, hfl1, hfl2, hfl3, hfl4, hfl5, hfl6, NE, NE9, Nat.add_assoc, beq_self_eq_true, tf_ne, ft_ne]
    refine call_of (hz0 _ _) ?_
    simp only [↓R1, R2, R3, R4, TY, reduceIte, Nat.reduceEqDiff, Nat.reduceAdd, Nat.reduceMul, Nat.reduceLT, Nat.reduceLeDiff, reduceCtorEq, decide_true, decide_false, Int.reduceLE, Int.reduceLT, Int.reduceToNat, Int.reduceAdd, Int.reduceSub, Int.reduceMul, Int.reduceEq, hfl, hfl1, hfl2, hfl3, hfl4, hfl5, hfl6, NE, NE9, Nat.add_assoc, beq_self_eq_true, tf_ne, ft_ne]
    generalize hB : Hp.put _ (A.next + 1 + 1 + 1 + 1 + 1) _ = B
    have hBx : Xt A.next A B := by
      rw [← hB]
      simp (maxDischargeDepth := 20) only [xt_push, xt_put, xt_refl, Nat.le_refl, Nat.le_add_right, Nat.add_assoc, Nat.reduceAdd]
    have gs : ∀ i, B.get G ⟨A.next, i, some 0⟩ = ([.bool (decide (a.num < 0)), .string (S (nb a.num.natAbs)), .string (S (nb a.den)), .bool (decide (b.num < 0)), .string (S (nb b.num.natAbs)), .string (S (nb b.den))] : List Value)[i]? := fun i => by rw [← hB]; simp [Hp.get, Hp.put_blk, Hp.push_blk, Nat.add_assoc]
    have gt : ∀ i, B.get G ⟨A.next + 1, i, some 0⟩ = ([.bool (decide (c.num < 0)), .string (S (nb c.num.natAbs)), .string (S (nb c.den)), .bool (decide (d.num < 0)), .string (S (nb d.num.natAbs)), .string (S (nb d.den))] : List Value)[i]? := fun i => by rw [← hB]; simp [Hp.get, Hp.put_blk, Hp.push_blk, Nat.add_assoc]
    have gp : ∀ i, B.get G ⟨A.next + 2, i, some 0⟩ = ([.bool (decide (p.num < 0)), .string (S (nb p.num.natAbs)), .string (S (nb p.den))] : List Value)[i]? := fun i => by rw [← hB]; simp [Hp.get, Hp.put_blk, Hp.push_blk, Nat.add_assoc]
    have gq : ∀ i, B.get G ⟨A.next + 3, i, some 0⟩ = ([.bool (decide (q.num < 0)), .string (S (nb q.num.natAbs)), .string (S (nb q.den))] : List Value)[i]? := fun i => by rw [← hB]; simp [Hp.get, Hp.put_blk, Hp.push_blk, Nat.add_assoc]
    clear hB
    refine call_of (h1 _ _) ?_
    simp only [↓R1, R2, R3, R4, TY, reduceIte, Nat.reduceEqDiff, Nat.reduceAdd, Nat.reduceMul, Nat.reduceLT, Nat.reduceLeDiff, reduceCtorEq, decide_true, decide_false, Int.reduceLE, Int.reduceLT, Int.reduceToNat, Int.reduceAdd, Int.reduceSub, Int.reduceMul, Int.reduceEq, gs, gt, gp, gq, List.getElem?_cons_zero, List.getElem?_cons_succ, hfl, hfl1, hfl2, hfl3, hfl4, hfl5, hfl6, NE, NE9, Nat.add_assoc, beq_self_eq_true, tf_ne, ft_ne]
    refine call_of (s2 _ _) ?_
    simp only [↓R1, R2, R3, R4, TY, reduceIte, Nat.reduceEqDiff, Nat.reduceAdd, Nat.reduceMul, Nat.reduceLT, Nat.reduceLeDiff, reduceCtorEq, decide_true, decide_false, Int.reduceLE, Int.reduceLT, Int.reduceToNat, Int.reduceAdd, Int.reduceSub, Int.reduceMul, Int.reduceEq, gs, gt, gp, gq, List.getElem?_cons_zero, List.getElem?_cons_succ, hfl, hfl1, hfl2, hfl3, hfl4, hfl5, hfl6, NE, NE9, Nat.add_assoc, beq_self_eq_true, tf_ne, ft_ne]
    refine call_of (r2 _ _) ?_
    simp only [↓R1, R2, R3, R4, TY, reduceIte, Nat.reduceEqDiff, Nat.reduceAdd, Nat.reduceMul, Nat.reduceLT, Nat.reduceLeDiff, reduceCtorEq, decide_true, decide_false, Int.reduceLE, Int.reduceLT, Int.reduceToNat, Int.reduceAdd, Int.reduceSub, Int.reduceMul, Int.reduceEq, gs, gt, gp, gq, List.getElem?_cons_zero, List.getElem?_cons_succ, hfl, hfl1, hfl2, hfl3, hfl4, hfl5, hfl6, NE, NE9, Nat.add_assoc, beq_self_eq_true, tf_ne, ft_ne]
    refine call_of (h2 _ _) ?_
    simp only [↓R1, R2, R3, R4, TY, reduceIte, Nat.reduceEqDiff, Nat.reduceAdd, Nat.reduceMul, Nat.reduceLT, Nat.reduceLeDiff, reduceCtorEq, decide_true, decide_false, Int.reduceLE, Int.reduceLT, Int.reduceToNat, Int.reduceAdd, Int.reduceSub, Int.reduceMul, Int.reduceEq, gs, gt, gp, gq, List.getElem?_cons_zero, List.getElem?_cons_succ, hfl, hfl1, hfl2, hfl3, hfl4, hfl5, hfl6, NE, NE9, Nat.add_assoc, beq_self_eq_true, tf_ne, ft_ne]
    refine call_of (s3 _ _) ?_
    simp only [↓R1, R2, R3, R4, TY, reduceIte, Nat.reduceEqDiff, Nat.reduceAdd, Nat.reduceMul, Nat.reduceLT, Nat.reduceLeDiff, reduceCtorEq, decide_true, decide_false, Int.reduceLE, Int.reduceLT, Int.reduceToNat, Int.reduceAdd, Int.reduceSub, Int.reduceMul, Int.reduceEq, gs, gt, gp, gq, List.getElem?_cons_zero, List.getElem?_cons_succ, hfl, hfl1, hfl2, hfl3, hfl4, hfl5, hfl6, NE, NE9, Nat.add_assoc, beq_self_eq_true, tf_ne, ft_ne]
    refine call_of (r3 _ _) ?_
    simp only [↓R1, R2, R3, R4, TY, reduceIte, Nat.reduceEqDiff, Nat.reduceAdd, Nat.reduceMul, Nat.reduceLT, Nat.reduceLeDiff, reduceCtorEq, decide_true, decide_false, Int.reduceLE, Int.reduceLT, Int.reduceToNat, Int.reduceAdd, Int.reduceSub, Int.reduceMul, Int.reduceEq, gs, gt, gp, gq, List.getElem?_cons_zero, List.getElem?_cons_succ, hfl, hfl1, hfl2, hfl3, hfl4, hfl5, hfl6, NE, NE9, Nat.add_assoc, beq_self_eq_true, tf_ne, ft_ne]
    refine call_of (h3 _ _) ?_
    simp only [↓R1, R2, R3, R4, TY, reduceIte, Nat.reduceEqDiff, Nat.reduceAdd, Nat.reduceMul, Nat.reduceLT, Nat.reduceLeDiff, reduceCtorEq, decide_true, decide_false, Int.reduceLE, Int.reduceLT, Int.reduceToNat, Int.reduceAdd, Int.reduceSub, Int.reduceMul, Int.reduceEq, gs, gt, gp, gq, List.getElem?_cons_zero, List.getElem?_cons_succ, hfl, hfl1, hfl2, hfl3, hfl4, hfl5, hfl6, NE, NE9, Nat.add_assoc, beq_self_eq_true, tf_ne, ft_ne]
    refine call_of (s4 _ _) ?_
    simp only [↓R1, R2, R3, R4, TY, reduceIte, Nat.reduceEqDiff, Nat.reduceAdd, Nat.reduceMul, Nat.reduceLT, Nat.reduceLeDiff, reduceCtorEq, decide_true, decide_false, Int.reduceLE, Int.reduceLT, Int.reduceToNat, Int.reduceAdd, Int.reduceSub, Int.reduceMul, Int.reduceEq, gs, gt, gp, gq, List.getElem?_cons_zero, List.getElem?_cons_succ, hfl, hfl1, hfl2, hfl3, hfl4, hfl5, hfl6, NE, NE9, Nat.add_assoc, beq_self_eq_true, tf_ne, ft_ne]
    refine call_of (r4 _ _) ?_
    simp only [↓R1, R2, R3, R4, TY, reduceIte, Nat.reduceEqDiff, Nat.reduceAdd, Nat.reduceMul, Nat.reduceLT, Nat.reduceLeDiff, reduceCtorEq, decide_true, decide_false, Int.reduceLE, Int.reduceLT, Int.reduceToNat, Int.reduceAdd, Int.reduceSub, Int.reduceMul, Int.reduceEq, gs, gt, gp, gq, List.getElem?_cons_zero, List.getElem?_cons_succ, hfl, hfl1, hfl2, hfl3, hfl4, hfl5, hfl6, NE, NE9, Nat.add_assoc, beq_self_eq_true, tf_ne, ft_ne]
    refine call_of (h4 _ _) ?_
    simp only [↓R1, R2, R3, R4, TY, reduceIte, Nat.reduceEqDiff, Nat.reduceAdd, Nat.reduceMul, Nat.reduceLT, Nat.reduceLeDiff, reduceCtorEq, decide_true, decide_false, Int.reduceLE, Int.reduceLT, Int.reduceToNat, Int.reduceAdd, Int.reduceSub, Int.reduceMul, Int.reduceEq, gs, gt, gp, gq, List.getElem?_cons_zero, List.getElem?_cons_succ, hfl, hfl1, hfl2, hfl3, hfl4, hfl5, hfl6, NE, NE9, Nat.add_assoc, beq_self_eq_true, tf_ne, ft_ne]
    refine call_of (s5 _ _) ?_
    simp only [↓R1, R2, R3, R4, TY, reduceIte, Nat.reduceEqDiff, Nat.reduceAdd, Nat.reduceMul, Nat.reduceLT, Nat.reduceLeDiff, reduceCtorEq, decide_true, decide_false, Int.reduceLE, Int.reduceLT, Int.reduceToNat, Int.reduceAdd, Int.reduceSub, Int.reduceMul, Int.reduceEq, gs, gt, gp, gq, List.getElem?_cons_zero, List.getElem?_cons_succ, hfl, hfl1, hfl2, hfl3, hfl4, hfl5, hfl6, NE, NE9, Nat.add_assoc, beq_self_eq_true, tf_ne, ft_ne]
    refine call_of (r5 _ _) ?_
    simp only [↓R1, R2, R3, R4, TY, reduceIte, Nat.reduceEqDiff, Nat.reduceAdd, Nat.reduceMul, Nat.reduceLT, Nat.reduceLeDiff, reduceCtorEq, decide_true, decide_false, Int.reduceLE, Int.reduceLT, Int.reduceToNat, Int.reduceAdd, Int.reduceSub, Int.reduceMul, Int.reduceEq, gs, gt, gp, gq, List.getElem?_cons_zero, List.getElem?_cons_succ, hfl, hfl1, hfl2, hfl3, hfl4, hfl5, hfl6, NE, NE9, Nat.add_assoc, beq_self_eq_true, tf_ne, ft_ne]
    refine call_of (h5 _ _) ?_
    simp only [↓R1, R2, R3, R4, TY, reduceIte, Nat.reduceEqDiff, Nat.reduceAdd, Nat.reduceMul, Nat.reduceLT, Nat.reduceLeDiff, reduceCtorEq, decide_true, decide_false, Int.reduceLE, Int.reduceLT, Int.reduceToNat, Int.reduceAdd, Int.reduceSub, Int.reduceMul, Int.reduceEq, gs, gt, gp, gq, List.getElem?_cons_zero, List.getElem?_cons_succ, hfl, hfl1, hfl2, hfl3, hfl4, hfl5, hfl6, NE, NE9, Nat.add_assoc, beq_self_eq_true, tf_ne, ft_ne]
    refine call_of (s6 _ _) ?_
    simp only [↓R1, R2, R3, R4, TY, reduceIte, Nat.reduceEqDiff, Nat.reduceAdd, Nat.reduceMul, Nat.reduceLT, Nat.reduceLeDiff, reduceCtorEq, decide_true, decide_false, Int.reduceLE, Int.reduceLT, Int.reduceToNat, Int.reduceAdd, Int.reduceSub, Int.reduceMul, Int.reduceEq, gs, gt, gp, gq, List.getElem?_cons_zero, List.getElem?_cons_succ, hfl, hfl1, hfl2, hfl3, hfl4, hfl5, hfl6, NE, NE9, Nat.add_assoc, beq_self_eq_true, tf_ne, ft_ne]
    refine call_of (h6 _ _) ?_
    simp only [↓R1, R2, R3, R4, TY, reduceIte, Nat.reduceEqDiff, Nat.reduceAdd, Nat.reduceMul, Nat.reduceLT, Nat.reduceLeDiff, reduceCtorEq, decide_true, decide_false, Int.reduceLE, Int.reduceLT, Int.reduceToNat, Int.reduceAdd, Int.reduceSub, Int.reduceMul, Int.reduceEq, gs, gt, gp, gq, List.getElem?_cons_zero, List.getElem?_cons_succ, hfl, hfl1, hfl2, hfl3, hfl4, hfl5, hfl6, NE, NE9, Nat.add_assoc, beq_self_eq_true, tf_ne, ft_ne]
    refine call_of (s6 _ _) ?_
    simp only [↓R1, R2, R3, R4, TY, reduceIte, Nat.reduceEqDiff, Nat.reduceAdd, Nat.reduceMul, Nat.reduceLT, Nat.reduceLeDiff, reduceCtorEq, decide_true, decide_false, Int.reduceLE, Int.reduceLT, Int.reduceToNat, Int.reduceAdd, Int.reduceSub, Int.reduceMul, Int.reduceEq, gs, gt, gp, gq, List.getElem?_cons_zero, List.getElem?_cons_succ, hfl, hfl1, hfl2, hfl3, hfl4, hfl5, hfl6, NE, NE9, Nat.add_assoc, beq_self_eq_true, tf_ne, ft_ne]
    refine call_of (h7 _ _) ?_
    simp only [↓R1, R2, R3, R4, TY, reduceIte, Nat.reduceEqDiff, Nat.reduceAdd, Nat.reduceMul, Nat.reduceLT, Nat.reduceLeDiff, reduceCtorEq, decide_true, decide_false, Int.reduceLE, Int.reduceLT, Int.reduceToNat, Int.reduceAdd, Int.reduceSub, Int.reduceMul, Int.reduceEq, gs, gt, gp, gq, List.getElem?_cons_zero, List.getElem?_cons_succ, hfl, hfl1, hfl2, hfl3, hfl4, hfl5, hfl6, NE, NE9, Nat.add_assoc, beq_self_eq_true, tf_ne, ft_ne]
    refine call_of (s8 _ _) ?_
    simp only [↓R1, R2, R3, R4, TY, reduceIte, Nat.reduceEqDiff, Nat.reduceAdd, Nat.reduceMul, Nat.reduceLT, Nat.reduceLeDiff, reduceCtorEq, decide_true, decide_false, Int.reduceLE, Int.reduceLT, Int.reduceToNat, Int.reduceAdd, Int.reduceSub, Int.reduceMul, Int.reduceEq, gs, gt, gp, gq, List.getElem?_cons_zero, List.getElem?_cons_succ, hfl, hfl1, hfl2, hfl3, hfl4, hfl5, hfl6, NE, NE9, Nat.add_assoc, beq_self_eq_true, tf_ne, ft_ne]
    refine call_of (h8 _ _) ?_
    simp only [↓R1, R2, R3, R4, TY, reduceIte, Nat.reduceEqDiff, Nat.reduceAdd, Nat.reduceMul, Nat.reduceLT, Nat.reduceLeDiff, reduceCtorEq, decide_true, decide_false, Int.reduceLE, Int.reduceLT, Int.reduceToNat, Int.reduceAdd, Int.reduceSub, Int.reduceMul, Int.reduceEq, gs, gt, gp, gq, List.getElem?_cons_zero, List.getElem?_cons_succ, hfl, hfl1, hfl2, hfl3, hfl4, hfl5, hfl6, NE, NE9, Nat.add_assoc, beq_self_eq_true, tf_ne, ft_ne]
    refine fin _ _ hBx rfl
  · have dv := fun fl A => sdiv (G := G) (fl := fl) (A := A) hG hs ht (by omega) hz
    have hz2 := mt sz.2 hz
    have hz0 := fun fl A => has_false (G := G) (fl := fl) (A := A) hG ht rz_zero (by omega) hz2
    have hq0 := (inv_in hz2 iq.1 iq.2).2.2
    have hq : q.num ≠ 0 := fun e => hq0 (Rat.num_eq_zero.1 e)
    have rd := fun fl A => qdiv (G := G) (fl := fl) (A := A) hG zp zq (by omega) hq
    have hd := fun fl A => has_true (G := G) (fl := fl) (A := A) hG (hs.div ht hz) (zp.div zq hq) (by omega) (quo_in hz2 ip.1 ip.2 iq.1 iq.2)
    rw [prV_def, prV_def, prV_def] at dv
    rw [prV_def, ratV_def] at hz0 hd
    rw [ratV_def, ratV_def q, ratV_def (_ / _)] at rd
    refine call_of (dv _ _) ?_
    simp only [↓R1, R2, R3, R4, TY, reduceIte, Nat.reduceEqDiff, Nat.reduceAdd, Nat.reduceMul, Nat.reduceLT, Nat.reduceLeDiff, reduceCtorEq, decide_true, decide_false, Int.reduceLE, Int.reduceLT, Int.reduceToNat, Int.reduceAdd, Int.reduceSub, Int.reduceMul, Int.reduceEq, hfl, hfl1, hfl2, hfl3, hfl4, hfl5, hfl6, NE, NE9, Nat.add_assoc, beq_self_eq_true, tf_ne, ft_ne]
    refine call_of (rd _ _) ?_
    simp only [↓R1, R2, R3, R4, TY, reduceIte, Nat.reduceEqDiff, Nat.reduceAdd, Nat.reduceMul, Nat.reduceLT, Nat.reduceLeDiff, reduceCtorEq, decide_true, decide_false, Int.reduceLE, Int.reduceLT, Int.reduceToNat, Int.reduceAdd, Int.reduceSub, Int.reduceMul, Int.reduceEq, hfl, hfl1, hfl2, hfl3, hfl4, hfl5, hfl6, NE, NE9, Nat.add_assoc, beq_self_eq_true, tf_ne, ft_ne]
    refine call_of (hd _ _) ?_
    simp only [↓R1, R2, R3, R4, TY, reduceIte, Nat.reduceEqDiff, Nat.reduceAdd, Nat.reduceMul, Nat.reduceLT, Nat.reduceLeDiff, reduceCtorEq, decide_true, decide_false, Int.reduceLE, Int.reduceLT, Int.reduceToNat, Int.reduceAdd, Int.reduceSub, Int.reduceMul, Int.reduceEq, hfl, hfl1, hfl2, hfl3, hfl4, hfl5, hfl6, NE, NE9, Nat.add_assoc, beq_self_eq_true, tf_ne, ft_ne]
    refine call_of (z0 _ _) ?_
    simp only [↓R1, R2, R3, R4, TY, reduceIte, Nat.reduceEqDiff, Nat.reduceAdd, Nat.reduceMul, Nat.reduceLT, Nat.reduceLeDiff, reduceCtorEq, decide_true, decide_false, Int.reduceLE, Int.reduceLT, Int.reduceToNat, Int.reduceAdd, Int.reduceSub, Int.reduceMul, Int.reduceEq, hfl, hfl1, hfl2, hfl3, hfl4, hfl5, hfl6, NE, NE9, Nat.add_assoc, beq_self_eq_true, tf_ne, ft_ne]
    refine call_of (hz0 _ _) ?_
    simp only [↓R1, R2, R3, R4, TY, reduceIte, Nat.reduceEqDiff, Nat.reduceAdd, Nat.reduceMul, Nat.reduceLT, Nat.reduceLeDiff, reduceCtorEq, decide_true, decide_false, Int.reduceLE, Int.reduceLT, Int.reduceToNat, Int.reduceAdd, Int.reduceSub, Int.reduceMul, Int.reduceEq, hfl, hfl1, hfl2, hfl3, hfl4, hfl5, hfl6, NE, NE9, Nat.add_assoc, beq_self_eq_true, tf_ne, ft_ne]
    generalize hB : Hp.put _ (A.next + 1 + 1 + 1 + 1 + 1) _ = B
    have hBx : Xt A.next A B := by
      rw [← hB]
      simp (maxDischargeDepth := 20) only [xt_push, xt_put, xt_refl, Nat.le_refl, Nat.le_add_right, Nat.add_assoc, Nat.reduceAdd]
    have gs : ∀ i, B.get G ⟨A.next, i, some 0⟩ = ([.bool (decide (a.num < 0)), .string (S (nb a.num.natAbs)), .string (S (nb a.den)), .bool (decide (b.num < 0)), .string (S (nb b.num.natAbs)), .string (S (nb b.den))] : List Value)[i]? := fun i => by rw [← hB]; simp [Hp.get, Hp.put_blk, Hp.push_blk, Nat.add_assoc]
    have gt : ∀ i, B.get G ⟨A.next + 1, i, some 0⟩ = ([.bool (decide (c.num < 0)), .string (S (nb c.num.natAbs)), .string (S (nb c.den)), .bool (decide (d.num < 0)), .string (S (nb d.num.natAbs)), .string (S (nb d.den))] : List Value)[i]? := fun i => by rw [← hB]; simp [Hp.get, Hp.put_blk, Hp.push_blk, Nat.add_assoc]
    have gp : ∀ i, B.get G ⟨A.next + 2, i, some 0⟩ = ([.bool (decide (p.num < 0)), .string (S (nb p.num.natAbs)), .string (S (nb p.den))] : List Value)[i]? := fun i => by rw [← hB]; simp [Hp.get, Hp.put_blk, Hp.push_blk, Nat.add_assoc]
    have gq : ∀ i, B.get G ⟨A.next + 3, i, some 0⟩ = ([.bool (decide (q.num < 0)), .string (S (nb q.num.natAbs)), .string (S (nb q.den))] : List Value)[i]? := fun i => by rw [← hB]; simp [Hp.get, Hp.put_blk, Hp.push_blk, Nat.add_assoc]
    clear hB
    refine call_of (h1 _ _) ?_
    simp only [↓R1, R2, R3, R4, TY, reduceIte, Nat.reduceEqDiff, Nat.reduceAdd, Nat.reduceMul, Nat.reduceLT, Nat.reduceLeDiff, reduceCtorEq, decide_true, decide_false, Int.reduceLE, Int.reduceLT, Int.reduceToNat, Int.reduceAdd, Int.reduceSub, Int.reduceMul, Int.reduceEq, gs, gt, gp, gq, List.getElem?_cons_zero, List.getElem?_cons_succ, hfl, hfl1, hfl2, hfl3, hfl4, hfl5, hfl6, NE, NE9, Nat.add_assoc, beq_self_eq_true, tf_ne, ft_ne]
    refine call_of (s2 _ _) ?_
    simp only [↓R1, R2, R3, R4, TY, reduceIte, Nat.reduceEqDiff, Nat.reduceAdd, Nat.reduceMul, Nat.reduceLT, Nat.reduceLeDiff, reduceCtorEq, decide_true, decide_false, Int.reduceLE, Int.reduceLT, Int.reduceToNat, Int.reduceAdd, Int.reduceSub, Int.reduceMul, Int.reduceEq, gs, gt, gp, gq, List.getElem?_cons_zero, List.getElem?_cons_succ, hfl, hfl1, hfl2, hfl3, hfl4, hfl5, hfl6, NE, NE9, Nat.add_assoc, beq_self_eq_true, tf_ne, ft_ne]
    refine call_of (r2 _ _) ?_
    simp only [↓R1, R2, R3, R4, TY, reduceIte, Nat.reduceEqDiff, Nat.reduceAdd, Nat.reduceMul, Nat.reduceLT, Nat.reduceLeDiff, reduceCtorEq, decide_true, decide_false, Int.reduceLE, Int.reduceLT, Int.reduceToNat, Int.reduceAdd, Int.reduceSub, Int.reduceMul, Int.reduceEq, gs, gt, gp, gq, List.getElem?_cons_zero, List.getElem?_cons_succ, hfl, hfl1, hfl2, hfl3, hfl4, hfl5, hfl6, NE, NE9, Nat.add_assoc, beq_self_eq_true, tf_ne, ft_ne]
    refine call_of (h2 _ _) ?_
    simp only [↓R1, R2, R3, R4, TY, reduceIte, Nat.reduceEqDiff, Nat.reduceAdd, Nat.reduceMul, Nat.reduceLT, Nat.reduceLeDiff, reduceCtorEq, decide_true, decide_false, Int.reduceLE, Int.reduceLT, Int.reduceToNat, Int.reduceAdd, Int.reduceSub, Int.reduceMul, Int.reduceEq, gs, gt, gp, gq, List.getElem?_cons_zero, List.getElem?_cons_succ, hfl, hfl1, hfl2, hfl3, hfl4, hfl5, hfl6, NE, NE9, Nat.add_assoc, beq_self_eq_true, tf_ne, ft_ne]
    refine call_of (s3 _ _) ?_
    simp only [↓R1, R2, R3, R4, TY, reduceIte, Nat.reduceEqDiff, Nat.reduceAdd, Nat.reduceMul, Nat.reduceLT, Nat.reduceLeDiff, reduceCtorEq, decide_true, decide_false, Int.reduceLE, Int.reduceLT, Int.reduceToNat, Int.reduceAdd, Int.reduceSub, Int.reduceMul, Int.reduceEq, gs, gt, gp, gq, List.getElem?_cons_zero, List.getElem?_cons_succ, hfl, hfl1, hfl2, hfl3, hfl4, hfl5, hfl6, NE, NE9, Nat.add_assoc, beq_self_eq_true, tf_ne, ft_ne]
    refine call_of (r3 _ _) ?_
    simp only [↓R1, R2, R3, R4, TY, reduceIte, Nat.reduceEqDiff, Nat.reduceAdd, Nat.reduceMul, Nat.reduceLT, Nat.reduceLeDiff, reduceCtorEq, decide_true, decide_false, Int.reduceLE, Int.reduceLT, Int.reduceToNat, Int.reduceAdd, Int.reduceSub, Int.reduceMul, Int.reduceEq, gs, gt, gp, gq, List.getElem?_cons_zero, List.getElem?_cons_succ, hfl, hfl1, hfl2, hfl3, hfl4, hfl5, hfl6, NE, NE9, Nat.add_assoc, beq_self_eq_true, tf_ne, ft_ne]
    refine call_of (h3 _ _) ?_
    simp only [↓R1, R2, R3, R4, TY, reduceIte, Nat.reduceEqDiff, Nat.reduceAdd, Nat.reduceMul, Nat.reduceLT, Nat.reduceLeDiff, reduceCtorEq, decide_true, decide_false, Int.reduceLE, Int.reduceLT, Int.reduceToNat, Int.reduceAdd, Int.reduceSub, Int.reduceMul, Int.reduceEq, gs, gt, gp, gq, List.getElem?_cons_zero, List.getElem?_cons_succ, hfl, hfl1, hfl2, hfl3, hfl4, hfl5, hfl6, NE, NE9, Nat.add_assoc, beq_self_eq_true, tf_ne, ft_ne]
    refine call_of (s4 _ _) ?_
    simp only [↓R1, R2, R3, R4, TY, reduceIte, Nat.reduceEqDiff, Nat.reduceAdd, Nat.reduceMul, Nat.reduceLT, Nat.reduceLeDiff, reduceCtorEq, decide_true, decide_false, Int.reduceLE, Int.reduceLT, Int.reduceToNat, Int.reduceAdd, Int.reduceSub, Int.reduceMul, Int.reduceEq, gs, gt, gp, gq, List.getElem?_cons_zero, List.getElem?_cons_succ, hfl, hfl1, hfl2, hfl3, hfl4, hfl5, hfl6, NE, NE9, Nat.add_assoc, beq_self_eq_true, tf_ne, ft_ne]
    refine call_of (r4 _ _) ?_
    simp only [↓R1, R2, R3, R4, TY, reduceIte, Nat.reduceEqDiff, Nat.reduceAdd, Nat.reduceMul, Nat.reduceLT, Nat.reduceLeDiff, reduceCtorEq, decide_true, decide_false, Int.reduceLE, Int.reduceLT, Int.reduceToNat, Int.reduceAdd, Int.reduceSub, Int.reduceMul, Int.reduceEq, gs, gt, gp, gq, List.getElem?_cons_zero, List.getElem?_cons_succ, hfl, hfl1, hfl2, hfl3, hfl4, hfl5, hfl6, NE, NE9, Nat.add_assoc, beq_self_eq_true, tf_ne, ft_ne]
    refine call_of (h4 _ _) ?_
    simp only [↓R1, R2, R3, R4, TY, reduceIte, Nat.reduceEqDiff, Nat.reduceAdd, Nat.reduceMul, Nat.reduceLT, Nat.reduceLeDiff, reduceCtorEq, decide_true, decide_false, Int.reduceLE, Int.reduceLT, Int.reduceToNat, Int.reduceAdd, Int.reduceSub, Int.reduceMul, Int.reduceEq, gs, gt, gp, gq, List.getElem?_cons_zero, List.getElem?_cons_succ, hfl, hfl1, hfl2, hfl3, hfl4, hfl5, hfl6, NE, NE9, Nat.add_assoc, beq_self_eq_true, tf_ne, ft_ne]
    refine call_of (s5 _ _) ?_
    simp only [↓R1, R2, R3, R4, TY, reduceIte, Nat.reduceEqDiff, Nat.reduceAdd, Nat.reduceMul, Nat.reduceLT, Nat.reduceLeDiff, reduceCtorEq, decide_true, decide_false, Int.reduceLE, Int.reduceLT, Int.reduceToNat, Int.reduceAdd, Int.reduceSub, Int.reduceMul, Int.reduceEq, gs, gt, gp, gq, List.getElem?_cons_zero, List.getElem?_cons_succ, hfl, hfl1, hfl2, hfl3, hfl4, hfl5, hfl6, NE, NE9, Nat.add_assoc, beq_self_eq_true, tf_ne, ft_ne]
    refine call_of (r5 _ _) ?_
    simp only [↓R1, R2, R3, R4, TY, reduceIte, Nat.reduceEqDiff, Nat.reduceAdd, Nat.reduceMul, Nat.reduceLT, Nat.reduceLeDiff, reduceCtorEq, decide_true, decide_false, Int.reduceLE, Int.reduceLT, Int.reduceToNat, Int.reduceAdd, Int.reduceSub, Int.reduceMul, Int.reduceEq, gs, gt, gp, gq, List.getElem?_cons_zero, List.getElem?_cons_succ, hfl, hfl1, hfl2, hfl3, hfl4, hfl5, hfl6, NE, NE9, Nat.add_assoc, beq_self_eq_true, tf_ne, ft_ne]
    refine call_of (h5 _ _) ?_
    simp only [↓R1, R2, R3, R4, TY, reduceIte, Nat.reduceEqDiff, Nat.reduceAdd, Nat.reduceMul, Nat.reduceLT, Nat.reduceLeDiff, reduceCtorEq, decide_true, decide_false, Int.reduceLE, Int.reduceLT, Int.reduceToNat, Int.reduceAdd, Int.reduceSub, Int.reduceMul, Int.reduceEq, gs, gt, gp, gq, List.getElem?_cons_zero, List.getElem?_cons_succ, hfl, hfl1, hfl2, hfl3, hfl4, hfl5, hfl6, NE, NE9, Nat.add_assoc, beq_self_eq_true, tf_ne, ft_ne]
    refine call_of (s6 _ _) ?_
    simp only [↓R1, R2, R3, R4, TY, reduceIte, Nat.reduceEqDiff, Nat.reduceAdd, Nat.reduceMul, Nat.reduceLT, Nat.reduceLeDiff, reduceCtorEq, decide_true, decide_false, Int.reduceLE, Int.reduceLT, Int.reduceToNat, Int.reduceAdd, Int.reduceSub, Int.reduceMul, Int.reduceEq, gs, gt, gp, gq, List.getElem?_cons_zero, List.getElem?_cons_succ, hfl, hfl1, hfl2, hfl3, hfl4, hfl5, hfl6, NE, NE9, Nat.add_assoc, beq_self_eq_true, tf_ne, ft_ne]
    refine call_of (h6 _ _) ?_
    simp only [↓R1, R2, R3, R4, TY, reduceIte, Nat.reduceEqDiff, Nat.reduceAdd, Nat.reduceMul, Nat.reduceLT, Nat.reduceLeDiff, reduceCtorEq, decide_true, decide_false, Int.reduceLE, Int.reduceLT, Int.reduceToNat, Int.reduceAdd, Int.reduceSub, Int.reduceMul, Int.reduceEq, gs, gt, gp, gq, List.getElem?_cons_zero, List.getElem?_cons_succ, hfl, hfl1, hfl2, hfl3, hfl4, hfl5, hfl6, NE, NE9, Nat.add_assoc, beq_self_eq_true, tf_ne, ft_ne]
    refine call_of (s6 _ _) ?_
    simp only [↓R1, R2, R3, R4, TY, reduceIte, Nat.reduceEqDiff, Nat.reduceAdd, Nat.reduceMul, Nat.reduceLT, Nat.reduceLeDiff, reduceCtorEq, decide_true, decide_false, Int.reduceLE, Int.reduceLT, Int.reduceToNat, Int.reduceAdd, Int.reduceSub, Int.reduceMul, Int.reduceEq, gs, gt, gp, gq, List.getElem?_cons_zero, List.getElem?_cons_succ, hfl, hfl1, hfl2, hfl3, hfl4, hfl5, hfl6, NE, NE9, Nat.add_assoc, beq_self_eq_true, tf_ne, ft_ne]
    refine call_of (h7 _ _) ?_
    simp only [↓R1, R2, R3, R4, TY, reduceIte, Nat.reduceEqDiff, Nat.reduceAdd, Nat.reduceMul, Nat.reduceLT, Nat.reduceLeDiff, reduceCtorEq, decide_true, decide_false, Int.reduceLE, Int.reduceLT, Int.reduceToNat, Int.reduceAdd, Int.reduceSub, Int.reduceMul, Int.reduceEq, gs, gt, gp, gq, List.getElem?_cons_zero, List.getElem?_cons_succ, hfl, hfl1, hfl2, hfl3, hfl4, hfl5, hfl6, NE, NE9, Nat.add_assoc, beq_self_eq_true, tf_ne, ft_ne]
    refine call_of (s8 _ _) ?_
    simp only [↓R1, R2, R3, R4, TY, reduceIte, Nat.reduceEqDiff, Nat.reduceAdd, Nat.reduceMul, Nat.reduceLT, Nat.reduceLeDiff, reduceCtorEq, decide_true, decide_false, Int.reduceLE, Int.reduceLT, Int.reduceToNat, Int.reduceAdd, Int.reduceSub, Int.reduceMul, Int.reduceEq, gs, gt, gp, gq, List.getElem?_cons_zero, List.getElem?_cons_succ, hfl, hfl1, hfl2, hfl3, hfl4, hfl5, hfl6, NE, NE9, Nat.add_assoc, beq_self_eq_true, tf_ne, ft_ne]
    refine call_of (h8 _ _) ?_
    simp only [↓R1, R2, R3, R4, TY, reduceIte, Nat.reduceEqDiff, Nat.reduceAdd, Nat.reduceMul, Nat.reduceLT, Nat.reduceLeDiff, reduceCtorEq, decide_true, decide_false, Int.reduceLE, Int.reduceLT, Int.reduceToNat, Int.reduceAdd, Int.reduceSub, Int.reduceMul, Int.reduceEq, gs, gt, gp, gq, List.getElem?_cons_zero, List.getElem?_cons_succ, hfl, hfl1, hfl2, hfl3, hfl4, hfl5, hfl6, NE, NE9, Nat.add_assoc, beq_self_eq_true, tf_ne, ft_ne]
    refine fin _ _ hBx rfl
end
end Go.Proofs.YtincjhklpgfkgaaDoor.Ab
