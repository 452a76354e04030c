/- Spans: plain facts. -/
import Derived.Test.YtjkimjmocfjjnaaDoorUe
namespace Go.Proofs.YtjkimjmocfjjnaaDoor.Ab
open Go.RowKit
set_option linter.unusedVariables false
set_option linter.unusedSimpArgs false
set_option maxRecDepth 100000

theorem rmin_def (p q : Rat) : rmin p q = if p ≤ q then p else q := by unfold rmin; simp only [rcmp_le_iff]
theorem rmax_def (p q : Rat) : rmax p q = if q ≤ p then p else q := by
  unfold rmax
  by_cases h : q ≤ p
  · rw [if_pos (rcmp_ge h), if_pos h]
  · rw [if_neg h, if_neg]
    rw [rcmp_lt (Rat.not_le.1 h)]; omega
theorem Sp.sub {a b c d : Rat} {j k : Nat} (h : Sp a b j) (h' : Sp c d k) : Sp (a - d) (b - c) (j + k + 1) := ⟨h.low.sub h'.high, h.high.sub h'.low, by have := h.le; have := h'.le; grind⟩
theorem Sp.join {a b c d : Rat} {j k : Nat} (h : Sp a b j) (h' : Sp c d k) : Sp (rmin a c) (rmax b d) (j + k) := by
  refine ⟨(h.low.mono (by omega)).min (h'.low.mono (by omega)), (h.high.mono (by omega)).max (h'.high.mono (by omega)), ?_⟩
  rw [rmin_def, rmax_def]
  have := h.le; have := h'.le; grind
theorem rz_zero : Rz 0 1 := Rz.of (n := 0) (k := 1) (by simp [nb_zero]) (Nat.le_refl _)

end Go.Proofs.YtjkimjmocfjjnaaDoor.Ab

/- Spans: plain facts on products, squares, quotients. -/
namespace Go.Proofs.YtjkimjmocfjjnaaDoor.Ab
open Go.RowKit
set_option linter.unusedVariables false
set_option linter.unusedSimpArgs false
set_option maxRecDepth 100000

theorem lin_in {a b p : Rat} (h1 : a ≤ p) (h2 : p ≤ b) (q : Rat) : (a * q ≤ p * q ∧ p * q ≤ b * q) ∨ (b * q ≤ p * q ∧ p * q ≤ a * q) := by
  rcases Rat.le_total (a := 0) (b := q) with h | h
  · have e1 : 0 ≤ (p - a) * q := Rat.mul_nonneg (by grind) h
    have e2 : 0 ≤ (b - p) * q := Rat.mul_nonneg (by grind) h
    have e3 : (p - a) * q = p * q - a * q := by grind
    have e4 : (b - p) * q = b * q - p * q := by grind
    exact .inl ⟨by grind, by grind⟩
  · have e1 : 0 ≤ (p - a) * (-q) := Rat.mul_nonneg (by grind) (by grind)
    have e2 : 0 ≤ (b - p) * (-q) := Rat.mul_nonneg (by grind) (by grind)
    have e3 : (p - a) * (-q) = a * q - p * q := by grind
    have e4 : (b - p) * (-q) = p * q - b * q := by grind
    exact .inr ⟨by grind, by grind⟩
theorem mul_in {a b c d p q : Rat} (h1 : a ≤ p) (h2 : p ≤ b) (h3 : c ≤ q) (h4 : q ≤ d) : smlo a b c d ≤ p * q ∧ p * q ≤ smhi a b c d := by
  have l1 := lin_in h1 h2 q
  have l2 := lin_in h3 h4 a
  have l3 := lin_in h3 h4 b
  rw [Rat.mul_comm c a, Rat.mul_comm q a, Rat.mul_comm d a] at l2
  rw [Rat.mul_comm c b, Rat.mul_comm q b, Rat.mul_comm d b] at l3
  unfold smlo smhi
  simp only [rmin_def, rmax_def]
  generalize a * q = x1 at *
  generalize b * q = x2 at *
  generalize p * q = x3 at *
  generalize a * c = x4 at *
  generalize a * d = x5 at *
  generalize b * c = x6 at *
  generalize b * d = x7 at *
  constructor <;> grind
theorem diff_sq (x y : Rat) : (x - y) * (x + y) = x * x - y * y := by grind
theorem sq_in {a b p : Rat} (h1 : a ≤ p) (h2 : p ≤ b) : sqlo a b ≤ p * p ∧ p * p ≤ sqhi a b := by
  have hi : p * p ≤ a * a ∨ p * p ≤ b * b := by
    rcases Rat.le_total (a := 0) (b := p) with h | h
    · have := Rat.mul_nonneg (a := b - p) (b := b + p) (by grind) (by grind)
      rw [diff_sq] at this; exact .inr (by grind)
    · have := Rat.mul_nonneg (a := -a - -p) (b := -a + -p) (by grind) (by grind)
      rw [diff_sq] at this; exact .inl (by grind)
  have hpp : 0 ≤ p * p := by
    rcases Rat.le_total (a := 0) (b := p) with h | h
    · exact Rat.mul_nonneg h h
    · have := Rat.mul_nonneg (a := -p) (b := -p) (by grind) (by grind)
      grind
  have lo : (a ≤ 0 ∧ 0 ≤ b) ∨ a * a ≤ p * p ∨ b * b ≤ p * p := by
    by_cases ha : a ≤ 0
    · by_cases hb : 0 ≤ b
      · exact .inl ⟨ha, hb⟩
      · have := Rat.mul_nonneg (a := -p - -b) (b := -p + -b) (by grind) (by grind)
        rw [diff_sq] at this; exact .inr (.inr (by grind))
    · have := Rat.mul_nonneg (a := p - a) (b := p + a) (by grind) (by grind)
      rw [diff_sq] at this; exact .inr (.inl (by grind))
  unfold sqlo sqhi
  simp only [rmin_def, rmax_def]
  generalize p * p = x1 at *
  generalize a * a = x2 at *
  generalize b * b = x3 at *
  constructor <;> grind

theorem Rz.smlo {a b c d : Rat} {j k : Nat} (ha : Rz a j) (hb : Rz b j) (hc : Rz c k) (hd : Rz d k) : Rz (smlo a b c d) (j + k) := (((ha.mul hc).min (ha.mul hd)).min (hb.mul hc)).min (hb.mul hd)
theorem Rz.smhi {a b c d : Rat} {j k : Nat} (ha : Rz a j) (hb : Rz b j) (hc : Rz c k) (hd : Rz d k) : Rz (smhi a b c d) (j + k) := (((ha.mul hc).max (ha.mul hd)).max (hb.mul hc)).max (hb.mul hd)
theorem Sp.add {a b c d : Rat} {j k : Nat} (h : Sp a b j) (h' : Sp c d k) : Sp (a + c) (b + d) (j + k + 1) := ⟨h.low.add h'.low, h.high.add h'.high, by have := h.le; have := h'.le; grind⟩
theorem Sp.mul {a b c d : Rat} {j k : Nat} (h : Sp a b j) (h' : Sp c d k) : Sp (Ab.smlo a b c d) (Ab.smhi a b c d) (j + k) := by
  have := mul_in (p := a) (q := c) (Rat.le_refl) h.le (Rat.le_refl) h'.le
  exact ⟨h.low.smlo h.high h'.low h'.high, h.low.smhi h.high h'.low h'.high, by grind⟩
theorem Sp.sq {a b : Rat} {j : Nat} (h : Sp a b j) : Sp (sqlo a b) (sqhi a b) (2 * j) := by
  have := sq_in (p := a) (Rat.le_refl) h.le
  have hj := h.low.pos
  refine ⟨?_, ((h.low.mul h.low).max (h.high.mul h.high)).mono (by omega), by grind⟩
  unfold sqlo
  split
  · exact rz_zero.mono (by omega)
  · exact ((h.low.mul h.low).min (h.high.mul h.high)).mono (by omega)
theorem Sp.div {a b c d : Rat} {j k : Nat} (h : Sp a b j) (h' : Sp c d k) (hz : ¬ rsign c * rsign d ≤ 0) : Sp (Ab.smlo a b (1 / d) (1 / c)) (Ab.smhi a b (1 / d) (1 / c)) (j + (1 + k)) := by
  have hc0 : c.num ≠ 0 := fun e => hz (by rw [rsign, if_pos e]; omega)
  have hd0 : d.num ≠ 0 := fun e => hz (by rw [show rsign d = 0 from by rw [rsign, if_pos e]]; omega)
  have ro : Rz 1 1 := Rz.of (n := 1) (k := 1) (by rw [show (1 : Int).natAbs = 1 from rfl, nb_one]; decide) (Nat.le_refl _)
  exact h.mul ⟨ro.div h'.high hd0, ro.div h'.low hc0, inv_le h'.le hz⟩

end Go.Proofs.YtjkimjmocfjjnaaDoor.Ab
