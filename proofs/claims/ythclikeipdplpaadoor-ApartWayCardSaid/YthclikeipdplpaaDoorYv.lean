/- Polygons that meet after a move were no farther apart than the move is long: plain facts. -/
import Derived.Test.YthclikeipdplpaaDoorYt
namespace Go.Proofs.YthclikeipdplpaaDoor.Ab
open Go.RowKit
set_option linter.unusedVariables false
set_option linter.unusedSimpArgs false
set_option maxRecDepth 100000

theorem near_le' {p : V2} {l : List V2} : ∀ n i, i < n → near p l n ≤ te p (pget l i) (pget l ((i + 1) % l.length))
  | 0, i, h => absurd h (by omega)
  | n + 1, i, h => by
    unfold near
    by_cases e : i = n
    · subst e; exact rmin_le_r _ _
    · exact Rat.le_trans (rmin_le_l _ _) (near_le' n i (by omega))
/-- Of finitely many lines of which one begins below 0 and all end at 0 or above: a place at which all are at 0 or above, and one is at 0. -/
theorem lines_root (C D : Nat → Rat) (n : Nat) (h0 : ∃ k, k < n ∧ C k < 0) (h1 : ∀ k, k < n → 0 ≤ C k + D k) : ∃ s : Rat, 0 < s ∧ s ≤ 1 ∧ (∀ k, k < n → 0 ≤ C k + s * D k) ∧ ∃ k, k < n ∧ C k + s * D k = 0 := by
  obtain ⟨k0, hk0, hc0⟩ := h0
  obtain ⟨i, hi, hmax⟩ := argmax (fun k => if C k < 0 then -C k / D k else 0) n (by omega)
  have dpos : ∀ k, k < n → C k < 0 → 0 < D k := fun k hk hc => by have := h1 k hk; grind
  have root : ∀ k, k < n → C k < 0 → (-C k / D k) * D k = -C k := fun k hk hc => by
    have := dpos k hk hc
    rw [Rat.div_mul_cancel (by grind)]
  have rpos : ∀ k, k < n → C k < 0 → 0 < -C k / D k := fun k hk hc => by
    rw [Rat.div_def]; exact Rat.mul_pos (by grind) (Rat.inv_pos.2 (dpos k hk hc))
  have hci : C i < 0 := by
    refine Classical.byContradiction fun h => ?_
    have := hmax k0 hk0
    rw [if_pos hc0, if_neg h] at this
    have := rpos k0 hk0 hc0
    grind
  have hle1 : -C i / D i ≤ 1 := by
    have e := root i hi hci
    have hd := dpos i hi hci
    have := h1 i hi
    refine Rat.not_lt.1 fun h => ?_
    have := Rat.mul_pos (show 0 < -C i / D i - 1 by grind) hd
    grind
  refine ⟨-C i / D i, rpos i hi hci, hle1, fun k hk => ?_, i, hi, by rw [root i hi hci]; grind⟩
  by_cases hc : C k < 0
  · have h2 := hmax k hk
    rw [if_pos hc, if_pos hci] at h2
    have e := root k hk hc
    have := Rat.mul_nonneg (show 0 ≤ -C i / D i - -C k / D k by grind) (Rat.le_of_lt (dpos k hk hc))
    grind
  · have hs := rpos i hi hci
    have h2 := h1 k hk
    generalize -C i / D i = s at *
    have m1 := Rat.mul_nonneg (Rat.le_of_lt hs) h2
    have m2 := Rat.mul_nonneg (show 0 ≤ 1 - s by grind) (show 0 ≤ C k by grind)
    grind
/-- A small step keeps finitely many numbers above 0. -/
theorem small_step (g h : Nat → Rat) : ∀ n, (∀ k, k < n → 0 < g k ∨ (g k = 0 ∧ 0 < h k)) → ∃ e : Rat, 0 < e ∧ ∀ k, k < n → 0 < g k + e * h k
  | 0, _ => ⟨1, by decide, fun k hk => absurd hk (by omega)⟩
  | n + 1, hg => by
    obtain ⟨e, he, ih⟩ := small_step g h n (fun k hk => hg k (by omega))
    -- a step that serves both: the less of e and another one; steps that are shorter serve, too
    have short : ∀ k, (0 < g k ∨ (g k = 0 ∧ 0 < h k)) → ∀ e e' : Rat, 0 < g k + e * h k → 0 < e' → e' ≤ e → 0 < g k + e' * h k := by
      intro k hk e e' h1 h2 h3
      by_cases hh : 0 ≤ h k
      · rcases hk with h4 | ⟨h4, h5⟩
        · have := Rat.mul_nonneg (Rat.le_of_lt h2) hh; grind
        · have := Rat.mul_pos h2 h5; grind
      · have := Rat.mul_nonneg (show 0 ≤ e - e' by grind) (show 0 ≤ -h k by grind)
        grind
    have one : ∃ e', 0 < e' ∧ 0 < g n + e' * h n := by
      rcases hg n (by omega) with h4 | ⟨h4, h5⟩
      · by_cases hh : 0 ≤ h n
        · exact ⟨1, by decide, by grind⟩
        · have hd : 0 < -h n := by grind
          refine ⟨g n / (-h n) * (1 / 2), ?_, ?_⟩
          · rw [Rat.div_def]
            exact Rat.mul_pos (Rat.mul_pos h4 (Rat.inv_pos.2 hd)) (by decide +kernel)
          · have e1 : g n / (-h n) * (-h n) = g n := Rat.div_mul_cancel (by grind)
            grind
      · exact ⟨1, by decide, by grind⟩
    obtain ⟨e', he', h'⟩ := one
    by_cases hle : e ≤ e'
    · refine ⟨e, he, fun k hk => ?_⟩
      by_cases hkn : k = n
      · subst hkn; exact short k (hg k (by omega)) e' e h' he hle
      · exact ih k (by omega)
    · refine ⟨e', he', fun k hk => ?_⟩
      by_cases hkn : k = n
      · subst hkn; exact h'
      · exact short k (hg k (by omega)) e e' (ih k (by omega)) he' (by grind)
/-- A point of a segment. -/
def On (x u v : V2) : Prop := ∃ t : Rat, 0 ≤ t ∧ t ≤ 1 ∧ x.1 = u.1 + t * (v.1 - u.1) ∧ x.2 = u.2 + t * (v.2 - u.2)
theorem on_of {x u v : V2} (hs : 0 < teS u v) (hc : crs u v x = 0) (h0 : 0 ≤ teT x u v) (h1 : teT x u v ≤ teS u v) : On x u v := by
  refine ⟨teT x u v / teS u v, ?_, ?_, ?_, ?_⟩
  · rw [Rat.div_def]; exact Rat.mul_nonneg h0 (Rat.le_of_lt (Rat.inv_pos.2 hs))
  · refine Rat.not_lt.1 fun h => ?_
    have e : teT x u v / teS u v * teS u v = teT x u v := Rat.div_mul_cancel (by grind)
    have := Rat.mul_pos (show 0 < teT x u v / teS u v - 1 by grind) hs
    grind
  · have e : teT x u v / teS u v * teS u v = teT x u v := Rat.div_mul_cancel (by grind)
    have key : teS u v * (x.1 - u.1) = teT x u v * (v.1 - u.1) - crs u v x * (v.2 - u.2) := by unfold teS teT crs; grind
    rw [hc] at key
    have h3 : teS u v * (x.1 - u.1 - teT x u v / teS u v * (v.1 - u.1)) = 0 := by grind
    rcases Rat.mul_eq_zero.1 h3 with h | h <;> grind
  · have e : teT x u v / teS u v * teS u v = teT x u v := Rat.div_mul_cancel (by grind)
    have key : teS u v * (x.2 - u.2) = teT x u v * (v.2 - u.2) + crs u v x * (v.1 - u.1) := by unfold teS teT crs; grind
    rw [hc] at key
    have h3 : teS u v * (x.2 - u.2 - teT x u v / teS u v * (v.2 - u.2)) = 0 := by grind
    rcases Rat.mul_eq_zero.1 h3 with h | h <;> grind
/-- No point of a segment is nearer than what apart.toEdge computes. -/
theorem te_le {p x u v : V2} (h : On x u v) : te p u v ≤ teS x p := by
  obtain ⟨t, h0, h1, e1, e2⟩ := h
  have hx : teS x p = teS u p - 2 * t * teT p u v + t * t * teS u v := by
    unfold teS teT; rw [e1, e2]; grind
  have hS : 0 ≤ teS u v := by
    have a := sq_nonneg' (v.1 - u.1)
    have b := sq_nonneg' (v.2 - u.2)
    unfold teS; grind
  unfold te
  split
  · rename_i hT
    split
    · rename_i hTS
      have hv : teS v p = teS u p - 2 * teT p u v + teS u v := by unfold teS teT; grind
      rw [hx, hv]
      have m1 := Rat.mul_nonneg (show 0 ≤ 1 - t by grind) (show 0 ≤ teT p u v - teS u v by grind)
      have m2 := Rat.mul_nonneg (sq_nonneg' (1 - t)) hS
      grind
    · rename_i hTS
      have hS0 : 0 < teS u v := by grind
      have hl : teS u p * teS u v = teT p u v * teT p u v + crs u v p * crs u v p := by unfold teS teT crs; grind
      have e : crs u v p * crs u v p / teS u v * teS u v = crs u v p * crs u v p := Rat.div_mul_cancel (by grind)
      refine Rat.not_lt.1 fun hlt => ?_
      have m1 := Rat.mul_pos (show 0 < crs u v p * crs u v p / teS u v - teS x p by grind) hS0
      have m2 := sq_nonneg' (teT p u v - t * teS u v)
      have hx2 : teS x p * teS u v = crs u v p * crs u v p + (teT p u v - t * teS u v) * (teT p u v - t * teS u v) := by
        rw [hx]; grind
      grind
  · rename_i hT
    rw [hx]
    have m1 := Rat.mul_nonneg h0 (show 0 ≤ -teT p u v by grind)
    have m2 := Rat.mul_nonneg (Rat.mul_nonneg h0 h0) hS
    grind
theorem Cvx.strict {l : List V2} (h : Cvx l) {i j : Nat} (hi : i < l.length) (hj : j < l.length) (h0 : j ≠ i) (h1 : j ≠ (i + 1) % l.length) : 0 < crs (pget l i) (pget l ((i + 1) % l.length)) (pget l j) := by
  by_cases hlt : i < j
  · have h2 : 2 ≤ j - i := by
      rcases Nat.lt_or_ge (i + 1) l.length with hh | hh
      · rw [Nat.mod_eq_of_lt hh] at h1; omega
      · omega
    have := h i hi (j - i) h2 (by omega)
    rwa [show i + (j - i) = j by omega, Nat.mod_eq_of_lt hj] at this
  · have h2 : 2 ≤ j + l.length - i := by
      rcases Nat.lt_or_ge (i + 1) l.length with hh | hh
      · omega
      · have e : i + 1 = l.length := by omega
        rw [e, Nat.mod_self] at h1; omega
    have := h i hi (j + l.length - i) h2 (by omega)
    rwa [show i + (j + l.length - i) = j + l.length by omega, Nat.add_mod_right, Nat.mod_eq_of_lt hj] at this
theorem edge_pos {l : List V2} (h : Cvx l) (h3 : 3 ≤ l.length) {i : Nat} (hi : i < l.length) : 0 < teS (pget l i) (pget l ((i + 1) % l.length)) := by
  have := h i hi 2 (by omega) (by omega)
  refine teS_pos (u := pget l ((i + 2) % l.length)) (v := pget l i) ?_
  have e1 : crs (pget l ((i + 2) % l.length)) (pget l i) (pget l i) = 0 := by unfold crs; grind
  have e2 : crs (pget l ((i + 2) % l.length)) (pget l i) (pget l ((i + 1) % l.length)) = crs (pget l i) (pget l ((i + 1) % l.length)) (pget l ((i + 2) % l.length)) := by unfold crs; grind
  rw [e1, e2]
  intro e; rw [← e] at this; exact absurd this (by decide)
/-- Where the points of a polygon on a line all lie on one side of those of another one, a line separates both. -/
theorem sep_step {a b : List V2} (ca : Cvx a) (cb : Cvx b) (a3 : 3 ≤ a.length) (b3 : 3 ≤ b.length) {u v : V2} (ha : ∀ k, k < a.length → 0 ≤ crs u v (pget a k)) (hb : ∀ l, l < b.length → crs u v (pget b l) ≤ 0) (s : Rat)
    (hs : ∀ k l, k < a.length → l < b.length → crs u v (pget a k) = 0 → crs u v (pget b l) = 0 → 0 < s * (teT (pget b l) u v - teT (pget a k) u v)) : Bey a b ∨ Bey b a := by
  obtain ⟨e, he, h⟩ := small_step (fun p => crs u v (pget a (p / b.length)) - crs u v (pget b (p % b.length))) (fun p => s * (teT (pget b (p % b.length)) u v - teT (pget a (p / b.length)) u v)) (a.length * b.length) (fun p hp => by
    have hk : p / b.length < a.length := Nat.div_lt_of_lt_mul (by rw [Nat.mul_comm]; exact hp)
    have hl : p % b.length < b.length := Nat.mod_lt _ (by omega)
    have h1 := ha _ hk
    have h2 := hb _ hl
    by_cases hz : crs u v (pget a (p / b.length)) - crs u v (pget b (p % b.length)) = 0
    · exact .inr ⟨hz, hs _ _ hk hl (by grind) (by grind)⟩
    · exact .inl (by grind))
  refine sat ca cb a3 b3 (v.2 - u.2 + e * s * (v.1 - u.1), -(v.1 - u.1) + e * s * (v.2 - u.2)) fun k l hk hl => ?_
  have := h (k * b.length + l) (by
    have : (k + 1) * b.length ≤ a.length * b.length := Nat.mul_le_mul_right _ (by omega)
    rw [Nat.succ_mul] at this; omega)
  have d1 : (k * b.length + l) / b.length = k := by
    rw [Nat.mul_comm, Nat.mul_add_div (by omega), Nat.div_eq_of_lt hl, Nat.add_zero]
  have d2 : (k * b.length + l) % b.length = l := by
    rw [Nat.mul_comm, Nat.mul_add_mod, Nat.mod_eq_of_lt hl]
  simp only [d1, d2] at this
  unfold crs teT at this
  unfold dt
  simp only
  generalize pget a k = p at *
  generalize pget b l = q at *
  grind
/-- Two corners on a line beside which the polygon lies are neighbours. -/
theorem line_next {b : List V2} (cb : Cvx b) (b3 : 3 ≤ b.length) {u v : V2} (hb : ∀ l, l < b.length → crs u v (pget b l) ≤ 0) (hs : 0 < teS u v) {j l : Nat} (hj : j < b.length) (hl : l < b.length) (hjl : j ≠ l) (ej : crs u v (pget b j) = 0) (el : crs u v (pget b l) = 0) :
    l = (j + 1) % b.length ∨ j = (l + 1) % b.length := by
  refine Classical.byContradiction fun hno => ?_
  have h1 : l ≠ (j + 1) % b.length := fun h => hno (.inl h)
  have h2 : j ≠ (l + 1) % b.length := fun h => hno (.inr h)
  have s1 := cb.strict hj hl (Ne.symm hjl) h1
  have hp := prv_lt hj
  have s2 := cb.strict hp hl (fun h => h2 (by rw [h, prv_next hj])) (by rw [prv_next hj]; exact Ne.symm hjl)
  rw [prv_next hj] at s2
  have s3 := corner_pos cb b3 hj
  have n1 := hb _ (mod_lt' hj (j + 1))
  have n0 := hb _ hp
  unfold ein eout at s3
  generalize pget b j = q at *
  generalize pget b l = r at *
  generalize pget b ((j + 1) % b.length) = y at *
  generalize pget b (prv b j) = x at *
  -- the line's side, and what lies at the corner
  have k1 : crs u v r * cr (psub q x) (psub y q) = crs u v q * cr (psub q x) (psub y q) + crs x q r * (crs u v y - crs u v q) + crs q y r * (crs u v x - crs u v q) := by
    unfold crs cr psub; grind
  rw [el, ej] at k1
  have m1 := Rat.mul_nonneg (Rat.le_of_lt s2) (show 0 ≤ -crs u v y by grind)
  have m2 := Rat.mul_nonneg (Rat.le_of_lt s1) (show 0 ≤ -crs u v x by grind)
  have z1 : crs x q r * crs u v y = 0 := by grind
  have z2 : crs q y r * crs u v x = 0 := by grind
  have y0 : crs u v y = 0 := by rcases Rat.mul_eq_zero.1 z1 with h | h <;> grind
  have x0 : crs u v x = 0 := by rcases Rat.mul_eq_zero.1 z2 with h | h <;> grind
  have k2 : teS u v * cr (psub q x) (psub y q) = (teT q u v - teT x u v) * (crs u v y - crs u v q) - (crs u v q - crs u v x) * (teT y u v - teT q u v) := by
    unfold teS teT crs cr psub; grind
  rw [y0, ej, x0] at k2
  have := Rat.mul_pos hs s3
  grind
theorem On.symm {x u v : V2} (h : On x u v) : On x v u := by
  obtain ⟨t, h0, h1, e1, e2⟩ := h
  exact ⟨1 - t, by grind, by grind, by grind, by grind⟩
theorem on_line {u v b c : V2} (hs : 0 < teS u v) (eb : crs u v b = 0) (ec : crs u v c = 0) (hb : teT b u v ≤ 0) (hc : 0 < teT c u v) : On u b c := by
  have k1 : teS u v * (b.1 - u.1) = teT b u v * (v.1 - u.1) - crs u v b * (v.2 - u.2) := by unfold teS teT crs; grind
  have k2 : teS u v * (b.2 - u.2) = teT b u v * (v.2 - u.2) + crs u v b * (v.1 - u.1) := by unfold teS teT crs; grind
  have k3 : teS u v * (c.1 - u.1) = teT c u v * (v.1 - u.1) - crs u v c * (v.2 - u.2) := by unfold teS teT crs; grind
  have k4 : teS u v * (c.2 - u.2) = teT c u v * (v.2 - u.2) + crs u v c * (v.1 - u.1) := by unfold teS teT crs; grind
  rw [eb] at k1 k2
  rw [ec] at k3 k4
  have hd : 0 < teT c u v - teT b u v := by grind
  have et : -teT b u v / (teT c u v - teT b u v) * (teT c u v - teT b u v) = -teT b u v := Rat.div_mul_cancel (by grind)
  have hi := Rat.inv_pos.2 hd
  have ht : 0 ≤ -teT b u v / (teT c u v - teT b u v) := by rw [Rat.div_def]; exact Rat.mul_nonneg (by grind) (Rat.le_of_lt hi)
  generalize -teT b u v / (teT c u v - teT b u v) = t at *
  generalize teT b u v = pb at *
  generalize teT c u v = pc at *
  generalize teS u v = S0 at *
  refine ⟨t, ht, ?_, ?_, ?_⟩
  · refine Rat.not_lt.1 fun h => ?_
    have := Rat.mul_pos (show 0 < t - 1 by grind) hd
    grind
  · have h3 : S0 * (u.1 - (b.1 + t * (c.1 - b.1))) = 0 := by grind
    rcases Rat.mul_eq_zero.1 h3 with h | h <;> grind
  · have h3 : S0 * (u.2 - (b.2 + t * (c.2 - b.2))) = 0 := by grind
    rcases Rat.mul_eq_zero.1 h3 with h | h <;> grind
/-- Where a polygon touches the line of an edge of another one, and no line separates them, a corner of one is on an edge of the other. -/
theorem touch {a b : List V2} (ca : Cvx a) (cb : Cvx b) (a3 : 3 ≤ a.length) (b3 : 3 ≤ b.length) (hn : ¬ (Bey a b ∨ Bey b a)) {i j : Nat} (hi : i < a.length) (hj : j < b.length)
    (hle : ∀ k, k < b.length → crs (pget a i) (pget a ((i + 1) % a.length)) (pget b k) ≤ 0) (heq : crs (pget a i) (pget a ((i + 1) % a.length)) (pget b j) = 0) :
    (∃ k l, k < a.length ∧ l < b.length ∧ On (pget b l) (pget a k) (pget a ((k + 1) % a.length))) ∨ (∃ k l, k < a.length ∧ l < b.length ∧ On (pget a k) (pget b l) (pget b ((l + 1) % b.length))) := by
  have hS := edge_pos ca a3 hi
  have hA : ∀ k, k < a.length → 0 ≤ crs (pget a i) (pget a ((i + 1) % a.length)) (pget a k) := fun k hk => ca.left hi hk
  have pA : ∀ k, k < a.length → crs (pget a i) (pget a ((i + 1) % a.length)) (pget a k) = 0 → 0 ≤ teT (pget a k) (pget a i) (pget a ((i + 1) % a.length)) ∧ teT (pget a k) (pget a i) (pget a ((i + 1) % a.length)) ≤ teS (pget a i) (pget a ((i + 1) % a.length)) := by
    intro k hk hz
    by_cases h0 : k = i
    · subst h0
      have e : teT (pget a k) (pget a k) (pget a ((k + 1) % a.length)) = 0 := by unfold teT; grind
      rw [e]; exact ⟨Rat.le_refl, Rat.le_of_lt hS⟩
    · by_cases h1 : k = (i + 1) % a.length
      · rw [h1]
        have e : teT (pget a ((i + 1) % a.length)) (pget a i) (pget a ((i + 1) % a.length)) = teS (pget a i) (pget a ((i + 1) % a.length)) := by unfold teT teS; grind
        rw [e]; exact ⟨Rat.le_of_lt hS, Rat.le_refl⟩
      · have := ca.strict hi hk h0 h1
        rw [hz] at this; exact absurd this (by decide)
  generalize hu : pget a i = u at *
  generalize hv : pget a ((i + 1) % a.length) = v at *
  by_cases hin : ∃ l, l < b.length ∧ crs u v (pget b l) = 0 ∧ 0 ≤ teT (pget b l) u v ∧ teT (pget b l) u v ≤ teS u v
  · obtain ⟨l, hl, h0, h1, h2⟩ := hin
    refine .inl ⟨i, l, hi, hl, ?_⟩
    rw [hu, hv]
    exact on_of hS h0 h1 h2
  have out : ∀ l, l < b.length → crs u v (pget b l) = 0 → teT (pget b l) u v < 0 ∨ teS u v < teT (pget b l) u v := by
    intro l hl h0
    by_cases h1 : 0 ≤ teT (pget b l) u v
    · refine .inr (Rat.not_le.1 fun h2 => hin ⟨l, hl, h0, h1, h2⟩)
    · exact .inl (Rat.not_le.1 h1)
  by_cases hlow : ∃ l, l < b.length ∧ crs u v (pget b l) = 0 ∧ teT (pget b l) u v < 0
  · by_cases hhigh : ∃ l, l < b.length ∧ crs u v (pget b l) = 0 ∧ teS u v < teT (pget b l) u v
    · obtain ⟨l, hl, h0, h1⟩ := hlow
      obtain ⟨m, hm, g0, g1⟩ := hhigh
      have hne : l ≠ m := fun e => by subst e; grind
      have on := on_line hS h0 g0 (Rat.le_of_lt h1) (by grind)
      rcases line_next cb b3 hle hS hl hm hne h0 g0 with e | e
      · refine .inr ⟨i, l, hi, hl, ?_⟩
        rw [hu, ← e]; exact on
      · refine .inr ⟨i, m, hi, hm, ?_⟩
        rw [hu, ← e]; exact on.symm
    · exfalso
      refine hn (sep_step ca cb a3 b3 hA hle (-1) fun k l hk hl ea eb => ?_)
      have h1 := pA k hk ea
      rcases out l hl eb with h2 | h2
      · grind
      · exact absurd ⟨l, hl, eb, h2⟩ hhigh
  · exfalso
    refine hn (sep_step ca cb a3 b3 hA hle 1 fun k l hk hl ea eb => ?_)
    have h1 := pA k hk ea
    rcases out l hl eb with h2 | h2
    · exact absurd ⟨l, hl, eb, h2⟩ hlow
    · grind

/-! a polygon on its way -/
theorem mv0 (x y : Rat) (p : V2) : mv x y (some 0) p = (x + p.1, y + p.2) := by
  have h1 : tcos (some 0) = 1 := by simp only [tcos]; decide +kernel
  have h2 : tsin (some 0) = 0 := by simp only [tsin]; decide +kernel
  unfold mv rx ry
  rw [h1, h2]
  have e1 : x + (p.1 * 1 - p.2 * 0) = x + p.1 := by grind
  have e2 : y + (p.1 * 0 + p.2 * 1) = y + p.2 := by grind
  rw [e1, e2]
/-- The greatest of the first numbers. -/
def mxr (f : Nat → Rat) : Nat → Rat
  | 0 => f 0
  | n + 1 => rmax (mxr f n) (f (n + 1))
theorem mxr_le {f : Nat → Rat} : ∀ n j, j ≤ n → f j ≤ mxr f n
  | 0, j, h => by
    obtain rfl : j = 0 := (by omega)
    exact Rat.le_refl
  | n + 1, j, h => by
    unfold mxr
    rw [rmax_def]
    by_cases e : j = n + 1
    · subst e; split <;> grind
    · have := mxr_le (f := f) n j (by omega)
      split <;> grind
theorem mxr_at {f : Nat → Rat} : ∀ n, ∃ j, j ≤ n ∧ mxr f n = f j
  | 0 => ⟨0, Nat.le_refl _, rfl⟩
  | n + 1 => by
    obtain ⟨j, hj, e⟩ := mxr_at (f := f) n
    unfold mxr
    rw [rmax_def]
    split
    · exact ⟨j, by omega, e⟩
    · exact ⟨n + 1, Nat.le_refl _, rfl⟩
theorem crs_far (u v x : V2) (s : Rat) (w : V2) : crs u v (s * w.1 + x.1, s * w.2 + x.2) = crs u v x + s * ((v.1 - u.1) * w.2 - (v.2 - u.2) * w.1) := by unfold crs; simp only; grind
theorem crs_near (u v x : V2) (s : Rat) (w : V2) : crs (s * w.1 + u.1, s * w.2 + u.2) (s * w.1 + v.1, s * w.2 + v.2) x = crs u v x + s * -((v.1 - u.1) * w.2 - (v.2 - u.2) * w.1) := by unfold crs; simp only; grind
/-- Polygons that meet after a move were no farther apart than it is long. -/
theorem way_far {a b : List V2} {w : V2} (ca : Cvx a) (cb : Cvx b) (a3 : 3 ≤ a.length) (b3 : 3 ≤ b.length) (hno : Bey a b ∨ Bey b a) (hme : ¬ (Bey a (b.map (mv w.1 w.2 (some 0))) ∨ Bey (b.map (mv w.1 w.2 (some 0))) a)) :
    sq2 a b b.length ≤ w.1 * w.1 + w.2 * w.2 := by
  -- the polygon on its way
  let B := fun s : Rat => b.map (mv (s * w.1) (s * w.2) (some 0))
  have lB : ∀ s, (B s).length = b.length := fun s => by simp [B]
  have gB : ∀ s j, j < b.length → pget (B s) j = (s * w.1 + (pget b j).1, s * w.2 + (pget b j).2) := fun s j hj => by
    show pget (b.map (mv (s * w.1) (s * w.2) (some 0))) j = _
    rw [pget_map hj, mv0]
  have cB : ∀ s, Cvx (B s) := fun s => by
    have := cb
    rw [← cvxB_iff] at this ⊢
    show cvxB (b.map (mv (s * w.1) (s * w.2) (some 0))) = true
    rwa [cvxB_mv]
  have B1 : B 1 = b.map (mv w.1 w.2 (some 0)) := by simp only [B, Rat.one_mul]
  -- the lines
  let C := fun k => if k < a.length then mxr (fun j => crs (pget a k) (pget a ((k + 1) % a.length)) (pget b j)) (b.length - 1) else mxr (fun i => crs (pget b (k - a.length)) (pget b ((k - a.length + 1) % b.length)) (pget a i)) (a.length - 1)
  let D := fun k => if k < a.length then ((pget a ((k + 1) % a.length)).1 - (pget a k).1) * w.2 - ((pget a ((k + 1) % a.length)).2 - (pget a k).2) * w.1 else -(((pget b ((k - a.length + 1) % b.length)).1 - (pget b (k - a.length)).1) * w.2 - ((pget b ((k - a.length + 1) % b.length)).2 - (pget b (k - a.length)).2) * w.1)
  have cA : ∀ s k j, k < a.length → j < b.length → crs (pget a k) (pget a ((k + 1) % a.length)) (pget (B s) j) ≤ C k + s * D k := by
    intro s k j hk hj
    rw [gB s j hj, crs_far]
    have := mxr_le (f := fun j => crs (pget a k) (pget a ((k + 1) % a.length)) (pget b j)) (b.length - 1) j (by omega)
    simp only [C, D, if_pos hk]
    grind
  have atA : ∀ s k, k < a.length → ∃ j, j < b.length ∧ crs (pget a k) (pget a ((k + 1) % a.length)) (pget (B s) j) = C k + s * D k := by
    intro s k hk
    obtain ⟨j, hj, e⟩ := mxr_at (f := fun j => crs (pget a k) (pget a ((k + 1) % a.length)) (pget b j)) (b.length - 1)
    have hj' : j < b.length := by omega
    refine ⟨j, hj', ?_⟩
    rw [gB s j hj', crs_far]
    simp only [C, D, if_pos hk]
    rw [e]
  have nA : ∀ k, ¬ (a.length + k < a.length) := fun k => by omega
  have sA : ∀ k, a.length + k - a.length = k := fun k => by omega
  have cBk : ∀ s k i, k < b.length → i < a.length → crs (pget (B s) k) (pget (B s) ((k + 1) % b.length)) (pget a i) ≤ C (a.length + k) + s * D (a.length + k) := by
    intro s k i hk hi
    rw [gB s k hk, gB s _ (mod_lt' hk _), crs_near]
    have := mxr_le (f := fun i => crs (pget b k) (pget b ((k + 1) % b.length)) (pget a i)) (a.length - 1) i (by omega)
    simp only [C, D, if_neg (nA k), sA k]
    grind
  have atB : ∀ s k, k < b.length → ∃ i, i < a.length ∧ crs (pget (B s) k) (pget (B s) ((k + 1) % b.length)) (pget a i) = C (a.length + k) + s * D (a.length + k) := by
    intro s k hk
    obtain ⟨i, hi, e⟩ := mxr_at (f := fun i => crs (pget b k) (pget b ((k + 1) % b.length)) (pget a i)) (a.length - 1)
    have hi' : i < a.length := by omega
    refine ⟨i, hi', ?_⟩
    rw [gB s k hk, gB s _ (mod_lt' hk _), crs_near]
    simp only [C, D, if_neg (nA k), sA k]
    rw [e]
  -- no line separates where no number is below 0, and one does where one is
  have noBey : ∀ s, (∀ k, k < a.length + b.length → 0 ≤ C k + s * D k) → ¬ (Bey a (B s) ∨ Bey (B s) a) := by
    rintro s h (⟨k, hk, hb⟩ | ⟨k, hk, hb⟩)
    · obtain ⟨j, hj, e⟩ := atA s k hk
      have h1 := hb j (by rw [lB]; exact hj)
      have h2 := h k (by omega)
      rw [e] at h1; grind
    · rw [lB] at hk
      obtain ⟨i, hi, e⟩ := atB s k hk
      have h1 := hb i hi
      rw [lB] at h1
      have h2 := h (a.length + k) (by omega)
      rw [e] at h1; grind
  have isBey : ∀ s k, k < a.length + b.length → C k + s * D k < 0 → Bey a (B s) ∨ Bey (B s) a := by
    intro s k hk h
    by_cases hka : k < a.length
    · refine .inl ⟨k, hka, fun j hj => ?_⟩
      rw [lB] at hj
      have := cA s k j hka hj
      grind
    · obtain ⟨m, rfl⟩ : ∃ m, k = a.length + m := ⟨k - a.length, by omega⟩
      refine .inr ⟨m, by rw [lB]; omega, fun i hi => ?_⟩
      rw [lB]
      have := cBk s m i (by omega) hi
      grind
  have B0 : ∀ j, j < b.length → pget (B 0) j = pget b j := fun j hj => by rw [gB 0 j hj]; simp only [Rat.zero_mul, Rat.zero_add]
  have bey0 : Bey a (B 0) ∨ Bey (B 0) a := by
    rcases hno with ⟨k, hk, h⟩ | ⟨k, hk, h⟩
    · refine .inl ⟨k, hk, fun j hj => ?_⟩
      rw [lB] at hj
      rw [B0 j hj]; exact h j hj
    · refine .inr ⟨k, by rw [lB]; exact hk, fun i hi => ?_⟩
      rw [lB, B0 k hk, B0 _ (mod_lt' hk _)]; exact h i hi
  obtain ⟨s, s0, s1, hall, k, hk, hz⟩ := lines_root C D (a.length + b.length) (by
    refine Classical.byContradiction fun h => noBey 0 (fun k hk => ?_) bey0
    rw [Rat.zero_mul, Rat.add_zero]
    exact Rat.not_lt.1 fun h' => h ⟨k, hk, h'⟩) (fun k hk => by
    refine Rat.not_lt.1 fun h => hme ?_
    rw [← B1]
    exact isBey 1 k hk (by rw [Rat.one_mul]; exact h))
  have hn := noBey s hall
  have lw : s * w.1 * (s * w.1) + s * w.2 * (s * w.2) ≤ w.1 * w.1 + w.2 * w.2 := by
    have q1 := sq_nonneg' w.1
    have q2 := sq_nonneg' w.2
    have m1 := Rat.mul_nonneg (Rat.mul_nonneg (show 0 ≤ 1 - s by grind) (show 0 ≤ 1 + s by grind)) (show 0 ≤ w.1 * w.1 + w.2 * w.2 by grind)
    grind
  have fin : ((∃ k l, k < a.length ∧ l < (B s).length ∧ On (pget (B s) l) (pget a k) (pget a ((k + 1) % a.length))) ∨ (∃ k l, k < a.length ∧ l < (B s).length ∧ On (pget a k) (pget (B s) l) (pget (B s) ((l + 1) % (B s).length)))) → sq2 a b b.length ≤ w.1 * w.1 + w.2 * w.2 := by
    rintro (⟨k, l, hk, hl, on⟩ | ⟨k, l, hk, hl, on⟩)
    · rw [lB] at hl
      rw [gB s l hl] at on
      have h1 := te_le (p := pget b l) on
      have h2 : teS (s * w.1 + (pget b l).1, s * w.2 + (pget b l).2) (pget b l) = s * w.1 * (s * w.1) + s * w.2 * (s * w.2) := by unfold teS; simp only; grind
      have h3 := sq2_le2 (a := a) (b := b) b.length l hl
      have h4 := near_le' (p := pget b l) (l := a) a.length k hk
      grind
    · rw [lB] at hl on
      rw [gB s l hl, gB s _ (mod_lt' hl _)] at on
      have on2 : On ((pget a k).1 - s * w.1, (pget a k).2 - s * w.2) (pget b l) (pget b ((l + 1) % b.length)) := by
        obtain ⟨t, t0, t1, e1, e2⟩ := on
        refine ⟨t, t0, t1, ?_, ?_⟩
        · simp only at e1 ⊢; grind
        · simp only at e2 ⊢; grind
      have h1 := te_le (p := pget a k) on2
      have h2 : teS ((pget a k).1 - s * w.1, (pget a k).2 - s * w.2) (pget a k) = s * w.1 * (s * w.1) + s * w.2 * (s * w.2) := by unfold teS; simp only; grind
      have h3 := Rat.le_trans (sq2_le1 (a := a) (b := b) b.length) (sq1_le a.length k hk)
      have h4 := near_le' (p := pget a k) (l := b) b.length l hl
      grind
  refine fin ?_
  by_cases hka : k < a.length
  · obtain ⟨j, hj, e⟩ := atA s k hka
    exact touch ca (cB s) a3 (by rw [lB]; exact b3) hn hka (by rw [lB]; exact hj) (fun j hj => by rw [lB] at hj; have := cA s k j hka hj; grind) (by rw [e]; exact hz)
  · obtain ⟨m, rfl⟩ : ∃ m, k = a.length + m := ⟨k - a.length, by omega⟩
    have hm : m < b.length := by omega
    obtain ⟨i, hi, e⟩ := atB s m hm
    have := touch (cB s) ca (by rw [lB]; exact b3) a3 (fun h => hn h.symm) (i := m) (j := i) (by rw [lB]; exact hm) hi (fun i hi => by rw [lB]; have := cBk s m i hm hi; grind) (by rw [lB, e]; exact hz)
    rcases this with ⟨k, l, hk, hl, on⟩ | ⟨k, l, hk, hl, on⟩
    · exact .inr ⟨l, k, hl, hk, on⟩
    · exact .inl ⟨l, k, hl, hk, on⟩
end Go.Proofs.YthclikeipdplpaaDoor.Ab
