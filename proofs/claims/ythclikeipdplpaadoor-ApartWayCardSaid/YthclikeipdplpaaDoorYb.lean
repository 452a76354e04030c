/- Two convex polygons that a line separates are separated along an edge of one of them: plain facts. -/
import Derived.Test.YthclikeipdplpaaDoorYa
namespace Go.Proofs.YthclikeipdplpaaDoor.Ab
set_option linter.unusedVariables false
set_option linter.unusedSimpArgs false
set_option maxRecDepth 100000

def cr (u v : V2) : Rat := u.1 * v.2 - u.2 * v.1
theorem cr_pl (a b c d : V2) : cr a b * cr c d - cr a c * cr b d + cr a d * cr b c = 0 := by unfold cr; grind
theorem cr_sw (a b : V2) : cr b a = -cr a b := by unfold cr; grind
theorem pos_of_mul {a b : Rat} (h : 0 < a * b) (hb : 0 < b) : 0 < a := by
  rcases Rat.le_total (a := a) (b := 0) with h1 | h1
  · have := Rat.mul_nonneg (show 0 ≤ -a by grind) (Rat.le_of_lt hb); grind
  · rcases Rat.le_iff_lt_or_eq.1 h1 with h2 | h2
    · exact h2
    · rw [← h2] at h; grind
theorem nonneg_of_mul {a b : Rat} (h : 0 ≤ a * b) (hb : 0 < b) : 0 ≤ a := by
  rcases Rat.le_total (a := 0) (b := a) with h1 | h1
  · exact h1
  · have h2 := Rat.mul_nonneg (show 0 ≤ -a by grind) (Rat.le_of_lt hb)
    have h3 : a * b = 0 := by grind
    rcases Rat.mul_eq_zero.1 h3 with h4 | h4
    · grind
    · grind
/-- A direction within a sector. -/
def Sec (g0 g1 x : V2) : Prop := 0 ≤ cr g0 x ∧ 0 ≤ cr x g1
/-- Where the direction is one end of a sector, that end does. -/
theorem sec_end1 {g0 g1 u w x y : V2} (hg : 0 < cr g0 g1) (h0 : 0 ≤ cr g0 u) (h1 : cr u g1 = 0) (hw : 0 < cr w u) (hs : Sec x y u) : 0 < cr w g1 ∧ Sec x y g1 := by
  have key : ∀ z, cr z u * cr g0 g1 = cr z g1 * cr g0 u := fun z => by
    have := cr_pl z u g0 g1
    rw [h1] at this
    have e := cr_sw g0 u
    grind
  have hp : 0 < cr g0 u := by
    rcases Rat.le_iff_lt_or_eq.1 h0 with h | h
    · exact h
    · have := key w
      rw [← h] at this
      have := Rat.mul_pos hw hg
      grind
  refine ⟨pos_of_mul (b := cr g0 u) ?_ hp, nonneg_of_mul (b := cr g0 u) ?_ hp, ?_⟩
  · rw [← key]; exact Rat.mul_pos hw hg
  · rw [← key]; exact Rat.mul_nonneg hs.1 (Rat.le_of_lt hg)
  · have h2 : 0 ≤ cr u y := hs.2
    have h3 := key y
    have h4 := cr_sw y g1
    have h5 := cr_sw y u
    refine nonneg_of_mul (b := cr g0 u) ?_ hp
    rw [h4]
    have := Rat.mul_nonneg h2 (Rat.le_of_lt hg)
    rw [h5, Rat.neg_mul, h3, ← Rat.neg_mul] at this
    exact this
theorem sec_end0 {g0 g1 u w x y : V2} (hg : 0 < cr g0 g1) (h0 : cr g0 u = 0) (h1 : 0 ≤ cr u g1) (hw : 0 < cr w u) (hs : Sec x y u) : 0 < cr w g0 ∧ Sec x y g0 := by
  have key : ∀ z, cr z u * cr g0 g1 = cr z g0 * cr u g1 := fun z => by
    have := cr_pl z g0 u g1
    have e := cr_sw g0 u
    grind
  have hp : 0 < cr u g1 := by
    rcases Rat.le_iff_lt_or_eq.1 h1 with h | h
    · exact h
    · have := key w
      rw [← h] at this
      have := Rat.mul_pos hw hg
      grind
  refine ⟨pos_of_mul (b := cr u g1) ?_ hp, nonneg_of_mul (b := cr u g1) ?_ hp, ?_⟩
  · rw [← key]; exact Rat.mul_pos hw hg
  · rw [← key]; exact Rat.mul_nonneg hs.1 (Rat.le_of_lt hg)
  · have h2 : 0 ≤ cr u y := hs.2
    have h3 := key y
    have h4 := cr_sw y g0
    have h5 := cr_sw y u
    refine nonneg_of_mul (b := cr u g1) ?_ hp
    rw [h4]
    have := Rat.mul_nonneg h2 (Rat.le_of_lt hg)
    rw [h5, Rat.neg_mul, h3, ← Rat.neg_mul] at this
    exact this
/-- The upper end that comes first is in the other sector. -/
theorem sec_up {e0 e1 g0 g1 u : V2} (hg : 0 < cr g0 g1) (u0 : 0 < cr g0 u) (u1 : 0 < cr u g1) (v1 : 0 < cr u e1) (h : 0 ≤ cr e1 g1) : 0 < cr g0 e1 := by
  have := cr_pl g0 u e1 g1
  refine pos_of_mul (b := cr u g1) ?_ u1
  have a := Rat.mul_nonneg (Rat.le_of_lt u0) h
  have b := Rat.mul_pos hg v1
  grind
theorem sec_down {e0 e1 g0 g1 u : V2} (hg : 0 < cr g0 g1) (u0 : 0 < cr g0 u) (u1 : 0 < cr u g1) (v0 : 0 < cr e0 u) (h : 0 ≤ cr g0 e0) : 0 < cr e0 g1 := by
  have := cr_pl g0 e0 u g1
  refine pos_of_mul (b := cr g0 u) ?_ u0
  have a := Rat.mul_nonneg h (Rat.le_of_lt u1)
  have b := Rat.mul_pos hg v0
  grind
/-- Between two directions with a positive product, one does. -/
theorem sec_two {h0 h1 u w : V2} (h : 0 < cr h0 h1) (u0 : 0 < cr h0 u) (u1 : 0 < cr u h1) (hw : 0 < cr w u) : 0 < cr w h0 ∨ 0 < cr w h1 := by
  have := cr_pl w h0 u h1
  by_cases a : 0 < cr w h0
  · exact .inl a
  by_cases b : 0 < cr w h1
  · exact .inr b
  exfalso
  have := Rat.mul_pos hw h
  have := Rat.mul_nonneg (show 0 ≤ -cr w h0 by grind) (Rat.le_of_lt u1)
  have := Rat.mul_nonneg (show 0 ≤ -cr w h1 by grind) (Rat.le_of_lt u0)
  grind
/-- Of two sectors with a common direction, an end of one is in the other one. -/
theorem sec_main {e0 e1 g0 g1 u w : V2} (he : 0 < cr e0 e1) (hg : 0 < cr g0 g1) (hu : Sec e0 e1 u) (hv : Sec g0 g1 u) (hw : 0 < cr w u) :
    (0 < cr w e0 ∧ Sec g0 g1 e0) ∨ (0 < cr w e1 ∧ Sec g0 g1 e1) ∨ (0 < cr w g0 ∧ Sec e0 e1 g0) ∨ (0 < cr w g1 ∧ Sec e0 e1 g1) := by
  by_cases a0 : cr e0 u = 0
  · exact .inl (sec_end0 he a0 hu.2 hw hv)
  by_cases a1 : cr u e1 = 0
  · exact .inr (.inl (sec_end1 he hu.1 a1 hw hv))
  by_cases b0 : cr g0 u = 0
  · exact .inr (.inr (.inl (sec_end0 hg b0 hv.2 hw hu)))
  by_cases b1 : cr u g1 = 0
  · exact .inr (.inr (.inr (sec_end1 hg hv.1 b1 hw hu)))
  have a0 : 0 < cr e0 u := by have := hu.1; grind
  have a1 : 0 < cr u e1 := by have := hu.2; grind
  have b0 : 0 < cr g0 u := by have := hv.1; grind
  have b1 : 0 < cr u g1 := by have := hv.2; grind
  have s1 := cr_sw e1 g1
  have s0 := cr_sw e0 g0
  by_cases c1 : 0 ≤ cr e1 g1
  · have d1 := sec_up (e0 := e0) hg b0 b1 a1 c1
    by_cases c0 : 0 ≤ cr g0 e0
    · have d0 := sec_down (e1 := e1) hg b0 b1 a0 c0
      rcases sec_two he a0 a1 hw with h | h
      · exact .inl ⟨h, c0, Rat.le_of_lt d0⟩
      · exact .inr (.inl ⟨h, Rat.le_of_lt d1, c1⟩)
    · have c0' : 0 ≤ cr e0 g0 := by grind
      have d0 := sec_down (e1 := g1) he a0 a1 b0 c0'
      rcases sec_two d1 b0 a1 hw with h | h
      · exact .inr (.inr (.inl ⟨h, c0', Rat.le_of_lt d0⟩))
      · exact .inr (.inl ⟨h, Rat.le_of_lt d1, c1⟩)
  · have c1' : 0 ≤ cr g1 e1 := by grind
    have d1 := sec_up (e0 := g0) he a0 a1 b1 c1'
    by_cases c0 : 0 ≤ cr g0 e0
    · have d0 := sec_down (e1 := e1) hg b0 b1 a0 c0
      rcases sec_two d1 a0 b1 hw with h | h
      · exact .inl ⟨h, c0, Rat.le_of_lt d0⟩
      · exact .inr (.inr (.inr ⟨h, Rat.le_of_lt d1, c1'⟩))
    · have c0' : 0 ≤ cr e0 g0 := by grind
      have d0 := sec_down (e1 := g1) he a0 a1 b0 c0'
      rcases sec_two hg b0 b1 hw with h | h
      · exact .inr (.inr (.inl ⟨h, c0', Rat.le_of_lt d0⟩))
      · exact .inr (.inr (.inr ⟨h, Rat.le_of_lt d1, c1'⟩))

/-! corners -/
def psub (a b : V2) : V2 := (a.1 - b.1, a.2 - b.2)
def pneg (a : V2) : V2 := (-a.1, -a.2)
theorem crs_cr (a b c : V2) : crs a b c = cr (psub b a) (psub c a) := by unfold crs cr psub; grind
/-- The corner before. -/
def prv (l : List V2) (i : Nat) : Nat := (i + l.length - 1) % l.length
theorem prv_lt {l : List V2} {i : Nat} (hi : i < l.length) : prv l i < l.length := Nat.mod_lt _ (by omega)
theorem prv_next {l : List V2} {i : Nat} (hi : i < l.length) : (prv l i + 1) % l.length = i := by
  unfold prv
  by_cases h0 : i = 0
  · subst h0
    rw [Nat.zero_add, Nat.mod_eq_of_lt (show l.length - 1 < l.length by omega), Nat.sub_add_cancel (by omega), Nat.mod_self]
  · rw [show i + l.length - 1 = i - 1 + l.length by omega, Nat.add_mod_right, Nat.mod_eq_of_lt (show i - 1 < l.length by omega), Nat.sub_add_cancel (by omega), Nat.mod_eq_of_lt hi]
/-- The edge that leads to a corner, and the one that leaves it. -/
def ein (l : List V2) (i : Nat) : V2 := psub (pget l i) (pget l (prv l i))
def eout (l : List V2) (i : Nat) : V2 := psub (pget l ((i + 1) % l.length)) (pget l i)
theorem corner_pos {l : List V2} (h : Cvx l) (h3 : 3 ≤ l.length) {i : Nat} (hi : i < l.length) : 0 < cr (ein l i) (eout l i) := by
  have := h (prv l i) (prv_lt hi) 2 (by omega) (by omega)
  rw [prv_next hi, crs_cr] at this
  have e : (prv l i + 2) % l.length = (i + 1) % l.length := by
    rw [show prv l i + 2 = prv l i + 1 + 1 by omega, Nat.add_mod, prv_next hi, Nat.mod_eq_of_lt (show 1 < l.length by omega)]
  rw [e] at this
  unfold ein eout
  have e2 : ∀ a b c : V2, cr (psub b a) (psub c a) = cr (psub b a) (psub c b) := fun a b c => by unfold cr psub; grind
  rw [e2] at this
  exact this
/-- Seen from a corner, every other one is in its sector. -/
theorem corner_sec {l : List V2} (h : Cvx l) {i j : Nat} (hi : i < l.length) (hj : j < l.length) : 0 ≤ cr (ein l i) (psub (pget l j) (pget l i)) ∧ 0 ≤ cr (eout l i) (psub (pget l j) (pget l i)) := by
  constructor
  · have := h.left (prv_lt hi) hj
    rw [prv_next hi, crs_cr] at this
    unfold ein
    have e2 : ∀ a b c : V2, cr (psub b a) (psub c a) = cr (psub b a) (psub c b) := fun a b c => by unfold cr psub; grind
    rwa [e2] at this
  · have := h.left hi hj
    rw [crs_cr] at this
    exact this
/-- A direction in the sector of a corner: no other corner is farther to the right. -/
theorem corner_dir {l : List V2} (h : Cvx l) (h3 : 3 ≤ l.length) {i j : Nat} (hi : i < l.length) (hj : j < l.length) {u : V2} (hs : Sec (ein l i) (eout l i) u) : 0 ≤ cr u (psub (pget l j) (pget l i)) := by
  have hp := corner_pos h h3 hi
  obtain ⟨c0, c1⟩ := corner_sec h hi hj
  have k := cr_pl u (psub (pget l j) (pget l i)) (ein l i) (eout l i)
  refine nonneg_of_mul (b := cr (ein l i) (eout l i)) ?_ hp
  have s1 := cr_sw (ein l i) u
  have s2 := cr_sw (eout l i) (psub (pget l j) (pget l i))
  have s3 := cr_sw (ein l i) (psub (pget l j) (pget l i))
  have a := Rat.mul_nonneg hs.1 c1
  have b := Rat.mul_nonneg hs.2 c0
  rw [s1, s2, s3] at k
  generalize cr u (psub (pget l j) (pget l i)) = X1 at *
  generalize cr (ein l i) (psub (pget l j) (pget l i)) = X2 at *
  generalize cr (eout l i) (psub (pget l j) (pget l i)) = X3 at *
  generalize cr (ein l i) u = X4 at *
  generalize cr u (eout l i) = X5 at *
  generalize cr (ein l i) (eout l i) = X6 at *
  clear s1 s2 s3 h c0 c1 hs hp
  grind
/-- Is a polygon to the right of an edge of another one? -/
def Bey (a b : List V2) : Prop := ∃ i, i < a.length ∧ ∀ j, j < b.length → crs (pget a i) (pget a ((i + 1) % a.length)) (pget b j) < 0
theorem argmax (f : Nat → Rat) : ∀ n, 0 < n → ∃ i, i < n ∧ ∀ j, j < n → f j ≤ f i
  | 0, h => absurd h (by omega)
  | 1, _ => ⟨0, by omega, fun j hj => by
    obtain rfl : j = 0 := (by omega)
    exact Rat.le_refl⟩
  | n + 2, _ => by
    obtain ⟨i, hi, h⟩ := argmax f (n + 1) (by omega)
    by_cases hc : f (n + 1) ≤ f i
    · refine ⟨i, by omega, fun j hj => ?_⟩
      by_cases hj2 : j = n + 1
      · rw [hj2]; exact hc
      · exact h j (by omega)
    · refine ⟨n + 1, by omega, fun j hj => ?_⟩
      by_cases hj2 : j = n + 1
      · rw [hj2]; exact Rat.le_refl
      · have := h j (by omega); grind
/-- Separation along an edge. -/
theorem sat {a b : List V2} (ha : Cvx a) (hb : Cvx b) (a3 : 3 ≤ a.length) (b3 : 3 ≤ b.length) (m : V2)
    (h : ∀ i j, i < a.length → j < b.length → dt m (pget a i) < dt m (pget b j)) : Bey a b ∨ Bey b a := by
  obtain ⟨i, hi, mi⟩ := argmax (fun i => dt m (pget a i)) a.length (by omega)
  obtain ⟨j, hj, mj⟩ := argmax (fun j => -dt m (pget b j)) b.length (by omega)
  have hij := h i j hi hj
  have mod : ∀ {n k : Nat}, 3 ≤ n → k % n < n := fun h => Nat.mod_lt _ (by omega)
  have e1 := mi ((i + 1) % a.length) (mod a3)
  have e0 := mi (prv a i) (prv_lt hi)
  have f1 := mj ((j + 1) % b.length) (mod b3)
  have f0 := mj (prv b j) (prv_lt hj)
  have ne : ∀ u v, cr (pneg u) (pneg v) = cr u v := fun u v => by unfold cr pneg; grind
  have hu : Sec (ein a i) (eout a i) (-m.2, m.1) := by
    unfold Sec ein eout cr psub dt at *; constructor <;> grind
  have hv : Sec (pneg (ein b j)) (pneg (eout b j)) (-m.2, m.1) := by
    unfold Sec ein eout cr psub pneg dt at *; constructor <;> grind
  have hw : 0 < cr (psub (pget b j) (pget a i)) (-m.2, m.1) := by
    unfold cr psub dt at *; grind
  have hp := corner_pos ha a3 hi
  have hq := corner_pos hb b3 hj
  rw [← ne] at hq
  -- an edge of a
  have useA : ∀ k, k < a.length → (pget a k = pget a i ∨ pget a ((k + 1) % a.length) = pget a i) → 0 < cr (psub (pget b j) (pget a i)) (eout a k) → Sec (pneg (ein b j)) (pneg (eout b j)) (eout a k) → Bey a b := by
    intro k hk hki h1 h2
    refine ⟨k, hk, fun t ht => ?_⟩
    have h2' : Sec (ein b j) (eout b j) (pneg (eout a k)) := by
      unfold Sec at *
      rw [← ne (ein b j), ← ne (pneg (eout a k))]
      have e : pneg (pneg (eout a k)) = eout a k := by unfold pneg; simp only [Rat.neg_neg]
      rw [e]; exact h2
    have h3 := corner_dir hb b3 hj ht h2'
    rw [crs_cr]
    have h4 : psub (pget a ((k + 1) % a.length)) (pget a k) = eout a k := rfl
    rw [h4]
    have h5 : cr (eout a k) (psub (pget b t) (pget a k)) = cr (eout a k) (psub (pget b t) (pget a i)) := by
      rcases hki with e | e
      · rw [e]
      · rw [← e]; unfold eout cr psub; grind
    rw [h5]
    generalize eout a k = E at *
    unfold cr psub pneg at *
    grind
  have useB : ∀ k, k < b.length → (pget b k = pget b j ∨ pget b ((k + 1) % b.length) = pget b j) → 0 < cr (psub (pget b j) (pget a i)) (pneg (eout b k)) → Sec (ein a i) (eout a i) (pneg (eout b k)) → Bey b a := by
    intro k hk hki h1 h2
    refine ⟨k, hk, fun t ht => ?_⟩
    have h3 := corner_dir ha a3 hi ht h2
    rw [crs_cr]
    have h4 : psub (pget b ((k + 1) % b.length)) (pget b k) = eout b k := rfl
    rw [h4]
    have h5 : cr (eout b k) (psub (pget a t) (pget b k)) = cr (eout b k) (psub (pget a t) (pget b j)) := by
      rcases hki with e | e
      · rw [e]
      · rw [← e]; unfold eout cr psub; grind
    rw [h5]
    generalize eout b k = E at *
    unfold cr psub pneg at *
    grind
  have ia : ein a i = eout a (prv a i) := by unfold ein eout; rw [prv_next hi]
  have ib : ein b j = eout b (prv b j) := by unfold ein eout; rw [prv_next hj]
  rcases sec_main hp hq hu hv hw with ⟨h1, h2⟩ | ⟨h1, h2⟩ | ⟨h1, h2⟩ | ⟨h1, h2⟩
  · rw [ia] at h1 h2
    exact .inl (useA _ (prv_lt hi) (.inr (by rw [prv_next hi])) h1 (by rw [ib] at h2 ⊢; exact h2))
  · exact .inl (useA _ hi (.inl rfl) h1 h2)
  · rw [ib] at h1 h2
    exact .inr (useB _ (prv_lt hj) (.inr (by rw [prv_next hj])) h1 (by rw [ia] at h2 ⊢; exact h2))
  · exact .inr (useB _ hj (.inl rfl) h1 h2)
end Go.Proofs.YthclikeipdplpaaDoor.Ab
