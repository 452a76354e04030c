/- Distances of polygons: plain facts. -/
import Derived.Test.YthclikeipdplpaaDoorYp
namespace Go.Proofs.YthclikeipdplpaaDoor.Ab
open Go.RowKit
set_option linter.unusedVariables false
set_option linter.unusedSimpArgs false
set_option maxRecDepth 100000

theorem meetB_comm (a b : List V2) : meetB a b = meetB b a := by unfold meetB; rw [Bool.and_comm]
theorem rmin_le_l (p q : Rat) : rmin p q ≤ p := by rw [rmin_def]; split <;> grind
theorem rmin_le_r (p q : Rat) : rmin p q ≤ q := by rw [rmin_def]; split <;> grind
theorem rmin_or (p q : Rat) : rmin p q = p ∨ rmin p q = q := by rw [rmin_def]; split <;> simp
theorem near_at {p : V2} {l : List V2} (h2 : 2 ≤ l.length) : ∀ n, n ≤ l.length → ∃ i, i < l.length ∧ near p l n = te p (pget l i) (pget l ((i + 1) % l.length))
  | 0, _ => ⟨0, by omega, by unfold near; rw [Nat.zero_add, Nat.mod_eq_of_lt (by omega)]⟩
  | n + 1, h => by
    obtain ⟨i, hi, e⟩ := near_at (p := p) h2 n (by omega)
    unfold near
    rcases rmin_or (near p l n) (te p (pget l n) (pget l ((n + 1) % l.length))) with h1 | h1
    · exact ⟨i, hi, h1.trans e⟩
    · exact ⟨n, by omega, h1⟩
theorem sq1_le {a b : List V2} : ∀ n i, i < n → sq1 a b n ≤ near (pget a i) b b.length
  | 0, i, h => absurd h (by omega)
  | n + 1, i, h => by
    unfold sq1
    by_cases e : i = n
    · subst e; exact rmin_le_r _ _
    · exact Rat.le_trans (rmin_le_l _ _) (sq1_le n i (by omega))
theorem sq1_at {a b : List V2} (h : 0 < a.length) : ∀ n, n ≤ a.length → ∃ i, i < a.length ∧ sq1 a b n = near (pget a i) b b.length
  | 0, _ => ⟨0, h, rfl⟩
  | n + 1, hn => by
    obtain ⟨i, hi, e⟩ := sq1_at (b := b) h n (by omega)
    unfold sq1
    rcases rmin_or (sq1 a b n) (near (pget a n) b b.length) with h1 | h1
    · exact ⟨i, hi, h1.trans e⟩
    · exact ⟨n, by omega, h1⟩
theorem sq2_le1 {a b : List V2} : ∀ n, sq2 a b n ≤ sq1 a b a.length
  | 0 => Rat.le_refl
  | n + 1 => by unfold sq2; exact Rat.le_trans (rmin_le_l _ _) (sq2_le1 n)
theorem sq2_le2 {a b : List V2} : ∀ n j, j < n → sq2 a b n ≤ near (pget b j) a a.length
  | 0, j, h => absurd h (by omega)
  | n + 1, j, h => by
    unfold sq2
    by_cases e : j = n
    · subst e; exact rmin_le_r _ _
    · exact Rat.le_trans (rmin_le_l _ _) (sq2_le2 n j (by omega))
theorem sq2_at {a b : List V2} (h : 0 < a.length) : ∀ n, n ≤ b.length → (∃ i, i < a.length ∧ sq2 a b n = near (pget a i) b b.length) ∨ (∃ j, j < b.length ∧ sq2 a b n = near (pget b j) a a.length)
  | 0, _ => .inl (sq1_at h a.length (Nat.le_refl _))
  | n + 1, hn => by
    have ih := sq2_at (b := b) h n (by omega)
    unfold sq2
    rcases rmin_or (sq2 a b n) (near (pget b n) a a.length) with h1 | h1
    · rw [h1]; exact ih
    · exact .inr ⟨n, by omega, h1⟩
theorem sq2_le_comm {a b : List V2} (ha : 0 < a.length) (hb : 0 < b.length) : sq2 a b b.length ≤ sq2 b a a.length := by
  rcases sq2_at (a := b) (b := a) hb a.length (Nat.le_refl _) with ⟨i, hi, e⟩ | ⟨j, hj, e⟩
  · rw [e]; exact sq2_le2 _ _ hi
  · rw [e]; exact Rat.le_trans (sq2_le1 _) (sq1_le _ _ hj)
theorem sqv_comm {a b : List V2} (ha : 0 < a.length) (hb : 0 < b.length) : sqv a b = sqv b a := by
  unfold sqv
  rw [meetB_comm b a]
  split
  · rfl
  · exact Rat.le_antisymm (sq2_le_comm ha hb) (sq2_le_comm hb ha)

/-! frames -/
theorem teT_mv (x y : Rat) (o : Option Rat) (p a b : V2) : teT (mv x y o p) (mv x y o a) (mv x y o b) = teT p a b := by
  have h := tsq o
  unfold teT mv rx ry
  simp only
  generalize tcos o = C at *
  generalize tsin o = T at *
  grind
theorem teS_mv (x y : Rat) (o : Option Rat) (a b : V2) : teS (mv x y o a) (mv x y o b) = teS a b := by
  have h := tsq o
  unfold teS mv rx ry
  simp only
  generalize tcos o = C at *
  generalize tsin o = T at *
  grind
theorem te_mv (x y : Rat) (o : Option Rat) (p a b : V2) : te (mv x y o p) (mv x y o a) (mv x y o b) = te p a b := by
  unfold te; rw [teT_mv, teS_mv, teS_mv, teS_mv, crs_mv]
theorem near_mv (x y : Rat) (o : Option Rat) (p : V2) (l : List V2) (h2 : 2 ≤ l.length) : ∀ n, n ≤ l.length → near (mv x y o p) (l.map (mv x y o)) n = near p l n
  | 0, _ => by unfold near; rw [pget_map (by omega), pget_map (by omega), te_mv]
  | n + 1, h => by
    unfold near
    rw [near_mv x y o p l h2 n (by omega), List.length_map, pget_map (by omega), pget_map (mod_lt' (show n < l.length by omega) _), te_mv]
theorem sq1_mv (x y : Rat) (o : Option Rat) (a b : List V2) (ha : 0 < a.length) (h2 : 2 ≤ b.length) : ∀ n, n ≤ a.length → sq1 (a.map (mv x y o)) (b.map (mv x y o)) n = sq1 a b n
  | 0, _ => by unfold sq1; rw [pget_map ha, List.length_map, near_mv x y o _ b h2 _ (Nat.le_refl _)]
  | n + 1, h => by
    unfold sq1
    rw [sq1_mv x y o a b ha h2 n (by omega), pget_map (by omega), List.length_map, near_mv x y o _ b h2 _ (Nat.le_refl _)]
theorem sq2_mv (x y : Rat) (o : Option Rat) (a b : List V2) (ha : 2 ≤ a.length) (h2 : 2 ≤ b.length) : ∀ n, n ≤ b.length → sq2 (a.map (mv x y o)) (b.map (mv x y o)) n = sq2 a b n
  | 0, _ => by unfold sq2; rw [List.length_map, sq1_mv x y o a b (by omega) h2 _ (Nat.le_refl _)]
  | n + 1, h => by
    unfold sq2
    rw [sq2_mv x y o a b ha h2 n (by omega), pget_map (by omega), List.length_map, near_mv x y o _ a ha _ (Nat.le_refl _)]
theorem bey_mv (x y : Rat) (o : Option Rat) (a b : List V2) : Bey (a.map (mv x y o)) (b.map (mv x y o)) ↔ Bey a b := by
  unfold Bey
  rw [List.length_map, List.length_map]
  constructor
  · rintro ⟨i, hi, h⟩
    refine ⟨i, hi, fun j hj => ?_⟩
    have := h j hj
    rwa [pget_map hi, pget_map (mod_lt' hi _), pget_map hj, crs_mv] at this
  · rintro ⟨i, hi, h⟩
    refine ⟨i, hi, fun j hj => ?_⟩
    rw [pget_map hi, pget_map (mod_lt' hi _), pget_map hj, crs_mv]
    exact h j hj
theorem isSome_mv (x y : Rat) (o : Option Rat) (a b : List V2) : (bidx (a.map (mv x y o)) (b.map (mv x y o))).isSome = (bidx a b).isSome := by
  rw [Bool.eq_iff_iff, bidx_bey, bidx_bey, bey_mv]
theorem sqv_mv (x y : Rat) (o : Option Rat) (a b : List V2) (ha : 2 ≤ a.length) (hb : 2 ≤ b.length) : sqv (a.map (mv x y o)) (b.map (mv x y o)) = sqv a b := by
  unfold sqv meetB
  rw [isSome_mv, isSome_mv, List.length_map, sq2_mv x y o a b ha hb _ (Nat.le_refl _)]

/-! polygons that do not meet are apart -/
theorem sq_nonneg' (x : Rat) : 0 ≤ x * x := by
  rcases Rat.le_total (a := 0) (b := x) with h | h
  · exact Rat.mul_nonneg h h
  · have := Rat.mul_nonneg (show 0 ≤ -x by grind) (show 0 ≤ -x by grind)
    grind
theorem teS_pos {a b : V2} {u v : V2} (h : crs u v a ≠ crs u v b) : 0 < teS a b := by
  have h1 := sq_nonneg' (b.1 - a.1)
  have h2 := sq_nonneg' (b.2 - a.2)
  have h3 : teS a b = (b.1 - a.1) * (b.1 - a.1) + (b.2 - a.2) * (b.2 - a.2) := rfl
  by_cases e : teS a b = 0
  · exfalso
    have e1 : (b.1 - a.1) * (b.1 - a.1) = 0 := by grind
    have e2 : (b.2 - a.2) * (b.2 - a.2) = 0 := by grind
    have f1 : b.1 - a.1 = 0 := by rcases Rat.mul_eq_zero.1 e1 with h | h <;> exact h
    have f2 : b.2 - a.2 = 0 := by rcases Rat.mul_eq_zero.1 e2 with h | h <;> exact h
    apply h
    have g1 : b.1 = a.1 := by grind
    have g2 : b.2 = a.2 := by grind
    unfold crs
    rw [g1, g2]
  · grind
theorem te_pos {p a b u v : V2} (h : (crs u v a < crs u v p ∧ crs u v b < crs u v p) ∨ (crs u v p < crs u v a ∧ crs u v p < crs u v b)) : 0 < te p a b := by
  unfold te
  split
  · rename_i hT
    split
    · exact teS_pos (u := u) (v := v) (by rcases h with h | h <;> grind)
    · rename_i hS
      have hS' : teT p a b < teS a b := Rat.not_le.1 hS
      have hS0 : 0 < teS a b := by grind
      have hc : crs a b p ≠ 0 := by
        intro hc
        have key : teS a b * (crs u v p - crs u v a) = teT p a b * (crs u v b - crs u v a) + crs a b p * ((v.1 - u.1) * (b.1 - a.1) + (v.2 - u.2) * (b.2 - a.2)) := by
          unfold teS teT crs; grind
        rw [hc, Rat.zero_mul, Rat.add_zero] at key
        generalize teS a b = S0 at *
        generalize teT p a b = T0 at *
        generalize crs u v p = P0 at *
        generalize crs u v a = A0 at *
        generalize crs u v b = B0 at *
        rcases h with ⟨h1, h2⟩ | ⟨h1, h2⟩
        · have m1 := Rat.mul_pos (show 0 < S0 - T0 by grind) (show 0 < P0 - A0 by grind)
          have m2 := Rat.mul_pos hT (show 0 < P0 - B0 by grind)
          grind
        · have m1 := Rat.mul_pos (show 0 < S0 - T0 by grind) (show 0 < A0 - P0 by grind)
          have m2 := Rat.mul_pos hT (show 0 < B0 - P0 by grind)
          grind
      have h1 := sq_nonneg' (crs a b p)
      have h2 : crs a b p * crs a b p ≠ 0 := fun e => by rcases Rat.mul_eq_zero.1 e with h | h <;> exact hc h
      have h3 : 0 < crs a b p * crs a b p := by grind
      rw [Rat.div_def]
      exact Rat.mul_pos h3 (Rat.inv_pos.2 hS0)
  · exact teS_pos (u := u) (v := v) (by rcases h with h | h <;> grind)
theorem sq2_pos_of {a b : List V2} {u v : V2} (a2 : 2 ≤ a.length) (b2 : 2 ≤ b.length) (ha : ∀ i, i < a.length → 0 ≤ crs u v (pget a i)) (hb : ∀ j, j < b.length → crs u v (pget b j) < 0) : 0 < sq2 a b b.length ∧ 0 < sq2 b a a.length := by
  have p1 : ∀ i, i < a.length → 0 < near (pget a i) b b.length := fun i hi => by
    obtain ⟨j, hj, e⟩ := near_at (p := pget a i) b2 b.length (Nat.le_refl _)
    rw [e]
    have h1 := ha i hi
    have h2 := hb j hj
    have h3 := hb ((j + 1) % b.length) (mod_lt' hj _)
    exact te_pos (u := u) (v := v) (.inl ⟨by grind, by grind⟩)
  have p2 : ∀ j, j < b.length → 0 < near (pget b j) a a.length := fun j hj => by
    obtain ⟨i, hi, e⟩ := near_at (p := pget b j) a2 a.length (Nat.le_refl _)
    rw [e]
    have h1 := hb j hj
    have h2 := ha i hi
    have h3 := ha ((i + 1) % a.length) (mod_lt' hi _)
    exact te_pos (u := u) (v := v) (.inr ⟨by grind, by grind⟩)
  constructor
  · rcases sq2_at (a := a) (b := b) (by omega) b.length (Nat.le_refl _) with ⟨i, hi, e⟩ | ⟨j, hj, e⟩
    · rw [e]; exact p1 i hi
    · rw [e]; exact p2 j hj
  · rcases sq2_at (a := b) (b := a) (by omega) a.length (Nat.le_refl _) with ⟨i, hi, e⟩ | ⟨j, hj, e⟩
    · rw [e]; exact p2 i hi
    · rw [e]; exact p1 j hj
theorem bey_pos {a b : List V2} (a2 : 2 ≤ a.length) (b2 : 2 ≤ b.length) (ca : Cvx a) (h : Bey a b) : 0 < sq2 a b b.length ∧ 0 < sq2 b a a.length := by
  obtain ⟨i, hi, h⟩ := h
  exact sq2_pos_of (u := pget a i) (v := pget a ((i + 1) % a.length)) a2 b2 (fun j hj => ca.left hi hj) h
theorem sqv_zero {a b : List V2} (a2 : 2 ≤ a.length) (b2 : 2 ≤ b.length) (ca : Cvx a) (cb : Cvx b) : 0 ≤ sqv a b ∧ (sqv a b = 0 ↔ meetB a b = true) := by
  cases hm : meetB a b with
  | true => unfold sqv; rw [if_pos hm]; exact ⟨Rat.le_refl, by simp⟩
  | false =>
    have hpos : 0 < sqv a b := by
      unfold sqv; rw [if_neg (by rw [hm]; decide)]
      unfold meetB at hm
      cases h1 : (bidx a b).isSome with
      | true => exact (bey_pos a2 b2 ca (bidx_bey.1 h1)).1
      | false =>
        cases h2 : (bidx b a).isSome with
        | true => exact (bey_pos b2 a2 cb (bidx_bey.1 h2)).2
        | false => rw [h1, h2] at hm; cases hm
    exact ⟨Rat.le_of_lt hpos, by constructor <;> intro h <;> grind⟩
end Go.Proofs.YthclikeipdplpaaDoor.Ab
