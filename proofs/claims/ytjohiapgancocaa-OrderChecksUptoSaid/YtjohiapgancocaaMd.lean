/- Orders: picking, the plain law. -/
import Derived.Test.YtjohiapgancocaaMc
namespace Go.Proofs.Ytjohiapgancocaa.Ab
open Go.RowKit
set_option linter.unusedVariables false
set_option linter.unusedSimpArgs false
set_option maxRecDepth 100000

theorem nodup_le {α : Type} [DecidableEq α] : ∀ {l m : List α}, l.Nodup → (∀ x ∈ l, x ∈ m) → l.length ≤ m.length
  | [], m, _, _ => Nat.zero_le _
  | x :: l, m, hn, hs => by
    have hn' := List.nodup_cons.1 hn
    have hx := hs x (by simp)
    have ih := nodup_le (l := l) (m := m.erase x) hn'.2 fun y hy => by
      have hne : y ≠ x := fun e => hn'.1 (e ▸ hy)
      exact (List.mem_erase_of_ne hne).2 (hs y (by simp [hy]))
    rw [List.length_erase_of_mem hx] at ih
    have : 0 < m.length := List.length_pos_of_mem hx
    simp only [List.length_cons]; omega
/-- A part of an order: each once, each behind what comes before it. -/
structure Gd (ls : List (List Int)) (d : List Int) : Prop where
  nd : d.Nodup
  rg : ∀ y ∈ d, 0 ≤ y ∧ y < ls.length
  bf : ∀ y ∈ d, ∀ x ∈ ls.getD y.toNat [], x ∈ d
theorem isR_iff {ls : List (List Int)} {d : List Int} {k : Nat} : isR ls d k = true ↔ (k : Int) ∉ d ∧ ∀ x ∈ ls.getD k [], x ∈ d := by
  unfold isR
  simp only [Bool.and_eq_true, Bool.not_eq_true', decide_eq_false_iff_not]
  constructor
  · rintro ⟨h1, h2⟩
    refine ⟨h1, fun x hx => ?_⟩
    by_cases h : x ∈ d
    · exact h
    · exact absurd ⟨x, hx, by simpa using h⟩ h2
  · rintro ⟨h1, h2⟩
    exact ⟨h1, fun ⟨x, hx, h⟩ => by simp [h2 x hx] at h⟩
theorem rdy_mem {ls : List (List Int)} {d : List Int} {y : Int} : y ∈ rdy ls d ↔ ∃ k : Nat, k < ls.length ∧ isR ls d k = true ∧ y = k := by
  unfold rdy rdyP
  simp only [List.mem_map, List.mem_filter, List.mem_range]
  constructor
  · rintro ⟨k, ⟨h1, h2⟩, rfl⟩; exact ⟨k, h1, h2, rfl⟩
  · rintro ⟨k, h1, h2, rfl⟩; exact ⟨k, ⟨h1, h2⟩, rfl⟩
theorem rdy_ne {ls : List (List Int)} {d : List Int} (hD : Dag ls) (hd : d.length < ls.length) : rdy ls d ≠ [] := by
  have hex : ∃ k, k < ls.length ∧ (k : Int) ∉ d := by
    rcases Classical.em (∃ k, k < ls.length ∧ (k : Int) ∉ d) with h | h
    · exact h
    have hall : ∀ k, k < ls.length → (k : Int) ∈ d := fun k hk => by
      by_cases hm : (k : Int) ∈ d
      · exact hm
      · exact absurd ⟨k, hk, hm⟩ h
    have := nodup_le (l := (List.range ls.length).map fun (k : Nat) => (k : Int)) (m := d) (List.Pairwise.map _ (fun a b (h : a ≠ b) => (by intro e; exact h (Int.ofNat_inj.1 e))) List.nodup_range) (fun x hx => by
      obtain ⟨k, hk, rfl⟩ := List.mem_map.1 hx
      exact hall k (List.mem_range.1 hk))
    simp at this
    omega
  have key : ∀ n k, k ≤ n → k < ls.length → (k : Int) ∉ d → ∃ j, j < ls.length ∧ isR ls d j = true := by
    intro n
    induction n with
    | zero =>
      intro k hk hkl hkd
      obtain rfl : k = 0 := by omega
      refine ⟨0, hkl, isR_iff.2 ⟨hkd, fun x hx => ?_⟩⟩
      have := hD.el 0 hkl x hx
      omega
    | succ n ih =>
      intro k hk hkl hkd
      by_cases h : ∀ x ∈ ls.getD k [], x ∈ d
      · exact ⟨k, hkl, isR_iff.2 ⟨hkd, h⟩⟩
      · have : ∃ x ∈ ls.getD k [], x ∉ d := by
          rcases Classical.em (∃ x ∈ ls.getD k [], x ∉ d) with h2 | h2
          · exact h2
          · exact absurd (fun x hx => by
              by_cases hm : x ∈ d
              · exact hm
              · exact absurd ⟨x, hx, hm⟩ h2) h
        obtain ⟨x, hx, hxd⟩ := this
        have hb := hD.el k hkl x hx
        refine ih x.toNat (by omega) (by omega) ?_
        rw [Int.toNat_of_nonneg hb.1]; exact hxd
  obtain ⟨k, hk, hkd⟩ := hex
  obtain ⟨j, hj, hr⟩ := key k k (Nat.le_refl _) hk hkd
  intro he
  have := rdy_mem.2 ⟨j, hj, hr, rfl⟩
  rw [he] at this; cases this
theorem pix_rg {bs d r : List Int} (hr : r ≠ []) : 0 ≤ pix bs d r ∧ pix bs d r < r.length := by
  have hp : 0 < r.length := List.length_pos_iff.2 hr
  have hp' : (0 : Int) < (r.length : Int) := by omega
  unfold pix
  split
  · have h1 := Int.tmod_lt_of_pos (bs.getD d.length 0) hp'
    have h2 := Int.lt_tmod_of_pos (bs.getD d.length 0) hp'
    split <;> omega
  · omega
theorem pk_mem {ls : List (List Int)} {bs d : List Int} (h : rdy ls d ≠ []) : (rdy ls d).getD (pix bs d (rdy ls d)).toNat 0 ∈ rdy ls d := by
  have := pix_rg (bs := bs) (d := d) h
  have hl : (pix bs d (rdy ls d)).toNat < (rdy ls d).length := by omega
  rw [getD_at hl]
  exact List.getElem_mem hl
theorem pk_gd {ls : List (List Int)} {bs : List Int} (hD : Dag ls) : ∀ {m : Nat}, m ≤ ls.length → Gd ls (pk ls bs m)
  | 0, _ => ⟨List.nodup_nil, by simp [pk], by simp [pk]⟩
  | m + 1, hm => by
    have ih := pk_gd (bs := bs) hD (m := m) (by omega)
    have hne := rdy_ne (d := pk ls bs m) hD (by rw [pk_len]; omega)
    have hmem := pk_mem (bs := bs) hne
    rw [pk]
    generalize (rdy ls (pk ls bs m)).getD (pix bs (pk ls bs m) (rdy ls (pk ls bs m))).toNat 0 = y at hmem
    obtain ⟨k, hk, hr, rfl⟩ := rdy_mem.1 hmem
    obtain ⟨h1, h2⟩ := isR_iff.1 hr
    refine ⟨?_, ?_, ?_⟩
    · rw [List.nodup_append]
      exact ⟨ih.nd, by simp, fun a ha b hb e => by rw [List.mem_singleton] at hb; subst hb; subst e; exact h1 ha⟩
    · intro y hy
      rcases List.mem_append.1 hy with hy | hy
      · exact ih.rg y hy
      · rw [List.mem_singleton] at hy; subst hy; omega
    · intro y hy x hx
      rcases List.mem_append.1 hy with hy | hy
      · exact List.mem_append_left _ (ih.bf y hy x hx)
      · rw [List.mem_singleton] at hy; subst hy
        rw [Int.toNat_natCast] at hx
        exact List.mem_append_left _ (h2 x hx)
theorem pk_ne {ls : List (List Int)} {bs : List Int} (hD : Dag ls) : ∀ m, m < ls.length → rdy ls (pk ls bs m) ≠ [] := fun m hm => rdy_ne hD (by rw [pk_len]; exact hm)
/-- What a step still waits for. -/
def wT (ls : List (List Int)) (d : List Int) (k : Nat) : Int := if (k : Int) ∈ d then -1 else (((ls.getD k []).filter fun x => decide (x ∉ d)).length : Int)
theorem wT_zero {ls : List (List Int)} {d : List Int} {k : Nat} : wT ls d k = 0 ↔ isR ls d k = true := by
  rw [isR_iff]
  unfold wT
  split
  · rename_i h; simp [h]
  · rename_i h
    simp only [h, not_false_eq_true, true_and]
    constructor
    · intro h2 x hx
      have h3 : ((ls.getD k []).filter fun x => decide (x ∉ d)) = [] := List.length_eq_zero_iff.1 (by omega)
      have := List.filter_eq_nil_iff.1 h3 x hx
      simpa using this
    · intro h2
      have h3 : ((ls.getD k []).filter fun x => decide (x ∉ d)) = [] := List.filter_eq_nil_iff.2 fun x hx => by simp [h2 x hx]
      rw [h3]; rfl
theorem filt_snoc {l d : List Int} {y : Int} (hn : l.Nodup) (hy : y ∉ d) : ((l.filter fun x => decide (x ∉ d ++ [y])).length : Int) = ((l.filter fun x => decide (x ∉ d)).length : Int) - if y ∈ l then 1 else 0 := by
  induction l with
  | nil => simp
  | cons b l ih =>
    have hn' := List.nodup_cons.1 hn
    have ih := ih hn'.2
    by_cases hb : b = y
    · subst hb
      rw [if_neg hn'.1] at ih
      rw [List.filter_cons, if_neg (by simp), List.filter_cons, if_pos (by simpa using hy), if_pos (by simp), ih]
      simp
    · have e1 : (y ∈ b :: l) ↔ y ∈ l := by
        rw [List.mem_cons]
        exact ⟨fun h => h.resolve_left fun e => hb e.symm, .inr⟩
      have e2 : (b ∉ d ++ [y]) ↔ b ∉ d := by simp [hb]
      simp only [e1]
      by_cases h2 : b ∈ d
      · rw [List.filter_cons, if_neg (by simp [h2]), List.filter_cons, if_neg (by simp [h2])]; exact ih
      · rw [List.filter_cons, if_pos (by simp [h2, hb]), List.filter_cons, if_pos (by simp [h2]), List.length_cons, List.length_cons]; omega
/-- Waiting, after one more is done. -/
theorem wT_snoc {ls : List (List Int)} {d : List Int} {y k : Nat} (hG : Gd ls d) (hn : (ls.getD k []).Nodup) (hD : Dag ls) (hy : (y : Int) ∉ d) (hk : k < ls.length) :
    wT ls (d ++ [(y : Int)]) k = if k = y then -1 else wT ls d k - if (y : Int) ∈ ls.getD k [] then 1 else 0 := by
  unfold wT
  by_cases hky : k = y
  · subst hky; simp
  · rw [if_neg hky]
    have e1 : ((k : Int) ∈ d ++ [(y : Int)]) ↔ (k : Int) ∈ d := by simp; omega
    simp only [e1]
    by_cases hkd : (k : Int) ∈ d
    · rw [if_pos hkd, if_pos hkd]
      have : (y : Int) ∉ ls.getD k [] := fun h => hy (hG.bf k hkd y (by rw [Int.toNat_natCast]; exact h))
      rw [if_neg this]; rfl
    · rw [if_neg hkd, if_neg hkd, filt_snoc hn hy]
end Go.Proofs.Ytjohiapgancocaa.Ab
