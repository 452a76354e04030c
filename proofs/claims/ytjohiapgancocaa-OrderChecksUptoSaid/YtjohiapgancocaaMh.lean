/- Orders: the plain laws of Right and Apply. -/
import Derived.Test.YtjohiapgancocaaMg
namespace Go.Proofs.Ytjohiapgancocaa.Ab
set_option linter.unusedVariables false
set_option linter.unusedSimpArgs false

theorem perm_of_sub : ∀ {l m : List Int}, l.Nodup → (∀ x ∈ l, x ∈ m) → m.length ≤ l.length → m.Perm l
  | [], m, _, _, hl => by
    have : m = [] := List.eq_nil_of_length_eq_zero (by simpa using hl)
    subst this; exact List.Perm.refl _
  | x :: l, m, hn, hs, hl => by
    have hn' := List.nodup_cons.1 hn
    have hx : x ∈ m := hs x (by simp)
    have hp := List.perm_cons_erase hx
    have hle : (m.erase x).length ≤ l.length := by
      rw [List.length_erase_of_mem hx]; simp at hl; omega
    have := perm_of_sub hn'.2 (fun y hy => by
      have h1 := hs y (by simp [hy])
      have hne : y ≠ x := fun e => hn'.1 (e ▸ hy)
      exact (List.mem_erase_of_ne hne).2 h1) hle
    exact hp.trans (this.cons x)

def ioL (n : Nat) : List Int := (List.range n).map fun (k : Nat) => (k : Int)
theorem ioL_len {n : Nat} : (ioL n).length = n := by simp [ioL]
theorem ioL_mem {n : Nat} {x : Int} : x ∈ ioL n ↔ 0 ≤ x ∧ x < n := by
  simp only [ioL, List.mem_map, List.mem_range]
  exact ⟨fun ⟨k, hk, e⟩ => by omega, fun ⟨h1, h2⟩ => ⟨x.toNat, by omega, by omega⟩⟩
theorem ioL_nd {n : Nat} : (ioL n).Nodup := by
  refine List.pairwise_map.2 (List.nodup_range.imp fun {a b} (h : a ≠ b) => ?_)
  intro e; exact h (by omega)
theorem take_mem {p : List Int} {i j : Nat} (hi : i < j) (hj : j ≤ p.length) : p.getD i 0 ∈ p.take j := by
  rw [getD_at (by omega)]
  exact List.mem_take_iff_getElem.2 ⟨i, by omega, rfl⟩
theorem take_nd {p : List Int} (h : ∀ j, j < p.length → p.getD j 0 ∉ p.take j) : p.Nodup :=
  List.pairwise_iff_getElem.2 fun i j hi hj hij e => h j hj (by rw [getD_at hj, ← e, ← getD_at hi]; exact take_mem hij (by omega))
theorem nd_take {p : List Int} (h : p.Nodup) {j : Nat} (hj : j < p.length) : p.getD j 0 ∉ p.take j := fun hm => by
  obtain ⟨i, hi, e⟩ := List.mem_take_iff_getElem.1 hm
  rw [getD_at hj] at e
  exact List.pairwise_iff_getElem.1 h i j (by omega) hj (by omega) e
theorem perm_io {p : List Int} (h : p.Nodup) (hr : ∀ x ∈ p, 0 ≤ x ∧ x < p.length) : (ioL p.length).Perm p :=
  perm_of_sub h (fun x hx => ioL_mem.2 (hr x hx)) (by rw [ioL_len]; exact Nat.le_refl _)
theorem io_perm {p : List Int} (h : ∀ k : Nat, k < p.length → (k : Int) ∈ p) : p.Perm (ioL p.length) :=
  perm_of_sub ioL_nd (fun x hx => by
    have := ioL_mem.1 hx
    have h2 := h x.toNat (by omega)
    rwa [show ((x.toNat : Nat) : Int) = x by omega] at h2) (by rw [ioL_len]; exact Nat.le_refl _)
theorem asc_id {s : List Int} {n : Nat} (h : s.Pairwise (· < ·)) (hl : s.length = n) (hr : ∀ x ∈ s, 0 ≤ x ∧ x < n) : ∀ i (hi : i < s.length), s[i] = i := by
  have st : ∀ i (hi : i + 1 < s.length), s[i] < s[i + 1] := fun i hi => List.pairwise_iff_getElem.1 h i (i + 1) (by omega) hi (by omega)
  have up : ∀ i (hi : i < s.length), (i : Int) ≤ s[i] := by
    intro i
    induction i with
    | zero => intro hi; exact (hr _ (List.getElem_mem hi)).1
    | succ i ih => intro hi; have := ih (by omega); have := st i hi; omega
  have dn : ∀ d i (hi : i < s.length), i + d + 1 = n → s[i] ≤ (i : Int) := by
    intro d
    induction d with
    | zero => intro i hi e; have := (hr _ (List.getElem_mem hi)).2; omega
    | succ d ih => intro i hi e; have := ih (i + 1) (by omega) (by omega); have := st i (by omega); omega
  intro i hi
  have h1 := up i hi
  have h2 := dn (n - 1 - i) i hi (by omega)
  omega
theorem msI_perm (p : List Int) : (msI p).Perm p := List.mergeSort_perm _ _
theorem msI_le (p : List Int) : (msI p).Pairwise (· ≤ ·) :=
  (List.pairwise_mergeSort (le := fun x y : Int => decide (x ≤ y)) (fun a b c h1 h2 => by simp at *; omega) (fun a b => by simp; omega) p).imp fun h => by simpa using h
theorem appL {n : Nat} {p : List Int} (hl : p.length = n) : (List.range p.length).all (okA n p) = true ↔ ∀ i, i < p.length → (msI p).getD i 0 = i := by
  subst hl
  simp only [List.all_eq_true, List.mem_range, okA, decide_eq_true_eq]
  constructor
  · intro h i hi
    have hnd : p.Nodup := take_nd fun j hj => (h j hj).2.2
    have hsn : (msI p).Nodup := (msI_perm p).nodup_iff.2 hnd
    have hlt : (msI p).Pairwise (· < ·) := ((msI_le p).and hsn).imp fun {a b} ⟨h1, h2⟩ => by have h2 : a ≠ b := h2; omega
    have := asc_id hlt (msI_len p) (fun x hx => by
      have hx := (msI_perm p).mem_iff.1 hx
      obtain ⟨j, hj, rfl⟩ := List.mem_iff_getElem.1 hx
      have := h j hj
      rw [getD_at hj] at this
      exact ⟨this.1, this.2.1⟩) i (by rw [msI_len]; exact hi)
    rw [getD_at (by rw [msI_len]; exact hi), this]
  · intro h j hj
    have hs : msI p = ioL p.length := by
      apply List.ext_getElem
      · rw [msI_len, ioL_len]
      intro i h1 h2
      have := h i (by rwa [msI_len] at h1)
      rw [getD_at h1] at this
      rw [this]; simp [ioL]
    have hp : (ioL p.length).Perm p := hs ▸ msI_perm p
    have hnd : p.Nodup := hp.nodup_iff.1 ioL_nd
    have hm : p.getD j 0 ∈ ioL p.length := hp.mem_iff.2 (by rw [getD_at hj]; exact List.getElem_mem hj)
    have := ioL_mem.1 hm
    exact ⟨this.1, this.2, nd_take hnd hj⟩

theorem lastIx_spec : ∀ {m : Nat} {p : List Int} {x : Int} {i : Nat}, p.length = m → lastIx p x = some i → ∃ h : i < p.length, p[i] = x
  | 0, p, x, i, hl, h => by
    have : p = [] := List.eq_nil_of_length_eq_zero hl
    subst this; simp [lastIx] at h
  | m + 1, p, x, i, hl, h => by
    rcases List.eq_nil_or_concat p with rfl | ⟨q, y, rfl⟩
    · simp at hl
    · rw [List.concat_eq_append] at *
      rw [lastIx_snoc] at h
      by_cases hx : x = y
      · rw [if_pos hx] at h; cases h
        exact ⟨by simp, by simp [hx]⟩
      · rw [if_neg hx] at h
        obtain ⟨h1, h2⟩ := lastIx_spec (m := m) (by simpa using hl) h
        exact ⟨by simp; omega, by rw [List.getElem_append_left h1]; exact h2⟩
theorem atX_at {p : List Int} (h : p.Nodup) {j : Nat} (hj : j < p.length) : atX p p[j] = j := by
  unfold atX
  have hm : p[j] ∈ p := List.getElem_mem hj
  cases hl : lastIx p p[j] with
  | none => rw [lastIx, if_pos hm] at hl; cases hl
  | some i =>
    obtain ⟨h1, h2⟩ := lastIx_spec rfl hl
    have := (List.getElem_inj h).1 h2
    simp [this]
theorem right_eq (ls : List (List Int)) (p : List Int) : rightB ls p = rightOfB ls p := by
  unfold rightB rightOfB
  by_cases h0 : befF ls = 0 ∧ p.length = ls.length
  · obtain ⟨hb, hl⟩ := h0
    have hD := befF_dag hb
    rw [decide_eq_true ⟨hb, hl⟩, Bool.true_and, Bool.true_and, Bool.eq_iff_iff]
    simp only [List.all_eq_true, List.mem_range, okJ, rokK, decide_eq_true_eq]
    constructor
    · intro h k hk
      have hnd : p.Nodup := take_nd fun j hj => (h j hj).2.2.1
      have hp := perm_io hnd (fun x hx => by
        obtain ⟨j, hj, rfl⟩ := List.mem_iff_getElem.1 hx
        have := h j hj
        rw [getD_at hj] at this
        rw [hl]; exact ⟨this.1, this.2.1⟩)
      have hkp : (k : Int) ∈ p := hp.mem_iff.1 (ioL_mem.2 ⟨by omega, by omega⟩)
      refine ⟨hkp, fun x hx => ?_⟩
      obtain ⟨j, hj, e⟩ := List.mem_iff_getElem.1 hkp
      have h4 := (h j hj).2.2.2
      rw [getD_at hj, e, Int.toNat_natCast] at h4
      obtain ⟨i, hi, ei⟩ := List.mem_take_iff_getElem.1 (h4 x hx)
      have hi' : i < p.length := by omega
      rw [← e, atX_at hnd hj, ← ei, atX_at hnd hi']
      omega
    · intro h j hj
      have hp := io_perm (p := p) (fun k hk => (h k (by omega)).1)
      have hnd : p.Nodup := hp.nodup_iff.2 ioL_nd
      have hm : p[j] ∈ ioL p.length := hp.mem_iff.1 (List.getElem_mem hj)
      have hr := ioL_mem.1 hm
      rw [getD_at hj]
      refine ⟨hr.1, by omega, by rw [← getD_at hj]; exact nd_take hnd hj, fun x hx => ?_⟩
      have hk : p[j].toNat < ls.length := by omega
      have hd := hD.el _ hk x hx
      have h4 := (h _ hk).2 x hx
      rw [show ((p[j].toNat : Nat) : Int) = p[j] by omega, atX_at hnd hj] at h4
      have hxp : x ∈ p := hp.mem_iff.2 (ioL_mem.2 ⟨hd.1, by omega⟩)
      obtain ⟨i, hi, rfl⟩ := List.mem_iff_getElem.1 hxp
      rw [atX_at hnd hi] at h4
      have hne : i ≠ j := fun e => by subst e; omega
      exact List.mem_take_iff_getElem.2 ⟨i, by omega, rfl⟩
  · rw [decide_eq_false h0, Bool.false_and, Bool.false_and]
end Go.Proofs.Ytjohiapgancocaa.Ab
