/- Orders: what comes before what, plainly. -/
namespace Go.Proofs.Ytjohiapgancocaa.Ab
set_option linter.unusedVariables false
set_option linter.unusedSimpArgs false

/-- The first number that isn't 0, or 0. -/
def fnz : List Int → Int
  | [] => 0
  | x :: r => if x = 0 then fnz r else x
theorem fnz_zero : ∀ {l : List Int}, (∀ x ∈ l, x = 0) → fnz l = 0
  | [], _ => rfl
  | x :: r, h => by
    have := h x (by simp)
    rw [fnz, if_pos this]
    exact fnz_zero fun y hy => h y (List.mem_cons_of_mem _ hy)
theorem fnz_at : ∀ {l : List Int} {j : Nat} {e : Int}, l[j]? = some e → (∀ i x, i < j → l[i]? = some x → x = 0) → e ≠ 0 → fnz l = e
  | [], j, e, hj, _, _ => by simp at hj
  | x :: r, 0, e, hj, _, hne => by
    simp at hj; subst hj; simp [fnz, hne]
  | x :: r, j + 1, e, hj, h, hne => by
    have h0 := h 0 x (by omega) rfl
    simp only [fnz, h0, if_true]
    exact fnz_at (j := j) (by simpa using hj) (fun i y hi hy => h (i + 1) y (by omega) (by simpa using hy)) hne
theorem fnz_all : ∀ {l : List Int}, fnz l = 0 → ∀ x ∈ l, x = 0
  | [], _, x, hx => by cases hx
  | y :: r, h, x, hx => by
    by_cases hy : y = 0
    · rw [fnz, if_pos hy] at h
      rcases List.mem_cons.1 hx with rfl | hx
      · exact hy
      · exact fnz_all h x hx
    · rw [fnz, if_neg hy] at h; exact absurd h hy
theorem getD_at {l : List Int} {i : Nat} (h : i < l.length) : l.getD i 0 = l[i] := by simp [List.getD, h]
/-- A fault at a place of a row. -/
def cellF (k : Nat) (l : List Int) (i : Nat) : Int :=
  if l.getD i 0 < 0 ∨ (k : Int) ≤ l.getD i 0 then 1 else if 0 < i ∧ l.getD i 0 ≤ l.getD (i - 1) 0 then 9 else 0
def rowF (k : Nat) (l : List Int) : Int := fnz ((List.range l.length).map (cellF k l))
/-- The fault of what comes before what. -/
def befF (ls : List (List Int)) : Int := if 40 < ls.length then 2 else fnz ((List.range ls.length).map fun k => rowF k (ls.getD k []))
/-- The fault of durations. -/
def timF (ls : List (List Int)) (ts : List Int) : Int := if befF ls ≠ 0 then befF ls else if ts.length ≠ ls.length then 3 else if ∃ t ∈ ts, t < 0 ∨ 2000 < t then 1 else 0

theorem rowF_at {k i : Nat} {l : List Int} (hi : i < l.length) (h : ∀ j, j < i → cellF k l j = 0) (hne : cellF k l i ≠ 0) : rowF k l = cellF k l i :=
  fnz_at (j := i) (by simp [hi]) (fun j x hj hx => by simp only [List.getElem?_map, List.getElem?_range (show j < l.length by omega), Option.map_some, Option.some.injEq] at hx; rw [← hx]; exact h j hj) hne
theorem rowF_zero {k : Nat} {l : List Int} (h : ∀ j, j < l.length → cellF k l j = 0) : rowF k l = 0 :=
  fnz_zero fun x hx => by
    obtain ⟨j, hj, rfl⟩ := List.mem_map.1 hx
    exact h j (List.mem_range.1 hj)
theorem befF_at {k : Nat} {ls : List (List Int)} (hl : ls.length ≤ 40) (hk : k < ls.length) (h : ∀ j, j < k → rowF j (ls.getD j []) = 0) (hne : rowF k (ls.getD k []) ≠ 0) : befF ls = rowF k (ls.getD k []) := by
  unfold befF
  rw [if_neg (by omega)]
  exact fnz_at (j := k) (by simp [hk]) (fun j x hj hx => by simp only [List.getElem?_map, List.getElem?_range (show j < ls.length by omega), Option.map_some, Option.some.injEq] at hx; rw [← hx]; exact h j hj) hne
theorem befF_zero {ls : List (List Int)} (hl : ls.length ≤ 40) (h : ∀ j, j < ls.length → rowF j (ls.getD j []) = 0) : befF ls = 0 := by
  unfold befF
  rw [if_neg (by omega)]
  exact fnz_zero fun x hx => by
    obtain ⟨j, hj, rfl⟩ := List.mem_map.1 hx
    exact h j (List.mem_range.1 hj)
theorem befF_large {ls : List (List Int)} (hl : 40 < ls.length) : befF ls = 2 := by unfold befF; rw [if_pos hl]

/-- Rows whose elements are smaller than the row's number. -/
structure Dag (ls : List (List Int)) : Prop where
  len : ls.length ≤ 40
  el : ∀ k, k < ls.length → ∀ x ∈ ls.getD k [], 0 ≤ x ∧ x < k
theorem befF_cell {ls : List (List Int)} (h : befF ls = 0) : ls.length ≤ 40 ∧ ∀ k, k < ls.length → ∀ i, i < (ls.getD k []).length → cellF k (ls.getD k []) i = 0 := by
  unfold befF at h
  by_cases hl : 40 < ls.length
  · rw [if_pos hl] at h; cases h
  · rw [if_neg hl] at h
    refine ⟨by omega, fun k hk i hi => ?_⟩
    have h1 := fnz_all h (rowF k (ls.getD k [])) (List.mem_map.2 ⟨k, List.mem_range.2 hk, rfl⟩)
    exact fnz_all h1 _ (List.mem_map.2 ⟨i, List.mem_range.2 hi, rfl⟩)
theorem cellF_zero {k i : Nat} {l : List Int} (h : cellF k l i = 0) : 0 ≤ l.getD i 0 ∧ l.getD i 0 < k ∧ (0 < i → l.getD (i - 1) 0 < l.getD i 0) := by
  unfold cellF at h
  split at h
  · cases h
  · split at h
    · cases h
    · exact ⟨by omega, by omega, by omega⟩
theorem befF_dag {ls : List (List Int)} (h : befF ls = 0) : Dag ls := by
  obtain ⟨h1, h2⟩ := befF_cell h
  refine ⟨h1, fun k hk x hx => ?_⟩
  obtain ⟨i, hi, rfl⟩ := List.mem_iff_getElem.1 hx
  have := cellF_zero (h2 k hk i hi)
  rw [getD_at hi] at this
  exact ⟨this.1, this.2.1⟩
theorem up_nodup {l : List Int} (h : ∀ i, 0 < i → i < l.length → l.getD (i - 1) 0 < l.getD i 0) : l.Nodup := by
  have hm : ∀ d i, i + d + 1 < l.length → l.getD i 0 < l.getD (i + d + 1) 0 := by
    intro d
    induction d with
    | zero => intro i hi; exact h (i + 1) (by omega) hi
    | succ d ih => intro i hi; exact Int.lt_trans (ih i (by omega)) (h (i + (d + 1) + 1) (by omega) hi)
  refine List.pairwise_iff_getElem.2 fun i j hi hj hij => ?_
  have := hm (j - i - 1) i (by omega)
  rw [show i + (j - i - 1) + 1 = j by omega] at this
  simp only [List.getD, List.getElem?_eq_getElem hi, List.getElem?_eq_getElem hj, Option.getD_some] at this
  omega
theorem befF_nodup {ls : List (List Int)} (h : befF ls = 0) (k : Nat) : (ls.getD k []).Nodup := by
  obtain ⟨h1, h2⟩ := befF_cell h
  by_cases hk : k < ls.length
  · exact up_nodup fun i h0 hi => (cellF_zero (h2 k hk i hi)).2.2 h0
  · rw [show ls.getD k [] = [] by simp [List.getD, List.getElem?_eq_none (show ls.length ≤ k by omega)]]; exact List.nodup_nil

/-- The greatest of a number and of what a function makes of a list. -/
def mx {α : Type} (f : α → Int) (l : List α) (a : Int) : Int := l.foldl (fun a x => max a (f x)) a
theorem mx_le {α : Type} {f : α → Int} {c : Int} : ∀ {l : List α} {a : Int}, mx f l a ≤ c ↔ a ≤ c ∧ ∀ x ∈ l, f x ≤ c
  | [], a => by simp [mx]
  | y :: l, a => by
    have := mx_le (f := f) (c := c) (l := l) (a := max a (f y))
    rw [show mx f (y :: l) a = mx f l (max a (f y)) from rfl, this]
    simp only [List.mem_cons, forall_eq_or_imp]
    exact ⟨fun ⟨h1, h2⟩ => ⟨by omega, by omega, h2⟩, fun ⟨h1, h2, h3⟩ => ⟨by omega, h3⟩⟩
theorem mx_ge0 {α : Type} {f : α → Int} {l : List α} {a : Int} : a ≤ mx f l a := (mx_le.1 (Int.le_refl _)).1
theorem mx_ge {α : Type} {f : α → Int} {l : List α} {a : Int} {x : α} (h : x ∈ l) : f x ≤ mx f l a := (mx_le.1 (Int.le_refl _)).2 x h
theorem mx_at {α : Type} {f : α → Int} : ∀ {l : List α} {a : Int}, mx f l a = a ∨ ∃ x ∈ l, mx f l a = f x
  | [], a => .inl rfl
  | y :: l, a => by
    rw [show mx f (y :: l) a = mx f l (max a (f y)) from rfl]
    rcases mx_at (f := f) (l := l) (a := max a (f y)) with h | ⟨x, hx, h⟩
    · rw [h]
      by_cases hy : a ≤ f y
      · exact .inr ⟨y, by simp, by omega⟩
      · exact .inl (by omega)
    · exact .inr ⟨x, by simp [hx], h⟩
theorem mx_congr {α : Type} {f g : α → Int} {l : List α} {a : Int} (h : ∀ x ∈ l, f x = g x) : mx f l a = mx g l a :=
  Int.le_antisymm (mx_le.2 ⟨mx_ge0, fun x hx => by rw [h x hx]; exact mx_ge hx⟩) (mx_le.2 ⟨mx_ge0, fun x hx => by rw [← h x hx]; exact mx_ge hx⟩)
theorem mx_mem {α β : Type} {f : α → Int} {g : β → Int} {l : List α} {m : List β} {a : Int} (h1 : ∀ x ∈ l, ∃ y ∈ m, f x = g y) (h2 : ∀ y ∈ m, ∃ x ∈ l, f x = g y) : mx f l a = mx g m a :=
  Int.le_antisymm (mx_le.2 ⟨mx_ge0, fun x hx => by obtain ⟨y, hy, e⟩ := h1 x hx; rw [e]; exact mx_ge hy⟩) (mx_le.2 ⟨mx_ge0, fun y hy => by obtain ⟨x, hx, e⟩ := h2 y hy; rw [← e]; exact mx_ge hx⟩)
theorem mx_snoc {α : Type} {f : α → Int} {l : List α} {a : Int} {x : α} : mx f (l ++ [x]) a = max (mx f l a) (f x) := by simp [mx, List.foldl_append]

/-- The earliest starts of the first rows. -/
def earl (ls : List (List Int)) (ts : List Int) : Nat → List Int
  | 0 => []
  | k + 1 => earl ls ts k ++ [mx (fun x => (earl ls ts k).getD x.toNat 0 + ts.getD x.toNat 0) (ls.getD k []) 0]
/-- The earliest start of a step. -/
def est (ls : List (List Int)) (ts : List Int) (k : Nat) : Int := (earl ls ts (k + 1)).getD k 0
theorem earl_len {ls : List (List Int)} {ts : List Int} : ∀ {n : Nat}, (earl ls ts n).length = n
  | 0 => rfl
  | n + 1 => by rw [earl, List.length_append, earl_len]; rfl
theorem earl_get {ls : List (List Int)} {ts : List Int} : ∀ {n k : Nat}, k < n → (earl ls ts n).getD k 0 = est ls ts k
  | 0, k, h => absurd h (Nat.not_lt_zero _)
  | n + 1, k, h => by
    rcases Nat.lt_or_ge k n with h1 | h1
    · rw [← earl_get h1, earl]
      simp only [List.getD]
      rw [List.getElem?_append_left (by rw [earl_len]; exact h1)]
    · obtain rfl : k = n := by omega
      rfl
theorem est_eq {ls : List (List Int)} {ts : List Int} {k : Nat} (h : ∀ x ∈ ls.getD k [], 0 ≤ x ∧ x < k) : est ls ts k = mx (fun x => est ls ts x.toNat + ts.getD x.toNat 0) (ls.getD k []) 0 := by
  rw [est, earl]
  simp only [List.getD]
  rw [List.getElem?_append_right (by rw [earl_len]; omega)]
  simp only [earl_len, Nat.sub_self, List.getElem?_cons_zero, Option.getD_some]
  refine mx_congr fun x hx => ?_
  have := h x hx
  have e := earl_get (ls := ls) (ts := ts) (show x.toNat < k by omega)
  simp only [List.getD] at e
  rw [e]
theorem earl_eq {ls : List (List Int)} {ts : List Int} {n : Nat} : earl ls ts n = (List.range n).map (est ls ts) := by
  refine List.ext_getElem (by rw [earl_len]; simp) fun i h1 h2 => ?_
  rw [earl_len] at h1
  have := earl_get (ls := ls) (ts := ts) h1
  simp only [List.getD, List.getElem?_eq_getElem (show i < (earl ls ts n).length by rw [earl_len]; exact h1), Option.getD_some] at this
  simp [this]
theorem est_ge {ls : List (List Int)} {ts : List Int} {k : Nat} (h : ∀ x ∈ ls.getD k [], 0 ≤ x ∧ x < k) : 0 ≤ est ls ts k := by rw [est_eq h]; exact mx_ge0
/-- When all have ended. -/
def tend (ls : List (List Int)) (ts : List Int) (n : Nat) : Int := mx (fun k => est ls ts k + ts.getD k 0) (List.range n) 0

/-- The rows in the other direction. -/
def bkRow (ls : List (List Int)) (m j : Nat) : List Int := ((List.range m).filter fun k => decide (((ls.length - 1 - j : Nat) : Int) ∈ ls.getD k [])).map fun k => ((ls.length - 1 - k : Nat) : Int)
def bk (ls : List (List Int)) : List (List Int) := (List.range ls.length).map (bkRow ls ls.length)
def ow (ls : List (List Int)) (ts : List Int) : List Int := (List.range ls.length).map fun j => ts.getD (ls.length - 1 - j) 0
theorem bk_len {ls : List (List Int)} : (bk ls).length = ls.length := by simp [bk]
theorem bk_row {ls : List (List Int)} {j : Nat} (h : j < ls.length) : (bk ls).getD j [] = bkRow ls ls.length j := by simp [bk, List.getD, h]
theorem ow_get {ls : List (List Int)} {ts : List Int} {j : Nat} (h : j < ls.length) : (ow ls ts).getD j 0 = ts.getD (ls.length - 1 - j) 0 := by simp [ow, List.getD, h]
theorem bk_mem {ls : List (List Int)} {j : Nat} {y : Int} : y ∈ bkRow ls ls.length j ↔ ∃ k, k < ls.length ∧ ((ls.length - 1 - j : Nat) : Int) ∈ ls.getD k [] ∧ y = ((ls.length - 1 - k : Nat) : Int) := by
  unfold bkRow
  simp only [List.mem_map, List.mem_filter, List.mem_range, decide_eq_true_eq]
  constructor
  · rintro ⟨k, ⟨h1, h2⟩, rfl⟩; exact ⟨k, h1, h2, rfl⟩
  · rintro ⟨k, h1, h2, rfl⟩; exact ⟨k, ⟨h1, h2⟩, rfl⟩
theorem bk_dag {ls : List (List Int)} (h : Dag ls) : Dag (bk ls) := by
  refine ⟨by rw [bk_len]; exact h.len, fun j hj y hy => ?_⟩
  rw [bk_len] at hj
  rw [bk_row hj] at hy
  obtain ⟨k, hk, hm, rfl⟩ := bk_mem.1 hy
  have := h.el k hk _ hm
  omega
section
variable {ls : List (List Int)} {ts : List Int}
/-- The longest chain behind a step. -/
def aft (ls : List (List Int)) (ts : List Int) (k : Nat) : Int := est (bk ls) (ow ls ts) (ls.length - 1 - k)
theorem aft_eq (h : Dag ls) {k : Nat} (hk : k < ls.length) : aft ls ts k = mx (fun y => aft ls ts y + ts.getD y 0) ((List.range ls.length).filter fun y => decide ((k : Int) ∈ ls.getD y [])) 0 := by
  have hj : ls.length - 1 - k < ls.length := by omega
  have hd := (bk_dag h).el (ls.length - 1 - k) (by rw [bk_len]; exact hj)
  rw [aft, est_eq hd, bk_row hj]
  refine mx_mem (fun x hx => ?_) fun y hy => ?_
  · obtain ⟨y, hy, hm, rfl⟩ := bk_mem.1 hx
    rw [show ls.length - 1 - (ls.length - 1 - k) = k by omega] at hm
    refine ⟨y, List.mem_filter.2 ⟨List.mem_range.2 hy, by simpa using hm⟩, ?_⟩
    rw [Int.toNat_natCast, ow_get (by omega), show ls.length - 1 - (ls.length - 1 - y) = y by omega]
    rfl
  · obtain ⟨h1, h2⟩ := List.mem_filter.1 hy
    have hy := List.mem_range.1 h1
    refine ⟨((ls.length - 1 - y : Nat) : Int), bk_mem.2 ⟨y, hy, ?_, rfl⟩, ?_⟩
    · rw [show ls.length - 1 - (ls.length - 1 - k) = k by omega]; simpa using h2
    · rw [Int.toNat_natCast, ow_get (by omega), show ls.length - 1 - (ls.length - 1 - y) = y by omega]
      rfl
theorem aft_ge (h : Dag ls) {k : Nat} (hk : k < ls.length) : 0 ≤ aft ls ts k := by rw [aft_eq h hk]; exact mx_ge0
theorem aft_step (h : Dag ls) {k y : Nat} (hk : k < ls.length) (hy : y < ls.length) (hm : (k : Int) ∈ ls.getD y []) : aft ls ts y + ts.getD y 0 ≤ aft ls ts k := by
  rw [aft_eq h hk]
  exact mx_ge (f := fun y => aft ls ts y + ts.getD y 0) (List.mem_filter.2 ⟨List.mem_range.2 hy, by simpa using hm⟩)
theorem est_step (h : Dag ls) {k y : Nat} (hy : y < ls.length) (hm : (k : Int) ∈ ls.getD y []) : est ls ts k + ts.getD k 0 ≤ est ls ts y := by
  rw [est_eq (h.el y hy)]
  exact mx_ge (f := fun x : Int => est ls ts x.toNat + ts.getD x.toNat 0) hm
theorem through_end (h : Dag ls) : ∀ (d k : Nat), k + d + 1 = ls.length → est ls ts k + ts.getD k 0 + aft ls ts k ≤ tend ls ts ls.length := by
  intro d
  induction d using Nat.strongRecOn with
  | ind d ih =>
    intro k hk
    have hkl : k < ls.length := by omega
    rcases mx_at (f := fun y => aft ls ts y + ts.getD y 0) (l := (List.range ls.length).filter fun y => decide ((k : Int) ∈ ls.getD y [])) (a := 0) with e | ⟨y, hy, e⟩
    · rw [aft_eq h hkl, e]
      have := mx_ge (f := fun k => est ls ts k + ts.getD k 0) (a := 0) (List.mem_range.2 hkl)
      unfold tend
      omega
    · rw [aft_eq h hkl, e]
      obtain ⟨h1, h2⟩ := List.mem_filter.1 hy
      have hyl := List.mem_range.1 h1
      have hm : (k : Int) ∈ ls.getD y [] := by simpa using h2
      have := h.el y hyl _ hm
      have i := ih (ls.length - 1 - y) (by omega) y (by omega)
      have := est_step (ts := ts) h hyl hm
      omega
theorem through_aft (h : Dag ls) : ∀ (k : Nat), k < ls.length → est ls ts k + ts.getD k 0 + aft ls ts k ≤ tend (bk ls) (ow ls ts) ls.length := by
  intro k
  induction k using Nat.strongRecOn with
  | ind k ih =>
    intro hk
    rcases mx_at (f := fun x : Int => est ls ts x.toNat + ts.getD x.toNat 0) (l := ls.getD k []) (a := 0) with e | ⟨x, hx, e⟩
    · rw [est_eq (h.el k hk), e]
      have := mx_ge (f := fun j => est (bk ls) (ow ls ts) j + (ow ls ts).getD j 0) (a := 0) (List.mem_range.2 (show ls.length - 1 - k < ls.length by omega))
      rw [ow_get (by omega), show ls.length - 1 - (ls.length - 1 - k) = k by omega] at this
      unfold tend aft
      omega
    · rw [est_eq (h.el k hk), e]
      have hx2 := h.el k hk x hx
      have i := ih x.toNat (by omega) (by omega)
      have := aft_step (ts := ts) h (k := x.toNat) (by omega) hk (by rw [Int.toNat_of_nonneg hx2.1]; exact hx)
      omega
theorem tend_bk (h : Dag ls) : tend (bk ls) (ow ls ts) ls.length = tend ls ts ls.length := by
  refine Int.le_antisymm (mx_le.2 ⟨mx_ge0, fun j hj => ?_⟩) (mx_le.2 ⟨mx_ge0, fun k hk => ?_⟩)
  · have hj := List.mem_range.1 hj
    have := through_end (ts := ts) h j (ls.length - 1 - j) (by omega)
    have := est_ge (ts := ts) (h.el (ls.length - 1 - j) (by omega))
    rw [ow_get hj]
    unfold aft at *
    rw [show ls.length - 1 - (ls.length - 1 - j) = j by omega] at *
    unfold tend at *
    omega
  · have hk := List.mem_range.1 hk
    have := through_aft (ts := ts) h k hk
    have := aft_ge (ts := ts) h hk
    unfold tend at *
    omega

/-- A row's step of the latest starts. -/
def latRow (ts : List Int) (k : Nat) (l : List Int) (out : List Int) : List Int := l.foldl (fun o x => o.set x.toNat (min (o.getD x.toNat 0) (o.getD k 0 - ts.getD x.toNat 0))) out
/-- The latest starts, the last rows done. -/
def lats (ls : List (List Int)) (ts : List Int) : Nat → List Int
  | 0 => (List.range ls.length).map fun k => tend ls ts ls.length - ts.getD k 0
  | m + 1 => latRow ts (ls.length - 1 - m) (ls.getD (ls.length - 1 - m) []) (lats ls ts m)
theorem latRow_len {k : Nat} : ∀ {l out : List Int}, (latRow ts k l out).length = out.length
  | [], _ => rfl
  | x :: l, out => by rw [show latRow ts k (x :: l) out = latRow ts k l (out.set x.toNat (min (out.getD x.toNat 0) (out.getD k 0 - ts.getD x.toNat 0))) from rfl, latRow_len]; simp
theorem lats_len : ∀ {m : Nat}, (lats ls ts m).length = ls.length
  | 0 => by simp [lats]
  | m + 1 => by rw [lats, latRow_len, lats_len]
theorem set_getD {l : List Int} {i j : Nat} {v : Int} (hi : i < l.length) : (l.set i v).getD j 0 = if j = i then v else l.getD j 0 := by
  simp only [List.getD, List.getElem?_set]
  by_cases h : i = j
  · subst h; simp [hi]
  · rw [if_neg h, if_neg (fun e => h e.symm)]
theorem latRow_get {k : Nat} : ∀ {l out : List Int} {i : Nat}, (∀ x ∈ l, 0 ≤ x ∧ x < k) → k < out.length →
    (latRow ts k l out).getD i 0 = if (i : Int) ∈ l then min (out.getD i 0) (out.getD k 0 - ts.getD i 0) else out.getD i 0
  | [], out, i, _, _ => by simp [latRow]
  | x :: l, out, i, h, hk => by
    have hx := h x (by simp)
    rw [show latRow ts k (x :: l) out = latRow ts k l (out.set x.toNat (min (out.getD x.toNat 0) (out.getD k 0 - ts.getD x.toNat 0))) from rfl, latRow_get (fun y hy => h y (by simp [hy])) (by simpa using hk)]
    rw [set_getD (by omega), set_getD (by omega), if_neg (show ¬ k = x.toNat by omega)]
    by_cases e : i = x.toNat
    · subst e
      rw [if_pos rfl, Int.toNat_of_nonneg hx.1, if_pos (show x ∈ x :: l by simp)]
      split
      · omega
      · rfl
    · rw [if_neg e]
      have : ((i : Int) ∈ x :: l) = ((i : Int) ∈ l) := by
        simp only [List.mem_cons, eq_iff_iff]
        exact ⟨fun h => h.resolve_left (by omega), .inr⟩
      simp only [this]
theorem lats_get (h : Dag ls) : ∀ {m i : Nat}, m ≤ ls.length → i < ls.length →
    (lats ls ts m).getD i 0 = tend ls ts ls.length - ts.getD i 0 - mx (fun y => aft ls ts y + ts.getD y 0) ((List.range ls.length).filter fun y => decide (ls.length - m ≤ y ∧ (i : Int) ∈ ls.getD y [])) 0
  | 0, i, _, hi => by
    rw [List.filter_eq_nil_iff.2 fun y hy => by have := List.mem_range.1 hy; simp; omega]
    simp [lats, List.getD, hi, mx]
  | m + 1, i, hm, hi => by
    have hk : ls.length - 1 - m < ls.length := by omega
    rw [lats, latRow_get (h.el _ hk) (by rw [lats_len]; exact hk), lats_get h (by omega) hi, lats_get h (by omega) hk]
    generalize hkk : ls.length - 1 - m = k at *
    have e1 : mx (fun y => aft ls ts y + ts.getD y 0) ((List.range ls.length).filter fun y => decide (ls.length - m ≤ y ∧ (k : Int) ∈ ls.getD y [])) 0 = aft ls ts k := by
      rw [aft_eq h hk]
      congr 1
      refine List.filter_congr fun y hy => decide_eq_decide.2 ⟨fun q => q.2, fun q => ⟨?_, q⟩⟩
      have := h.el y (List.mem_range.1 hy) _ q
      omega
    rw [e1]
    have e2 : mx (fun y => aft ls ts y + ts.getD y 0) ((List.range ls.length).filter fun y => decide (ls.length - (m + 1) ≤ y ∧ (i : Int) ∈ ls.getD y [])) 0 =
        if (i : Int) ∈ ls.getD k [] then max (mx (fun y => aft ls ts y + ts.getD y 0) ((List.range ls.length).filter fun y => decide (ls.length - m ≤ y ∧ (i : Int) ∈ ls.getD y [])) 0) (aft ls ts k + ts.getD k 0)
        else mx (fun y => aft ls ts y + ts.getD y 0) ((List.range ls.length).filter fun y => decide (ls.length - m ≤ y ∧ (i : Int) ∈ ls.getD y [])) 0 := by
      split
      · rename_i hik
        rw [← mx_snoc (f := fun y => aft ls ts y + ts.getD y 0)]
        refine mx_mem (fun y hy => ⟨y, ?_, rfl⟩) fun y hy => ⟨y, ?_, rfl⟩
        · obtain ⟨h1, h2⟩ := List.mem_filter.1 hy
          have h2 := of_decide_eq_true h2
          by_cases e : y = k
          · subst e; simp
          · exact List.mem_append.2 (.inl (List.mem_filter.2 ⟨h1, decide_eq_true ⟨by omega, h2.2⟩⟩))
        · rcases List.mem_append.1 hy with hy | hy
          · obtain ⟨h1, h2⟩ := List.mem_filter.1 hy
            have h2 := of_decide_eq_true h2
            exact List.mem_filter.2 ⟨h1, decide_eq_true ⟨by omega, h2.2⟩⟩
          · rw [List.mem_singleton] at hy; subst hy
            exact List.mem_filter.2 ⟨List.mem_range.2 hk, decide_eq_true ⟨by omega, hik⟩⟩
      · rename_i hik
        congr 1
        refine List.filter_congr fun y hy => decide_eq_decide.2 ⟨fun q => ⟨?_, q.2⟩, fun q => ⟨by omega, q.2⟩⟩
        by_cases e : y = k
        · subst e; exact absurd q.2 hik
        · omega
    rw [e2]
    split <;> omega
/-- The latest starts. -/
theorem lats_eq (h : Dag ls) : lats ls ts ls.length = (List.range ls.length).map fun k => tend (bk ls) (ow ls ts) ls.length - est (bk ls) (ow ls ts) (ls.length - 1 - k) - ts.getD k 0 := by
  refine List.ext_getElem (by rw [lats_len]; simp) fun i h1 h2 => ?_
  have hi : i < ls.length := by rw [lats_len] at h1; exact h1
  have := lats_get (ts := ts) h (Nat.le_refl _) hi
  rw [show (List.range ls.length).filter (fun y => decide (ls.length - ls.length ≤ y ∧ (i : Int) ∈ ls.getD y [])) = (List.range ls.length).filter (fun y => decide ((i : Int) ∈ ls.getD y [])) from List.filter_congr fun y _ => decide_eq_decide.2 ⟨fun q => q.2, fun q => ⟨by omega, q⟩⟩, ← aft_eq h hi] at this
  simp only [List.getD, List.getElem?_eq_getElem h1, Option.getD_some] at this
  rw [this]
  simp [aft, List.getD, tend_bk h]
  omega
end
end Go.Proofs.Ytjohiapgancocaa.Ab
