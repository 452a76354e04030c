/- Facts: sets as sorted lists; the facts of a list, each once. -/
import Derived.Test.YthchdnaabamplaaFj
namespace Go.Proofs.Ythchdnaabamplaa.Ab
open Go.RowKit Go.Sort
set_option linter.unusedVariables false
set_option linter.unusedSimpArgs false
set_option maxRecDepth 100000

theorem flt_irr (a : Fa) : ¬ flt a a := by unfold flt; omega
theorem flt_tr {a b c : Fa} (h : flt a b) (k : flt b c) : flt a c := by unfold flt at *; omega
theorem flt_tot {a b : Fa} (h : ¬ flt a b) (k : ¬ flt b a) : a = b := by
  unfold flt at *
  exact Prod.ext (by omega) (Prod.ext (by omega) (by omega))
theorem srt_sorted (l : List Fa) : (srt fcf l).Pairwise fun a b => ¬ flt b a := by
  have h := List.pairwise_mergeSort (le := fun x y => !(ltOf fcf) y x) (fun a b c h1 h2 => ?_) (fun a b => ?_) l
  · refine h.imp fun {a b} h => ?_
    rw [ltFcf] at h
    simpa using h
  · simp only [ltFcf, Bool.not_eq_true', decide_eq_false_iff_not] at *
    unfold flt at *; omega
  · simp only [ltFcf, Bool.or_eq_true, Bool.not_eq_true', decide_eq_false_iff_not]
    unfold flt; omega
theorem fset_sorted (l : List Fa) : (fset l).Pairwise flt := (dn_sorted (srt_sorted (fvs l)) _ (Nat.le_refl _)).1
theorem fset_mem {l : List Fa} {f : Fa} : f ∈ fset l ↔ f ∈ l ∧ fOk f := by
  unfold fset
  rw [dn_mem _ (Nat.le_refl _), List.take_length, (srt_perm fcf (fvs l)).mem_iff]
  simp [fvs]
theorem fset_nodup (l : List Fa) : (fset l).Nodup := List.Pairwise.imp (fun {a b} (h : flt a b) (e : a = b) => by subst e; exact flt_irr a h) (fset_sorted l)
/-- Lists with the same valid facts have the same set. -/
theorem sorted_unique : ∀ {a b : List Fa}, a.Pairwise flt → b.Pairwise flt → (∀ f, f ∈ a ↔ f ∈ b) → a = b
  | [], [], _, _, _ => rfl
  | [], y :: _, _, _, h => absurd ((h y).2 (by simp)) (by simp)
  | x :: _, [], _, _, h => absurd ((h x).1 (by simp)) (by simp)
  | x :: a, y :: b, ha, hb, h => by
    obtain ⟨a1, a2⟩ := List.pairwise_cons.1 ha
    obtain ⟨b1, b2⟩ := List.pairwise_cons.1 hb
    have hxy : x = y := by
      rcases List.mem_cons.1 ((h x).1 (by simp)) with e | e
      · exact e
      · rcases List.mem_cons.1 ((h y).2 (by simp)) with e2 | e2
        · exact e2.symm
        · exact absurd (flt_tr (a1 y e2) (b1 x e)) (flt_irr x)
    subst hxy
    refine congrArg _ (sorted_unique a2 b2 fun f => ⟨fun hf => ?_, fun hf => ?_⟩)
    · rcases List.mem_cons.1 ((h f).1 (by simp [hf])) with e | e
      · subst e; exact absurd (a1 f hf) (flt_irr f)
      · exact e
    · rcases List.mem_cons.1 ((h f).2 (by simp [hf])) with e | e
      · subst e; exact absurd (b1 f hf) (flt_irr f)
      · exact e
theorem fset_congr {a b : List Fa} (h : ∀ f, fOk f → (f ∈ a ↔ f ∈ b)) : fset a = fset b :=
  sorted_unique (fset_sorted a) (fset_sorted b) fun f => by
    rw [fset_mem, fset_mem]
    exact ⟨fun k => ⟨(h f k.2).1 k.1, k.2⟩, fun k => ⟨(h f k.2).2 k.1, k.2⟩⟩
theorem fset_of_sorted {l : List Fa} (h : l.Pairwise flt) (hv : ∀ f ∈ l, fOk f) : fset l = l :=
  sorted_unique (fset_sorted l) h fun f => by rw [fset_mem]; exact ⟨fun k => k.1, fun k => ⟨k, hv f k⟩⟩

/-- In a sorted list as many are less than an element as stand ahead of it. -/
theorem count_lt : ∀ {s : List Fa}, s.Pairwise flt → ∀ (k : Nat) (h : k < s.length), s.countP (fun g => decide (flt g s[k])) = k
  | [], _, k, h => by simp at h
  | x :: s, hs, 0, h => by
    obtain ⟨h1, h2⟩ := List.pairwise_cons.1 hs
    simp only [List.getElem_cons_zero]
    rw [List.countP_eq_zero]
    intro g hg
    rcases List.mem_cons.1 hg with rfl | hg
    · simpa using flt_irr g
    · simpa using fun h => flt_irr x (flt_tr (h1 g hg) h)
  | x :: s, hs, k + 1, h => by
    obtain ⟨h1, h2⟩ := List.pairwise_cons.1 hs
    have ih := count_lt h2 k (by simpa using h)
    simp only [List.getElem_cons_succ]
    rw [List.countP_cons, ih, if_pos (by simpa using h1 _ (List.getElem_mem _))]

/-- The valid facts of a list, each once, in the order in which they come. -/
def dd (l : List Fa) : List Fa := l.foldl (fun acc x => if fOk x ∧ x ∉ acc then acc ++ [x] else acc) []
theorem dd_snoc (l : List Fa) (x : Fa) : dd (l ++ [x]) = if fOk x ∧ x ∉ dd l then dd l ++ [x] else dd l := by
  unfold dd; rw [List.foldl_append]; rfl
theorem dd_nodup_mem (l : List Fa) : (dd l).Nodup ∧ ∀ f, f ∈ dd l ↔ f ∈ l ∧ fOk f := by
  suffices h : ∀ n (l : List Fa), l.length = n → (dd l).Nodup ∧ ∀ f, f ∈ dd l ↔ f ∈ l ∧ fOk f from h _ l rfl
  intro n
  induction n with
  | zero => intro l h; rw [List.length_eq_zero_iff.1 h]; simp [dd]
  | succ n ih =>
    intro l h
    obtain ⟨l', x, rfl⟩ : ∃ l' x, l = l' ++ [x] := ⟨l.dropLast, l.getLast (fun e => by simp [e] at h), (List.dropLast_concat_getLast _).symm⟩
    obtain ⟨h1, h2⟩ := ih l' (by simpa using h)
    rw [dd_snoc]
    split
    · rename_i hx
      refine ⟨?_, fun f => ?_⟩
      · rw [List.nodup_append]
        refine ⟨h1, by simp, fun a ha b hb => ?_⟩
        simp only [List.mem_singleton] at hb
        subst hb
        exact fun e => hx.2 (e ▸ ha)
      · simp only [List.mem_append, List.mem_singleton, h2]
        constructor
        · rintro (h | rfl)
          · exact ⟨.inl h.1, h.2⟩
          · exact ⟨.inr rfl, hx.1⟩
        · rintro ⟨h | rfl, k⟩
          · exact .inl ⟨h, k⟩
          · exact .inr rfl
    · rename_i hx
      refine ⟨h1, fun f => ?_⟩
      simp only [List.mem_append, List.mem_singleton, h2]
      constructor
      · exact fun h => ⟨.inl h.1, h.2⟩
      · rintro ⟨h | rfl, k⟩
        · exact ⟨h, k⟩
        · refine ⟨?_, k⟩
          have : f ∈ dd l' := Classical.byContradiction fun e => hx ⟨k, e⟩
          exact ((h2 f).1 this).1
theorem dd_perm (l : List Fa) : (dd l).Perm (fset l) :=
  (List.perm_ext_iff_of_nodup (dd_nodup_mem l).1 (fset_nodup l)).2 fun f => by rw [(dd_nodup_mem l).2, fset_mem]
theorem dd_len (l : List Fa) : (dd l).length = (fset l).length := (dd_perm l).length_eq
theorem dd_le (l : List Fa) : (dd l).length ≤ l.length := by
  have h : ∀ (l acc : List Fa), (l.foldl (fun acc x => if fOk x ∧ x ∉ acc then acc ++ [x] else acc) acc).length ≤ acc.length + l.length := by
    intro l
    induction l with
    | nil => intro acc; simp
    | cons x l ih =>
      intro acc
      simp only [List.foldl_cons]
      refine Nat.le_trans (ih _) ?_
      split <;> simp <;> omega
  simpa [dd] using h l []
/-- As many of them are less than one as stand ahead of it in the set. -/
theorem dd_count {l : List Fa} {k : Nat} (h : k < (fset l).length) : (dd l).countP (fun g => decide (flt g (fset l)[k])) = k := by
  rw [(dd_perm l).countP_eq]; exact count_lt (fset_sorted l) k h

/-- The entries of the map of these facts. -/
def fents (d : List Fa) : List (Fa × Value × Nat) := d.zipIdx.map fun p => (p.1, .bool true, p.2)
theorem fents_len (d : List Fa) : (fents d).length = d.length := by simp [fents]
theorem fents_snoc (d : List Fa) (x : Fa) : fents (d ++ [x]) = fents d ++ [(x, .bool true, d.length)] := by simp [fents, List.zipIdx_append]
theorem fents_get {d : List Fa} {i : Nat} (h : i < d.length) : (fents d)[i]? = some (d[i], .bool true, i) := by simp [fents, h]
theorem fents_mem {d : List Fa} {e : Fa × Value × Nat} (h : e ∈ fents d) : ∃ (i : Nat) (hi : i < d.length), e = (d[i], .bool true, i) := by
  obtain ⟨i, hi⟩ := List.getElem?_of_mem h
  have hl := (List.getElem?_eq_some_iff.1 hi).1
  rw [fents_len] at hl
  rw [fents_get hl] at hi
  exact ⟨i, hl, (Option.some.inj hi).symm⟩
theorem fents_find {d : List Fa} {i : Nat} (h : i < d.length) : (ents fV (fents d)).find? (fun e => e.2.2 == i) = some (fV d[i], .bool true, i) := by
  rw [List.find?_eq_some_iff_getElem]
  refine ⟨by simp, i, by simpa [ents, fents] using h, by simp [ents, fents], fun j hj => ?_⟩
  simp [ents, fents]
  omega
theorem fents_same {d : List Fa} {i : Nat} {x : Fa} (h : (fents d)[i]? = some (x, .bool true, i)) : (fents d).modify i (fun e => (x, .bool true, e.2.2)) = fents d := by
  apply List.ext_getElem?
  intro j
  rw [List.getElem?_modify]
  by_cases e : i = j
  · subst e; rw [h]; simp
  · simp [e]
/-- Steps of an iterator that are done are a permutation of all of them. -/
theorem seen_perm {n : Nat} {seen : List Nat} (hn : seen.Nodup) (hlt : ∀ b ∈ seen, b < n) (hall : ∀ b, b < n → b ∈ seen) : seen.Perm (List.range n) :=
  (List.perm_ext_iff_of_nodup hn List.nodup_range).2 fun b => ⟨fun h => List.mem_range.2 (hlt b h), fun h => hall b (List.mem_range.1 h)⟩
theorem seen_lt {n : Nat} {seen : List Nat} (hn : seen.Nodup) (hlt : ∀ b ∈ seen, b < n) : seen.length ≤ n := by
  have h : seen.Perm ((List.range n).filter fun b => decide (b ∈ seen)) :=
    (List.perm_ext_iff_of_nodup hn (List.nodup_range.filter _)).2 fun b => by
      rw [List.mem_filter, List.mem_range, decide_eq_true_eq]
      exact ⟨fun h => ⟨hlt b h, h⟩, fun h => h.2⟩
  have h2 := List.length_filter_le (fun b => decide (b ∈ seen)) (List.range n)
  rw [h.length_eq]
  simpa using h2
end Go.Proofs.Ythchdnaabamplaa.Ab
