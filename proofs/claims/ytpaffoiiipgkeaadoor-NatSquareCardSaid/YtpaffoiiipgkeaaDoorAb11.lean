/- Regions that draw their order: whatever order is drawn, they come to what the order of the text comes to. -/
import Derived.Test.YtpaffoiiipgkeaaDoorAb10
namespace Go.Proofs.YtpaffoiiipgkeaaDoor.Ab
open Go.RowKit
set_option linter.unusedVariables false
set_option linter.unusedSimpArgs false

section
variable {P : Program} {G : Gl}

/-- One heap holds all of another's blocks as they are. -/
structure Sub (A B : Hp) : Prop where
  next : A.next ≤ B.next
  blk : ∀ id, id < A.next → B.blk id = A.blk id

theorem Sub.refl (A : Hp) : Sub A A := ⟨Nat.le_refl _, fun _ _ => rfl⟩
theorem Sub.trans {A B C : Hp} (h : Sub A B) (k : Sub B C) : Sub A C := ⟨Nat.le_trans h.next k.next, fun id hi => (k.blk id (Nat.lt_of_lt_of_le hi h.next)).trans (h.blk id hi)⟩

theorem Sub.ext {A B : Hp} (h : Sub A B) {μ ν : Mu} (hm : ∀ id, id < A.next → ∀ p, μ id = some p → ν id = some p) : Ext μ A ν B :=
  ⟨h.next, fun id hi cs g e hb => ⟨cs, g, e, (h.blk id hi) ▸ hb, .inl ⟨rfl, rfl, hm id hi⟩⟩⟩

/-- Only so many blocks have a place. -/
def Low (μ : Mu) (n : Nat) : Prop := ∀ id, n ≤ id → μ id = none
def Mu.cut (μ : Mu) (n : Nat) : Mu := fun id => if id < n then μ id else none
theorem Mu.cut_low (μ : Mu) (n : Nat) : Low (μ.cut n) n := fun id hi => by simp only [Mu.cut, if_neg (show ¬ id < n by omega)]
theorem Mu.cut_lt (μ : Mu) {n id : Nat} (h : id < n) : μ.cut n id = μ id := by simp only [Mu.cut, if_pos h]

theorem HR.low {fl : Nat} {μ : Mu} {A : Hp} {w : World} (H : HR G μ fl A w) : HR G (μ.cut A.next) fl A w := by
  have lt : ∀ {id : Nat}, A.blk id ≠ none → id < A.next := fun {id} h => by
    rcases Nat.lt_or_ge id A.next with h' | h'
    · exact h'
    · exact absurd (H.wf id h') h
  have E : Ext μ A (μ.cut A.next) A := (Sub.refl A).ext fun id hi p hp => by rw [Mu.cut_lt _ hi]; exact hp
  refine ⟨H.wf, H.refs, fun id cs g e b o S hb hm => ?_, fun id cs g e b o S hf hb hm => ?_, fun id id' b o S b' o' S' hne hf hb hb' hm hm' => ?_, H.glob, fun g cs id b o S hg hf hb hm => ?_⟩
  · rw [Mu.cut_lt _ (lt (by rw [hb]; simp))] at hm
    obtain ⟨c, t, fr, h1, h2, h3, h4⟩ := H.row id cs g e b o S hb hm
    exact ⟨c, t, fr, h1, h2, h3, fun j v hj => by obtain ⟨v', h5, h6⟩ := h4 j v hj; exact ⟨v', h5, h6.mono E⟩⟩
  · rw [Mu.cut_lt _ (lt (by rw [hb]; simp))] at hm
    exact H.free id cs g e b o S hf hb hm
  · rw [Mu.cut_lt _ (lt hb)] at hm
    rw [Mu.cut_lt _ (lt hb')] at hm'
    exact H.apart id id' b o S b' o' S' hne hf hb hb' hm hm'
  · rw [Mu.cut_lt _ (lt hb)] at hm
    exact H.globApart g cs id b o S hg hf hb hm

/-- A heap that holds more blocks, none of which has a place yet. -/
theorem HR.up {fl : Nat} {μ : Mu} {A B : Hp} {w : World} (H : HR G μ fl A w) (hl : Low μ A.next) (h : Sub A B) (hwf : ∀ id, B.next ≤ id → B.blk id = none)
    (hrefs : ∀ id cs g e, B.blk id = some (.row cs g e) → ∀ v ∈ cs, RB B.next v) : HR G μ fl B w := by
  have lt : ∀ {id : Nat} {p : Pl}, μ id = some p → id < A.next := fun {id p} h => by
    rcases Nat.lt_or_ge id A.next with h' | h'
    · exact h'
    · rw [hl id h'] at h; cases h
  have E : Ext μ A μ B := h.ext fun _ _ _ hp => hp
  refine ⟨hwf, hrefs, fun id cs g e b o S hb hm => ?_, fun id cs g e b o S hf hb hm => ?_, fun id id' b o S b' o' S' hne hf hb hb' hm hm' => ?_, H.glob, fun g cs id b o S hg hf hb hm => ?_⟩
  · rw [h.blk id (lt hm)] at hb
    obtain ⟨c, t, fr, h1, h2, h3, h4⟩ := H.row id cs g e b o S hb hm
    exact ⟨c, t, fr, h1, h2, h3, fun j v hj => by obtain ⟨v', h5, h6⟩ := h4 j v hj; exact ⟨v', h5, h6.mono E⟩⟩
  · rw [h.blk id (lt hm)] at hb
    exact H.free id cs g e b o S hf hb hm
  · rw [h.blk id (lt hm)] at hb
    rw [h.blk id' (lt hm')] at hb'
    exact H.apart id id' b o S b' o' S' hne hf hb hb' hm hm'
  · rw [h.blk id (lt hm)] at hb
    exact H.globApart g cs id b o S hg hf hb hm

theorem Trans.cutUp {fl : Nat} {μ μ' : Mu} {A B C : Hp} {w w' : World} (T : Trans fl μ A w μ' B w') (hfl : fl ≤ A.next) (h : Sub B C) : Trans fl μ A w (μ'.cut B.next) C w' := by
  have hAB := T.ext.next
  refine ⟨T.os, T.tape, T.output, T.size, T.ext.trans (h.ext fun id hi p hp => by rw [Mu.cut_lt _ hi]; exact hp), fun id hi => ?_, fun id hi hm => ?_, T.frame, fun b ⟨id, o, S, hf, hb, hm⟩ => ?_⟩
  · obtain ⟨h1, h2⟩ := T.low id hi
    exact ⟨(h.blk id (by omega)).trans h1, by rw [Mu.cut_lt _ (by omega)]; exact h2⟩
  · rw [Mu.cut_lt _ (by omega)]; exact T.dom id hi hm
  · by_cases hlt : id < B.next
    · rw [Mu.cut_lt _ hlt] at hm
      rw [h.blk id hlt] at hb
      exact T.own b ⟨id, o, S, hf, hb, hm⟩
    · rw [Mu.cut_low _ _ id (by omega)] at hm; cases hm

/-- The elder heap, at the places that it has. -/
theorem HR.down {fl : Nat} {μ : Mu} {A B : Hp} {w : World} (H : HR G μ fl B w) (h : Sub A B) (hwf : ∀ id, A.next ≤ id → A.blk id = none)
    (hrefs : ∀ id cs g e, A.blk id = some (.row cs g e) → ∀ v ∈ cs, RB A.next v) : HR G (μ.cut A.next) fl A w := by
  have lt : ∀ {id : Nat} {p : Pl}, μ.cut A.next id = some p → id < A.next := fun {id p} h => by
    rcases Nat.lt_or_ge id A.next with h' | h'
    · exact h'
    · rw [Mu.cut_low _ _ id h'] at h; cases h
  refine ⟨hwf, hrefs, fun id cs g e b o S hb hm => ?_, fun id cs g e b o S hf hb hm => ?_, fun id id' b o S b' o' S' hne hf hb hb' hm hm' => ?_, H.glob, fun g cs id b o S hg hf hb hm => ?_⟩
  · have hl := lt hm
    rw [Mu.cut_lt _ hl] at hm
    obtain ⟨c, t, fr, h1, h2, h3, h4⟩ := H.row id cs g e b o S ((h.blk id hl).trans hb) hm
    refine ⟨c, t, fr, h1, h2, h3, fun j v hj => ?_⟩
    obtain ⟨v', h5, h6⟩ := h4 j v hj
    exact ⟨v', h5, h6.down (B := A) (fun i hi => h.blk i hi) (fun i hi => Mu.cut_lt _ hi) (hrefs id cs g e hb v (List.mem_of_getElem? hj))⟩
  · have hl := lt hm
    rw [Mu.cut_lt _ hl] at hm
    exact H.free id cs g e b o S hf ((h.blk id hl).trans hb) hm
  · have hl := lt hm
    have hl' := lt hm'
    rw [Mu.cut_lt _ hl] at hm
    rw [Mu.cut_lt _ hl'] at hm'
    exact H.apart id id' b o S b' o' S' hne hf (by rw [h.blk id hl]; exact hb) (by rw [h.blk id' hl']; exact hb') hm hm'
  · have hl := lt hm
    rw [Mu.cut_lt _ hl] at hm
    exact H.globApart g cs id b o S hg hf (by rw [h.blk id hl]; exact hb) hm

/-- What an operation that touches old blocks not at all did at its own heap, told at a later heap. -/
theorem HR.merge {fl : Nat} {μ μ'' : Mu} {A A' B : Hp} {w w' : World} (H : HR G μ fl B w) (hfl : fl ≤ A.next) (hAA : A.next ≤ A'.next) (hA : Sub A B) (hA' : Sub A' B) (hwf : ∀ id, A.next ≤ id → A.blk id = none)
    (hfresh : ∀ id, A.next ≤ id → id < A'.next → μ id = none) (H2 : HR G μ'' A.next A' w') (T2 : Trans A.next (μ.cut A.next) A w μ'' A' w') :
    ∃ ν : Mu, (∀ id, ¬ (A.next ≤ id ∧ id < A'.next) → ν id = μ id) ∧ (∀ id, A.next ≤ id → id < A'.next → ν id = μ'' id) ∧ HR G ν fl B w' ∧ Ext μ B ν B ∧ Ext μ'' A' ν B ∧
      ∀ {μ0 : Mu} {A0 : Hp} {w0 : World}, A0.next ≤ A.next → fl ≤ A0.next → Trans fl μ0 A0 w0 μ B w → Trans fl μ0 A0 w0 ν B w' := by
  have none_own : ∀ b, ¬ Own (μ.cut A.next) A.next A b := fun b ⟨id, _, _, hi, hb, _⟩ => hb (hwf id hi)
  have hsame : ∀ b, b < w.heap.size → w'.heap[b]? = w.heap[b]? := fun b hb => T2.frame b hb (none_own b)
  have hfro : ∀ b j, b < w.heap.size → w'.frozen? ⟨b, j, none⟩ = w.frozen? ⟨b, j, none⟩ := fun b j hb => by simp only [World.frozen?, hsame b hb]
  let ν : Mu := fun id => if A.next ≤ id ∧ id < A'.next then μ'' id else μ id
  have vo : ∀ id, ¬ (A.next ≤ id ∧ id < A'.next) → ν id = μ id := fun id h => if_neg h
  have vn : ∀ id, A.next ≤ id → id < A'.next → ν id = μ'' id := fun id h h' => if_pos ⟨h, h'⟩
  have E1 : Ext μ B ν B := (Sub.refl B).ext fun id hi p hp => by
    rw [vo id (fun h => by rw [hfresh id h.1 h.2] at hp; cases hp)]; exact hp
  have E2 : Ext μ'' A' ν B := hA'.ext fun id hi p hp => by
    by_cases h : A.next ≤ id
    · rw [vn id h hi]; exact hp
    · rw [vo id (fun h' => h h'.1)]
      have := (T2.low id (by omega)).2
      rw [Mu.cut_lt _ (by omega)] at this
      rw [← this]; exact hp
  have newb : ∀ {id b o S : Nat}, A.next ≤ id → A'.blk id ≠ none → μ'' id = some (b, o, S) → w.heap.size ≤ b := fun {id b o S} h hb hm => by
    rcases T2.own b ⟨id, o, S, h, hb, hm⟩ with h' | h'
    · exact absurd h' (none_own b)
    · exact h'
  refine ⟨ν, vo, vn, ⟨H.wf, H.refs, fun id cs g e b o S hb hm => ?_, fun id cs g e b o S hf hb hm j hj => ?_, fun id id' b o S b' o' S' hne hf hb hb' hm hm' => ?_, H2.glob, fun g cs id b o S hg hf hb hm => ?_⟩, E1, E2, ?_⟩
  · by_cases h : A.next ≤ id ∧ id < A'.next
    · rw [vn id h.1 h.2] at hm
      rw [hA'.blk id h.2] at hb
      obtain ⟨c, t, fr, h1, h2, h3, h4⟩ := H2.row id cs g e b o S hb hm
      exact ⟨c, t, fr, h1, h2, h3, fun j v hj => by obtain ⟨v', h5, h6⟩ := h4 j v hj; exact ⟨v', h5, h6.mono E2⟩⟩
    · rw [vo id h] at hm
      obtain ⟨c, t, fr, h1, h2, h3, h4⟩ := H.row id cs g e b o S hb hm
      exact ⟨c, t, fr, (hsame b (Array.getElem?_eq_some_iff.1 h1).1).trans h1, h2, h3, fun j v hj => by obtain ⟨v', h5, h6⟩ := h4 j v hj; exact ⟨v', h5, h6.mono E1⟩⟩
  · by_cases h : A.next ≤ id ∧ id < A'.next
    · rw [vn id h.1 h.2] at hm
      rw [hA'.blk id h.2] at hb
      exact H2.free id cs g e b o S h.1 hb hm j hj
    · rw [vo id h] at hm
      rw [hfro b j (live_lt H (by rw [hb]; simp) hm)]
      exact H.free id cs g e b o S hf hb hm j hj
  · by_cases h : A.next ≤ id ∧ id < A'.next
    · rw [vn id h.1 h.2] at hm
      rw [hA'.blk id h.2] at hb
      by_cases h' : A.next ≤ id' ∧ id' < A'.next
      · rw [vn id' h'.1 h'.2] at hm'
        rw [hA'.blk id' h'.2] at hb'
        exact H2.apart id id' b o S b' o' S' hne h.1 hb hb' hm hm'
      · rw [vo id' h'] at hm'
        have h1 := live_lt H hb' hm'
        have h2 := newb h.1 hb hm
        omega
    · rw [vo id h] at hm
      by_cases h' : A.next ≤ id' ∧ id' < A'.next
      · rw [vn id' h'.1 h'.2] at hm'
        rw [hA'.blk id' h'.2] at hb'
        have h1 := live_lt H hb hm
        have h2 := newb h'.1 hb' hm'
        omega
      · rw [vo id' h'] at hm'
        exact H.apart id id' b o S b' o' S' hne hf hb hb' hm hm'
  · by_cases h : A.next ≤ id ∧ id < A'.next
    · rw [vn id h.1 h.2] at hm
      rw [hA'.blk id h.2] at hb
      exact H2.globApart g cs id b o S hg h.1 hb hm
    · rw [vo id h] at hm
      exact H.globApart g cs id b o S hg hf hb hm
  · intro μ0 A0 w0 h0 hf0 T
    refine ⟨T2.os.trans T.os, T2.tape.trans T.tape, T2.output.trans T.output, Nat.le_trans T.size T2.size, T.ext.trans E1, fun id hi => ⟨(T.low id hi).1, ?_⟩, fun id hi hm => ?_, fun b hb ho => ?_, fun b ⟨id, o, S, hf, hb, hm⟩ => ?_⟩
    · rw [vo id (by omega)]; exact (T.low id hi).2
    · rw [vo id (by omega)]; exact T.dom id hi hm
    · rw [hsame b (Nat.lt_of_lt_of_le hb T.size)]; exact T.frame b hb ho
    · by_cases h : A.next ≤ id ∧ id < A'.next
      · rw [vn id h.1 h.2] at hm
        rw [hA'.blk id h.2] at hb
        exact .inr (Nat.le_trans T.size (newb h.1 hb hm))
      · rw [vo id h] at hm
        exact T.own b ⟨id, o, S, hf, hb, hm⟩

theorem Oper.wp_exists {o : Oper} {a : Act} {w : World} {next : Act → World → Prop} (h : o.wp P a w next fun _ _ _ => False) : ∃ a' w', next a' w' := by
  unfold Oper.wp at h
  generalize (execOp a.eval o).run P w = r at h
  cases r with
  | ok n w' =>
    cases n <;> simp only [Oper.upon] at h
    case value v => exact ⟨_, _, h⟩
    case skip => exact ⟨_, _, h⟩
    case defer d => exact ⟨_, _, h⟩
    case enter f args =>
      obtain ⟨e, w2, fr, hR, _⟩ := h []
      cases e with
      | returned v => exact ⟨_, _, hR⟩
      | panicked c => exact hR.elim
      | outgrown => obtain ⟨_, _, hx⟩ := hR; exact hx.elim
    case row row args =>
      obtain ⟨v, w2, hR, _⟩ := h default []
      exact ⟨_, _, hR⟩
  | halt x w' =>
    cases x <;> simp only [Oper.upon] at h

theorem wpOp_exists {ops : Array Oper} {i : Nat} {a : Act} {w : World} {K : Act → World → Prop} (h : Go.wpOp P ops (fun _ _ _ => False) i K a w) : ∃ a' w', K a' w' := by
  unfold Go.wpOp at h
  split at h
  · exact ⟨_, _, h⟩
  · split at h
    · rcases h with h | ⟨_, _, _, h⟩
      · exact Oper.wp_exists h
      · exact h.elim
    · exact ⟨_, _, h⟩

/-- One step in the order of the text, under either floor. -/
theorem StepAt.next {n fl f : Nat} {ops : Array Oper} {i : Nat} {o : Oper} (hi : ops[i]? = some o) (hok : okOper n o = true) {S S' : Tm × Hp} (hs : StepAt P G ops.toList f o S S') (hf : f = fl ∨ f = S.2.next) {μ : Mu} {a : Act} {w : World}
    (T : TR n μ S.2 S.1 a) (H : HR G μ fl S.2 w) (hfl : fl ≤ S.2.next) :
    ∃ μ' a' w', TR n μ' S'.2 S'.1 a' ∧ HR G μ' fl S'.2 w' ∧ S.2.next ≤ S'.2.next ∧ (f = S.2.next → Sub S.2 S'.2) := by
  rcases hf with rfl | rfl
  · obtain ⟨a', w', μ', h1, h2, h3⟩ := wpOp_exists (hs.wpOp (Q := fun _ _ _ => False) hi hok T H hfl (K := fun a' w' => ∃ μ', TR n μ' S'.2 S'.1 a' ∧ HR G μ' f S'.2 w' ∧ Trans f μ S.2 w μ' S'.2 w') fun μ' a' w' h1 h2 h3 => ⟨μ', h1, h2, h3⟩)
    exact ⟨μ', a', w', h1, h2, h3.ext.next, fun e => ⟨h3.ext.next, fun id hid => (h3.low id (by omega)).1⟩⟩
  · obtain ⟨a', w', μ', h1, h2, h3⟩ := wpOp_exists (hs.wpOp (Q := fun _ _ _ => False) hi hok T (H.raise hfl) (Nat.le_refl _) (K := fun a' w' => ∃ μ', TR n μ' S'.2 S'.1 a' ∧ HR G μ' S.2.next S'.2 w' ∧ Trans S.2.next μ S.2 w μ' S'.2 w') fun μ' a' w' h1 h2 h3 => ⟨μ', h1, h2, h3⟩)
    exact ⟨μ', a', w', h1, HR.lift H hfl h3 h2, h3.ext.next, fun _ => ⟨h3.ext.next, fun id hid => (h3.low id hid).1⟩⟩

end
end Go.Proofs.YtpaffoiiipgkeaaDoor.Ab
