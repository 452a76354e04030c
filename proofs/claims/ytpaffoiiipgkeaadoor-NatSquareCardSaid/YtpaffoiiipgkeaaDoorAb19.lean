/- From a row's data to the abstract heap: what the arguments hold is laid out, block by block. -/
import Derived.Test.YtpaffoiiipgkeaaDoorAb18
import Derived.OpenShut
import Derived.ChangeArms
namespace Go.Proofs.YtpaffoiiipgkeaaDoor.Ab
open Go.RowKit
set_option linter.unusedVariables false
set_option linter.unusedSimpArgs false

/-- Cells, in the abstract heap, that hold a row's data. -/
inductive Lies {H : Type} (P : Program) (A : Hp) : TypeId → List Value → DataW H → Prop
  | bool {t : TypeId} (ht : P.underlying t = some .bool) (b : Bool) : Lies P A t [.bool b] (.lit (.bool b))
  | int {t : TypeId} {k : IntKind} (ht : P.underlying t = some (.int k)) (n : Int) (hw : (Lit.int k n).wf = true) : Lies P A t [.int k n] (.lit (.int k n))
  | str {t : TypeId} (ht : P.underlying t = some .string) (s : ByteArray) (hs : s.size ≤ maxLen) : Lies P A t [.string s] (.lit (.string s.data.toList))
  | nil {t e : TypeId} (ht : P.underlying t = some (.slice e)) : Lies P A t [.slice none 0 0] .nil
  | sl {t e : TypeId} {v : Value} {css : List (List Value)} {ds rest : List (DataW H)} (ht : P.underlying t = some (.slice e)) (hs : Sl A (P.cellsOf e) v css) (hl : css.length = ds.length) (hm : css.length ≤ maxLen)
      (h : ∀ (i : Nat) (c : List Value) (d : DataW H), css[i]? = some c → ds[i]? = some d → Lies P A e c d) : Lies P A t [v] (.slice ds rest)
  | st {t : TypeId} {fs : Array Field} {cs : List Value} {ds : List (DataW H)} (ht : P.underlying t = some (.struct fs)) (hl : ds.length = fs.size) (hc : cs.length = P.cellsOf t)
      (h : ∀ (i : Nat) (f : Field) (d : DataW H), fs[i]? = some f → ds[i]? = some d → Lies P A f.type ((cs.drop f.offset).take (P.cellsOf f.type)) d) : Lies P A t cs (.agg ds)

section
variable {H : Type} {P : Program} {A : Hp} {t : TypeId} {cs : List Value} {d : DataW H}
theorem Lies.bool_inv (ht : P.underlying t = some .bool) (h : Lies P A t cs d) : ∃ b, cs = [.bool b] ∧ d = .lit (.bool b) := by
  cases h with
  | bool _ b => exact ⟨b, rfl, rfl⟩
  | int h => rw [ht] at h; cases h
  | str h => rw [ht] at h; cases h
  | nil h => rw [ht] at h; cases h
  | sl h => rw [ht] at h; cases h
  | st h => rw [ht] at h; cases h
theorem Lies.int_inv {k : IntKind} (ht : P.underlying t = some (.int k)) (h : Lies P A t cs d) : ∃ n, cs = [.int k n] ∧ d = .lit (.int k n) ∧ (Lit.int k n).wf = true := by
  cases h with
  | bool h b => rw [ht] at h; cases h
  | int h n hw => rw [ht] at h; cases h; exact ⟨n, rfl, rfl, hw⟩
  | str h => rw [ht] at h; cases h
  | nil h => rw [ht] at h; cases h
  | sl h => rw [ht] at h; cases h
  | st h => rw [ht] at h; cases h
theorem Lies.str_inv (ht : P.underlying t = some .string) (h : Lies P A t cs d) : ∃ s : ByteArray, cs = [.string s] ∧ d = .lit (.string s.data.toList) ∧ s.size ≤ maxLen := by
  cases h with
  | bool h b => rw [ht] at h; cases h
  | int h => rw [ht] at h; cases h
  | str h s hs => exact ⟨s, rfl, rfl, hs⟩
  | nil h => rw [ht] at h; cases h
  | sl h => rw [ht] at h; cases h
  | st h => rw [ht] at h; cases h
/-- A slice: its elements' cells. -/
theorem Lies.slice_inv {e : TypeId} (ht : P.underlying t = some (.slice e)) (h : Lies P A t cs d) : ∃ v css, cs = [v] ∧ Sl A (P.cellsOf e) v css ∧ css.length ≤ maxLen ∧ ∀ c ∈ css, ∃ d : DataW H, Lies P A e c d := by
  cases h with
  | bool h b => rw [ht] at h; cases h
  | int h => rw [ht] at h; cases h
  | str h s hs => rw [ht] at h; cases h
  | nil h => exact ⟨_, [], rfl, ⟨by simp, .inl ⟨rfl, rfl⟩⟩, by simp, by simp⟩
  | @sl t e2 v css ds rest h hs hl hm hh =>
    rw [ht] at h; cases h
    refine ⟨v, css, rfl, hs, hm, fun c hc => ?_⟩
    obtain ⟨i, hi⟩ := List.getElem?_of_mem hc
    have : i < ds.length := by have := (List.getElem?_eq_some_iff.1 hi).1; omega
    exact ⟨_, hh i c _ hi (List.getElem?_eq_getElem this)⟩
  | st h => rw [ht] at h; cases h
theorem Lies.struct_inv {fs : Array Field} (ht : P.underlying t = some (.struct fs)) (h : Lies P A t cs d) : cs.length = P.cellsOf t ∧ ∀ (i : Nat) (f : Field), fs[i]? = some f → ∃ d : DataW H, Lies P A f.type ((cs.drop f.offset).take (P.cellsOf f.type)) d := by
  cases h with
  | bool h b => rw [ht] at h; cases h
  | int h => rw [ht] at h; cases h
  | str h s hs => rw [ht] at h; cases h
  | nil h => rw [ht] at h; cases h
  | sl h => rw [ht] at h; cases h
  | @st t fs2 cs ds h hl hc hh =>
    rw [ht] at h; cases h
    refine ⟨hc, fun i f hf => ?_⟩
    have hi : i < fs.size := (Array.getElem?_eq_some_iff.1 hf).1
    exact ⟨_, hh i f _ hf (List.getElem?_eq_getElem (show i < ds.length by omega))⟩

/-- B has all of A, and lies alike. -/
structure Grown (μ : Mu) (A : Hp) (ν : Mu) (B : Hp) : Prop where
  next : A.next ≤ B.next
  blk : ∀ id, id < A.next → B.blk id = A.blk id
  mu : ∀ id, id < A.next → ν id = μ id
theorem Grown.refl (μ : Mu) (A : Hp) : Grown μ A μ A := ⟨Nat.le_refl _, fun _ _ => rfl, fun _ _ => rfl⟩
theorem Grown.trans {μ ν ξ : Mu} {A B C : Hp} (h : Grown μ A ν B) (k : Grown ν B ξ C) : Grown μ A ξ C :=
  ⟨Nat.le_trans h.next k.next, fun id hi => (k.blk id (Nat.lt_of_lt_of_le hi h.next)).trans (h.blk id hi), fun id hi => (k.mu id (Nat.lt_of_lt_of_le hi h.next)).trans (h.mu id hi)⟩
theorem Grown.ext {μ ν : Mu} {A B : Hp} (h : Grown μ A ν B) : Ext μ A ν B :=
  ⟨h.next, fun id hi cs g e hb => ⟨cs, g, e, by rw [← h.blk id hi]; exact hb, .inl ⟨rfl, rfl, fun p hp => by rw [h.mu id hi]; exact hp⟩⟩⟩
theorem Sl.grown {μ ν : Mu} {A B : Hp} (h : Grown μ A ν B) (hw : ∀ id, A.next ≤ id → A.blk id = none) {sz : Nat} {v : Value} {css : List (List Value)} (k : Sl A sz v css) : Sl B sz v css := by
  refine k.keep h.next fun a n c e => h.blk _ ?_
  rcases k.2 with ⟨h1, _⟩ | ⟨a, g, h1, h2, h3, h4, h5⟩ | ⟨a, n, c, g, ds, h1, hn, hg, hb, hr⟩
  · rw [e] at h1; cases h1
  · rw [e] at h1; cases h1; exact h4
  · rw [e] at h1; cases h1
    rcases Nat.lt_or_ge a.block A.next with hl | hl
    · exact hl
    · rw [hw _ hl] at hb; cases hb
theorem Lies.grown {μ ν : Mu} {A B : Hp} (hg : Grown μ A ν B) (hw : ∀ id, A.next ≤ id → A.blk id = none) {t : TypeId} {cs : List Value} {d : DataW H} (h : Lies P A t cs d) : Lies P B t cs d := by
  induction h with
  | bool ht b => exact .bool ht b
  | int ht n hw => exact .int ht n hw
  | str ht s hs => exact .str ht s hs
  | nil ht => exact .nil ht
  | sl ht hs hl hm h ih => exact .sl ht (hs.grown hg hw) hl hm ih
  | st ht hl hc h ih => exact .st ht hl hc ih
end
end Go.Proofs.YtpaffoiiipgkeaaDoor.Ab
