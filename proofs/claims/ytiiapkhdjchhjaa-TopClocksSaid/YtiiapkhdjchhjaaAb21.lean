/- From a row's data to the abstract heap: what the arguments hold is laid out, block by block. -/
import Derived.Test.YtiiapkhdjchhjaaAb18
import Derived.OpenShut
import Derived.ChangeArms
namespace Go.Proofs.Ytiiapkhdjchhjaa.Ab
open Go.RowKit
set_option linter.unusedVariables false
set_option linter.unusedSimpArgs false

/-- Cells, in the abstract heap, that hold a row's data. -/
inductive Lies {H : Type} (P : Program) (A : Hp) : TypeId → List Value → DataW H → Prop
  | bool {t : TypeId} (ht : P.underlying t = some .bool) (b : Bool) : Lies P A t [.bool b] (.lit (.bool b))
  | int {t : TypeId} {k : IntKind} (ht : P.underlying t = some (.int k)) (n : Int) (hw : (Lit.int k n).wf = true) : Lies P A t [.int k n] (.lit (.int k n))
  | str {t : TypeId} (ht : P.underlying t = some .string) (s : ByteArray) (hs : s.size ≤ maxLen) : Lies P A t [.string s] (.lit (.string s.data.toList))
  | nil {t e : TypeId} (ht : P.underlying t = some (.slice e)) : Lies P A t [.slice none 0 0] .nil
  | sl {t e : TypeId} {v : Value} {css : List (List Value)} {ds rest : List (DataW H)} (ht : P.underlying t = some (.slice e)) (hs : Sl A (P.cellsOf e) v css) (hl : css.length = ds.length) (hm : css.length ≤ maxLen)
      (h : ∀ (i : Nat) (c : List Value) (d : DataW H), css[i]? = some c → ds[i]? = some d → Lies P A e c d) : Lies P A t [v] (.slice ds rest)
  | st {t : TypeId} {fs : Array Field} {cs : List Value} {ds : List (DataW H)} (ht : P.underlying t = some (.struct fs)) (hl : ds.length = fs.size) (hc : cs.length = P.cellsOf t)
      (h : ∀ (i : Nat) (f : Field) (d : DataW H), fs[i]? = some f → ds[i]? = some d → Lies P A f.type ((cs.drop f.offset).take (P.cellsOf f.type)) d) : Lies P A t cs (.agg ds)

section
variable {H : Type} {P : Program} {A : Hp} {t : TypeId} {cs : List Value} {d : DataW H}
theorem Lies.bool_inv (ht : P.underlying t = some .bool) (h : Lies P A t cs d) : ∃ b, cs = [.bool b] ∧ d = .lit (.bool b) := by
  cases h with
  | bool _ b => exact ⟨b, rfl, rfl⟩
  | int h => rw [ht] at h; cases h
  | str h => rw [ht] at h; cases h
  | nil h => rw [ht] at h; cases h
  | sl h => rw [ht] at h; cases h
  | st h => rw [ht] at h; cases h
theorem Lies.int_inv {k : IntKind} (ht : P.underlying t = some (.int k)) (h : Lies P A t cs d) : ∃ n, cs = [.int k n] ∧ d = .lit (.int k n) ∧ (Lit.int k n).wf = true := by
  cases h with
  | bool h b => rw [ht] at h; cases h
  | int h n hw => rw [ht] at h; cases h; exact ⟨n, rfl, rfl, hw⟩
  | str h => rw [ht] at h; cases h
  | nil h => rw [ht] at h; cases h
  | sl h => rw [ht] at h; cases h
  | st h => rw [ht] at h; cases h
theorem Lies.str_inv (ht : P.underlying t = some .string) (h : Lies P A t cs d) : ∃ s : ByteArray, cs = [.string s] ∧ d = .lit (.string s.data.toList) ∧ s.size ≤ maxLen := by
  cases h with
  | bool h b => rw [ht] at h; cases h
  | int h => rw [ht] at h; cases h
  | str h s hs => exact ⟨s, rfl, rfl, hs⟩
  | nil h => rw [ht] at h; cases h
  | sl h => rw [ht] at h; cases h
  | st h => rw [ht] at h; cases h
/-- A slice: its elements' cells. -/
theorem Lies.slice_inv {e : TypeId} (ht : P.underlying t = some (.slice e)) (h : Lies P A t cs d) : ∃ v css, cs = [v] ∧ Sl A (P.cellsOf e) v css ∧ css.length ≤ maxLen ∧ ∀ c ∈ css, ∃ d : DataW H, Lies P A e c d := by
  cases h with
  | bool h b => rw [ht] at h; cases h
  | int h => rw [ht] at h; cases h
  | str h s hs => rw [ht] at h; cases h
  | nil h => exact ⟨_, [], rfl, ⟨by simp, .inl ⟨rfl, rfl⟩⟩, by simp, by simp⟩
  | @sl t e2 v css ds rest h hs hl hm hh =>
    rw [ht] at h; cases h
    refine ⟨v, css, rfl, hs, hm, fun c hc => ?_⟩
    obtain ⟨i, hi⟩ := List.getElem?_of_mem hc
    have : i < ds.length := by have := (List.getElem?_eq_some_iff.1 hi).1; omega
    exact ⟨_, hh i c _ hi (List.getElem?_eq_getElem this)⟩
  | st h => rw [ht] at h; cases h
theorem Lies.struct_inv {fs : Array Field} (ht : P.underlying t = some (.struct fs)) (h : Lies P A t cs d) : cs.length = P.cellsOf t ∧ ∀ (i : Nat) (f : Field), fs[i]? = some f → ∃ d : DataW H, Lies P A f.type ((cs.drop f.offset).take (P.cellsOf f.type)) d := by
  cases h with
  | bool h b => rw [ht] at h; cases h
  | int h => rw [ht] at h; cases h
  | str h s hs => rw [ht] at h; cases h
  | nil h => rw [ht] at h; cases h
  | sl h => rw [ht] at h; cases h
  | @st t fs2 cs ds h hl hc hh =>
    rw [ht] at h; cases h
    refine ⟨hc, fun i f hf => ?_⟩
    have hi : i < fs.size := (Array.getElem?_eq_some_iff.1 hf).1
    exact ⟨_, hh i f _ hf (List.getElem?_eq_getElem (show i < ds.length by omega))⟩

/-- B has all of A, and lies alike. -/
structure Grown (μ : Mu) (A : Hp) (ν : Mu) (B : Hp) : Prop where
  next : A.next ≤ B.next
  blk : ∀ id, id < A.next → B.blk id = A.blk id
  mu : ∀ id, id < A.next → ν id = μ id
theorem Grown.refl (μ : Mu) (A : Hp) : Grown μ A μ A := ⟨Nat.le_refl _, fun _ _ => rfl, fun _ _ => rfl⟩
theorem Grown.trans {μ ν ξ : Mu} {A B C : Hp} (h : Grown μ A ν B) (k : Grown ν B ξ C) : Grown μ A ξ C :=
  ⟨Nat.le_trans h.next k.next, fun id hi => (k.blk id (Nat.lt_of_lt_of_le hi h.next)).trans (h.blk id hi), fun id hi => (k.mu id (Nat.lt_of_lt_of_le hi h.next)).trans (h.mu id hi)⟩
theorem Grown.ext {μ ν : Mu} {A B : Hp} (h : Grown μ A ν B) : Ext μ A ν B :=
  ⟨h.next, fun id hi cs g e hb => ⟨cs, g, e, by rw [← h.blk id hi]; exact hb, .inl ⟨rfl, rfl, fun p hp => by rw [h.mu id hi]; exact hp⟩⟩,
    fun id hi k hb ho => ⟨⟨k, by rw [← h.blk id hi]; exact hb, ho⟩, fun p hp => by rw [h.mu id hi]; exact hp⟩⟩
theorem Sl.grown {μ ν : Mu} {A B : Hp} (h : Grown μ A ν B) (hw : ∀ id, A.next ≤ id → A.blk id = none) {sz : Nat} {v : Value} {css : List (List Value)} (k : Sl A sz v css) : Sl B sz v css := by
  refine k.keep h.next fun a n c e => h.blk _ ?_
  rcases k.2 with ⟨h1, _⟩ | ⟨a, g, h1, h2, h3, h4, h5⟩ | ⟨a, n, c, g, ds, h1, hn, hg, hb, hr⟩
  · rw [e] at h1; cases h1
  · rw [e] at h1; cases h1; exact h4
  · rw [e] at h1; cases h1
    rcases Nat.lt_or_ge a.block A.next with hl | hl
    · exact hl
    · rw [hw _ hl] at hb; cases hb
theorem Lies.grown {μ ν : Mu} {A B : Hp} (hg : Grown μ A ν B) (hw : ∀ id, A.next ≤ id → A.blk id = none) {t : TypeId} {cs : List Value} {d : DataW H} (h : Lies P A t cs d) : Lies P B t cs d := by
  induction h with
  | bool ht b => exact .bool ht b
  | int ht n hw => exact .int ht n hw
  | str ht s hs => exact .str ht s hs
  | nil ht => exact .nil ht
  | sl ht hs hl hm h ih => exact .sl ht (hs.grown hg hw) hl hm ih
  | st ht hl hc h ih => exact .st ht hl hc ih
end
end Go.Proofs.Ytiiapkhdjchhjaa.Ab

/- The heap that arguments lie in. -/
namespace Go.Proofs.Ytiiapkhdjchhjaa.Ab
open Go.RowKit
set_option linter.unusedVariables false
set_option linter.unusedSimpArgs false

/-- Cells that agree. -/
def CellsR (ν : Mu) (B : Hp) (vs cs : List Value) : Prop := vs.length = cs.length ∧ ∀ (i : Nat) (v v' : Value), vs[i]? = some v → cs[i]? = some v' → VR ν B v v'
theorem CellsR.mono {ν ξ : Mu} {B C : Hp} (E : Ext ν B ξ C) {vs cs : List Value} (h : CellsR ν B vs cs) : CellsR ξ C vs cs := ⟨h.1, fun i v v' h1 h2 => (h.2 i v v' h1 h2).mono E⟩
theorem CellsR.one {ν : Mu} {B : Hp} {v v' : Value} (h : VR ν B v v') : CellsR ν B [v] [v'] :=
  ⟨rfl, fun i x x' h1 h2 => by
    cases i with
    | zero => simp only [List.getElem?_cons_zero, Option.some.injEq] at h1 h2; subst h1; subst h2; exact h
    | succ i => simp at h1⟩

/-- Types whose data can be laid out so. -/
def laidSt (P : Program) : List Field → Nat → Nat → Bool
  | [], o, sz => o == sz
  | f :: fs, o, sz => f.offset == o && laidSt P fs (o + P.cellsOf f.type) sz
def okTy (P : Program) : Nat → TypeId → Bool
  | 0, _ => false
  | n + 1, t => match P.underlying t with
    | some .bool | some (.int _) | some .string => true
    | some (.slice e) => decide (0 < P.cellsOf e) && okTy P n e
    | some (.struct fs) => fs.toList.all (fun f => okTy P n f.type) && laidSt P fs.toList 0 (P.cellsOf t)
    | _ => false

theorem cell_plain {w : World} {a : Addr} {v : Value} (h : w.cell? a = some v) : a.spot = none ∧ ∃ c t fr, w.heap[a.block]? = some (.cells c t fr) ∧ c[a.off]? = some v := by
  unfold World.cell? at h
  split at h
  · rename_i c t fr hb
    split at h
    · cases h
    · rename_i hs
      refine ⟨by simpa using hs, c, t, fr, hb, h⟩
  · cases h
theorem add_plain {a : Addr} (h : a.spot = none) (n : Nat) : a.add n = ⟨a.block, a.off + n, none⟩ := by
  obtain ⟨b, o, s⟩ := a
  cases h
  unfold Addr.add
  split <;> simp_all

section
variable {H : Type} {enc : TypeId × Value → H} {P : Program} {G : Gl} {W : World}

/-- What opening some cells gives. -/
def Opens (P : Program) (G : Gl) (W : World) (q : TypeId × List Value × DataW H) : Prop :=
  ∀ (μ : Mu) (A : Hp), HR G μ A.next A W → ∃ (ν : Mu) (B : Hp) (vs : List Value), Grown μ A ν B ∧ HR G ν B.next B W ∧ CellsR ν B vs q.2.1 ∧ Lies P B q.1 vs q.2.2

theorem open_each : ∀ (I : List (TypeId × List Value × DataW H)), (∀ q ∈ I, Opens P G W q) → ∀ (μ : Mu) (A : Hp), HR G μ A.next A W →
    ∃ (ν : Mu) (B : Hp) (vss : List (List Value)), Grown μ A ν B ∧ HR G ν B.next B W ∧ vss.length = I.length ∧ ∀ (i : Nat) (q : TypeId × List Value × DataW H) (vs : List Value), I[i]? = some q → vss[i]? = some vs → CellsR ν B vs q.2.1 ∧ Lies P B q.1 vs q.2.2
  | [], _, μ, A, HA => ⟨μ, A, [], Grown.refl _ _, HA, rfl, fun i q vs h => by simp at h⟩
  | p :: I, hI, μ, A, HA => by
    obtain ⟨ν, B, vs, g1, H1, c1, l1⟩ := hI p (by simp) μ A HA
    obtain ⟨ξ, C, vss, g2, H2, e2, r2⟩ := open_each I (fun q hq => hI q (by simp [hq])) ν B H1
    refine ⟨ξ, C, vs :: vss, g1.trans g2, H2, by simp [e2], fun i q us hq hu => ?_⟩
    cases i with
    | zero =>
      simp only [List.getElem?_cons_zero, Option.some.injEq] at hq hu
      subst hq; subst hu
      exact ⟨c1.mono g2.ext, l1.grown g2 H1.wf⟩
    | succ i => exact r2 i q us (by simpa using hq) (by simpa using hu)

theorem flatten_length {sz : Nat} : ∀ {css : List (List Value)}, (∀ c ∈ css, c.length = sz) → css.flatten.length = css.length * sz
  | [], _ => by simp
  | c :: cs, h => by
    rw [List.flatten_cons, List.length_append, h c (by simp), flatten_length fun d hd => h d (by simp [hd]), List.length_cons, Nat.succ_mul]; omega
theorem flatten_split {sz : Nat} (hs : 0 < sz) {css : List (List Value)} (h : ∀ c ∈ css, c.length = sz) {k : Nat} {v : Value} (hv : css.flatten[k]? = some v) : ∃ c, css[k / sz]? = some c ∧ c[k % sz]? = some v := by
  have hk : k < css.length * sz := by rw [← flatten_length h]; exact (List.getElem?_eq_some_iff.1 hv).1
  have hi : k / sz < css.length := by rw [Nat.div_lt_iff_lt_mul hs]; exact hk
  refine ⟨css[k / sz], List.getElem?_eq_getElem hi, ?_⟩
  have hl : (css[k / sz]).length = sz := h _ (List.getElem_mem _)
  have hj : k % sz < (css[k / sz]).length := by rw [hl]; exact Nat.mod_lt _ hs
  have := flatten_get h (List.getElem?_eq_getElem hi) (List.getElem?_eq_getElem hj)
  rw [show k / sz * sz + k % sz = k by rw [Nat.mul_comm]; exact Nat.div_add_mod k sz] at this
  rw [List.getElem?_eq_getElem hj, ← this, hv]

/-- A row of the world's, as a block. -/
theorem HR.addRow {μ : Mu} {A : Hp} (HA : HR G μ A.next A W) {cs : List Value} {e b o : Nat} {c : Array Value} {t : TypeId} {fr : Nat × Nat} (hb : W.heap[b]? = some (.cells c t fr)) (hsz : o + cs.length ≤ c.size)
    (hc : ∀ j v, cs[j]? = some v → ∃ v', c[o + j]? = some v' ∧ VR μ A v v') :
    Grown μ A (μ.add A.next (b, o, c.size)) (A.push (.row cs 0 e)) ∧ HR G (μ.add A.next (b, o, c.size)) (A.push (.row cs 0 e)).next (A.push (.row cs 0 e)) W := by
  have hg : Grown μ A (μ.add A.next (b, o, c.size)) (A.push (.row cs 0 e)) :=
    ⟨by rw [Hp.push_next]; omega, fun id hid => by rw [Hp.push_blk, if_neg (by omega)], fun id hid => by simp only [Mu.add]; rw [if_neg (by omega)]⟩
  have none' : ∀ id, A.next + 1 ≤ id → (A.push (.row cs 0 e)).blk id = none := fun id hid => by rw [Hp.push_blk, if_neg (by omega)]; exact HA.wf id (by omega)
  refine ⟨hg, ⟨fun id hid => none' id hid, fun id ds g e' hd v hv => ?_, fun id ds g e' b' o' S hd hm => ?_, fun id ds g e' b' o' S hf hd => ?_, fun id id' b' o' S b2 o2 S2 hne hf hd => ?_, HA.glob, fun g ds id b' o' S hg hf hd => ?_, fun id k hd => ?_, fun id k b' o' S hd ho hm => ?_⟩⟩
  · rw [Hp.push_blk] at hd
    split at hd
    · cases hd
      obtain ⟨j, hj⟩ := List.mem_iff_getElem?.1 hv
      obtain ⟨v', _, hvr⟩ := hc j v hj
      exact (hvr.mono hg.ext).rb
    · exact (HA.refs id ds g e' hd v hv).mono (by rw [Hp.push_next]; omega)
  · rw [Hp.push_blk] at hd
    split at hd
    · rename_i hid
      cases hd
      simp only [Mu.add, hid, if_true, Option.some.injEq, Prod.mk.injEq] at hm
      obtain ⟨rfl, rfl, rfl⟩ := hm
      refine ⟨c, t, fr, hb, rfl, hsz, fun j v hj => ?_⟩
      obtain ⟨v', h1, h2⟩ := hc j v hj
      exact ⟨v', h1, h2.mono hg.ext⟩
    · rename_i hid
      simp only [Mu.add, if_neg hid] at hm
      obtain ⟨c', t', fr', h1, h2, h3, h4⟩ := HA.row id ds g e' b' o' S hd hm
      refine ⟨c', t', fr', h1, h2, h3, fun j v hj => ?_⟩
      obtain ⟨v', h5, h6⟩ := h4 j v hj
      exact ⟨v', h5, h6.mono hg.ext⟩
  · rw [none' id hf] at hd; cases hd
  · exact absurd (none' id hf) hd
  · exact absurd (none' id hf) hd
  · rw [Hp.push_blk] at hd
    split at hd
    · cases hd; exact trivial
    · exact (HA.orefs id k hd).mono (by simp)
  · rw [Hp.push_blk] at hd
    split at hd
    · cases hd; cases ho
    · rename_i hid
      simp only [Mu.add, if_neg hid] at hm
      obtain ⟨ob, h1, h2⟩ := HA.obj id k b' o' S hd ho hm
      exact ⟨ob, h1, h2.mono hg.ext⟩
/-- A number for nothing. -/
theorem HR.skip {μ : Mu} {A : Hp} (HA : HR G μ A.next A W) : Grown μ A μ ⟨A.next + 1, A.blk⟩ ∧ HR G μ (A.next + 1) ⟨A.next + 1, A.blk⟩ W := by
  have hg : Grown μ A μ ⟨A.next + 1, A.blk⟩ := ⟨Nat.le_succ _, fun _ _ => rfl, fun _ _ => rfl⟩
  refine ⟨hg, ⟨fun id hid => HA.wf id (by simp only at hid; omega), fun id ds g e' hd v hv => (HA.refs id ds g e' hd v hv).mono (Nat.le_succ _), fun id ds g e' b' o' S hd hm => ?_, fun id ds g e' b' o' S hf hd => ?_, fun id id' b' o' S b2 o2 S2 hne hf hd => ?_, HA.glob, fun g ds id b' o' S hg hf hd => ?_, fun id k hd => (HA.orefs id k hd).mono (Nat.le_succ _), fun id k b' o' S hd ho hm => ?_⟩⟩
  · obtain ⟨c', t', fr', h1, h2, h3, h4⟩ := HA.row id ds g e' b' o' S hd hm
    refine ⟨c', t', fr', h1, h2, h3, fun j v hj => ?_⟩
    obtain ⟨v', h5, h6⟩ := h4 j v hj
    exact ⟨v', h5, h6.mono hg.ext⟩
  · rw [HA.wf id (by omega)] at hd; cases hd
  · exact absurd (HA.wf id (by omega)) hd
  · exact absurd (HA.wf id (by omega)) hd
  · obtain ⟨ob, h1, h2⟩ := HA.obj id k b' o' S hd ho hm
    exact ⟨ob, h1, h2.mono hg.ext⟩

theorem laidSt_le : ∀ {fs : List Field} {o sz : Nat}, laidSt P fs o sz = true → o ≤ sz
  | [], o, sz, h => by simp [laidSt] at h; omega
  | f :: fs, o, sz, h => by
    simp only [laidSt, Bool.and_eq_true] at h
    have := laidSt_le h.2
    omega
theorem laidSt_off : ∀ {fs : List Field} {o sz : Nat}, laidSt P fs o sz = true → ∀ (i : Nat) (f : Field), fs[i]? = some f → o ≤ f.offset
  | [], o, sz, h, i, f, hf => by simp at hf
  | g :: fs, o, sz, h, i, f, hf => by
    simp only [laidSt, Bool.and_eq_true, beq_iff_eq] at h
    cases i with
    | zero => simp only [List.getElem?_cons_zero, Option.some.injEq] at hf; subst hf; omega
    | succ i => have := laidSt_off h.2 i f (by simpa using hf); omega

/-- A struct's fields, one behind the other. -/
theorem open_fields (cut : Field → List Value) : ∀ (fs : List Field) (xs : List (DataW H × List MemPlace)) (o sz : Nat) (cs : List Value), laidSt P fs o sz = true → cs.length = sz → fs.length = xs.length →
    (∀ (i : Nat) (f : Field) (y : DataW H × List MemPlace), fs[i]? = some f → xs[i]? = some y → Opens P G W (f.type, cut f, y.1)) → (∀ f ∈ fs, cut f = (cs.drop f.offset).take (P.cellsOf f.type)) → ∀ (μ : Mu) (A : Hp), HR G μ A.next A W →
    ∃ (ν : Mu) (B : Hp) (vs : List Value), Grown μ A ν B ∧ HR G ν B.next B W ∧ CellsR ν B vs (cs.drop o) ∧
      ∀ (i : Nat) (f : Field) (y : DataW H × List MemPlace), fs[i]? = some f → xs[i]? = some y → Lies P B f.type ((vs.drop (f.offset - o)).take (P.cellsOf f.type)) y.1 := by
  intro fs
  induction fs with
  | nil =>
    intro xs o sz cs hlaid hcs hlen _ _ μ A HA
    simp only [laidSt, beq_iff_eq] at hlaid
    refine ⟨μ, A, [], Grown.refl _ _, HA, ⟨by simp; omega, fun i v v' h => by simp at h⟩, fun i f y h => by simp at h⟩
  | cons f fs ih =>
    intro xs o sz cs hlaid hcs hlen hI hcut μ A HA
    cases xs with
    | nil => simp at hlen
    | cons y xs =>
      simp only [laidSt, Bool.and_eq_true, beq_iff_eq] at hlaid
      obtain ⟨hoff, hlaid⟩ := hlaid
      have hle := laidSt_le hlaid
      obtain ⟨ν, B, vs, g1, H1, c1, l1⟩ := hI 0 f y rfl rfl μ A HA
      obtain ⟨ξ, C, us, g2, H2, c2, r2⟩ := ih xs (o + P.cellsOf f.type) sz cs hlaid hcs (by simpa using hlen) (fun i f' y' h1 h2 => hI (i + 1) f' y' (by simpa using h1) (by simpa using h2)) (fun f' hf' => hcut f' (by simp [hf'])) ν B H1
      have hcf := hcut f (by simp)
      rw [hoff] at hcf
      simp only at c1 l1
      rw [hcf] at c1
      have hvl : vs.length = P.cellsOf f.type := by rw [c1.1]; simp; omega
      refine ⟨ξ, C, vs ++ us, g1.trans g2, H2, ⟨?_, fun i v v' hv hv' => ?_⟩, fun i f' y' hf' hy' => ?_⟩
      · rw [List.length_append, hvl, c2.1]; simp; omega
      · have hd : cs.drop o = (cs.drop o).take (P.cellsOf f.type) ++ cs.drop (o + P.cellsOf f.type) := by
          rw [← List.drop_drop]; exact (List.take_append_drop _ _).symm
        rw [hd] at hv'
        by_cases hi : i < P.cellsOf f.type
        · rw [List.getElem?_append_left (by omega)] at hv
          rw [List.getElem?_append_left (by rw [← c1.1]; omega)] at hv'
          exact ((c1.mono g2.ext).2 i v v' hv hv')
        · rw [List.getElem?_append_right (by omega)] at hv
          rw [List.getElem?_append_right (by rw [← c1.1]; omega), ← c1.1] at hv'
          exact c2.2 _ v v' hv hv'
      · cases i with
        | zero =>
          simp only [List.getElem?_cons_zero, Option.some.injEq] at hf' hy'
          subst hf'; subst hy'
          rw [hoff, Nat.sub_self, List.drop_zero, List.take_left' hvl]
          exact l1.grown g2 H1.wf
        | succ i =>
          have := r2 i f' y' (by simpa using hf') (by simpa using hy')
          have ho := laidSt_off hlaid i f' (by simpa using hf')
          have e : (vs ++ us).drop (f'.offset - o) = us.drop (f'.offset - (o + P.cellsOf f.type)) := by
            rw [show f'.offset - o = vs.length + (f'.offset - (o + P.cellsOf f.type)) by omega, List.drop_append, List.drop_of_length_le (by omega), Nat.add_sub_cancel_left, List.nil_append]
          rw [e]; exact this

theorem open_cells : ∀ (n : Nat) (t : TypeId), okTy P n t = true → ∀ (fuel : Nat) (cs : List Value) (x : DataW H × List MemPlace), DataW.trod enc P W 0 (fun _ => true) true fuel t cs = some x → Opens P G W (t, cs, x.1)
  | 0, t, h, _, _, _, _ => by simp [okTy] at h
  | n + 1, t, h, fuel, cs, x, hx => by
    intro μ A HA
    rw [okTy] at h
    split at h
    · rename_i ht
      obtain ⟨b, rfl, rfl⟩ := DataW.trod_bool ht hx
      exact ⟨μ, A, [.bool b], Grown.refl _ _, HA, .one (.bool b), .bool ht b⟩
    · rename_i k ht
      obtain ⟨m, rfl, rfl, hw⟩ := DataW.trod_int ht hx
      exact ⟨μ, A, [.int k m], Grown.refl _ _, HA, .one (.int k m), .int ht m hw⟩
    · rename_i ht
      obtain ⟨s, rfl, rfl, hs⟩ := DataW.trod_string ht hx
      exact ⟨μ, A, [.string s], Grown.refl _ _, HA, .one (.string s), .str ht s hs⟩
    · rename_i e ht
      simp only [Bool.and_eq_true, decide_eq_true_eq] at h
      obtain ⟨hsz, hok⟩ := h
      generalize hszd : P.cellsOf e = sz at hsz
      rcases DataW.trod_slice ht hx with ⟨rfl, rfl⟩ | ⟨a, len, cap, elems, rest, m, rfl, rfl, rfl, -, hlc, hcm, hel, he, hsp, -⟩
      · exact ⟨μ, A, [.slice none 0 0], Grown.refl _ _, HA, .one (.sl0 0 0), .nil ht⟩
      rw [hszd] at he hsp
      have hread : ∀ i, i < cap → ∃ ds, W.cells? 0 (a.add (i * sz)) sz = some ds := by
        intro i hi
        by_cases hil : i < len
        · have := he i hil
          rw [List.getElem?_eq_getElem (by omega), Option.bind_eq_some_iff] at this
          obtain ⟨ds, h1, _⟩ := this
          exact ⟨ds, h1⟩
        · obtain ⟨hr1, hr2⟩ := hsp rfl
          have := hr2 (i - len) (by omega)
          rw [show len + (i - len) = i by omega, List.getElem?_eq_getElem (by omega), Option.bind_eq_some_iff] at this
          obtain ⟨ds, h1, _⟩ := this
          exact ⟨ds, h1⟩
      by_cases hcap : cap = 0
      · subst hcap
        obtain rfl : len = 0 := by omega
        obtain ⟨g1, H1⟩ := HR.skip HA
        refine ⟨μ, ⟨A.next + 1, A.blk⟩, [.slice (some ⟨A.next, 0, some 0⟩) 0 0], g1, H1, .one ?_, ?_⟩
        · refine .sl (by simp) (Nat.le_refl _) (Nat.le_refl _) ⟨0, rfl, fun cs g e hb => ?_⟩
          simp only at hb
          rw [HA.wf _ (Nat.le_refl _)] at hb; cases hb
        · obtain rfl : elems = [] := by cases elems <;> simp_all
          exact .sl (css := []) ht ⟨by simp, .inr (.inl ⟨_, 0, rfl, rfl, rfl, by simp, HA.wf _ (Nat.le_refl _)⟩)⟩ rfl (by simp) (fun i c d hi => by simp at hi)
      have hcp : 0 < cap := by omega
      obtain ⟨d0, hd0⟩ := hread 0 hcp
      obtain ⟨-, l0, r0⟩ := World.cells?_some hd0
      have r00 := r0 0 hsz
      rw [List.getElem?_eq_getElem (by omega)] at r00
      have hsp0 : a.spot = none := by
        have := (cell_plain r00).1
        simpa [Addr.add] using this
      have hadd : ∀ i j, (a.add i).add j = ⟨a.block, a.off + i + j, none⟩ := fun i j => by rw [add_plain hsp0, add_plain rfl]
      obtain ⟨-, c, ct, fr, hb, -⟩ := cell_plain r00
      rw [hadd] at hb
      simp only at hb
      have hcell : ∀ i j ds v, W.cells? 0 (a.add (i * sz)) sz = some ds → ds[j]? = some v → c[a.off + i * sz + j]? = some v := by
        intro i j ds v hds hv
        obtain ⟨-, l1, r1⟩ := World.cells?_some hds
        have hj : j < sz := by rw [← l1]; exact (List.getElem?_eq_some_iff.1 hv).1
        have := r1 j hj
        rw [hv, hadd] at this
        obtain ⟨-, c', t', fr', hb', hc'⟩ := cell_plain this
        simp only at hb' hc'
        rw [hb] at hb'; cases hb'
        exact hc'
      have hbound : a.off + cap * sz ≤ c.size := by
        obtain ⟨dl, hdl⟩ := hread (cap - 1) (by omega)
        obtain ⟨-, l1, r1⟩ := World.cells?_some hdl
        have := hcell (cap - 1) (sz - 1) dl _ hdl (List.getElem?_eq_getElem (by omega))
        have hlt := (Array.getElem?_eq_some_iff.1 this).1
        have : cap * sz = (cap - 1) * sz + sz := by rw [← Nat.succ_mul]; congr 1; omega
        omega
      let I : List (TypeId × List Value × DataW H) := (List.range len).map fun i => (e, (W.cells? 0 (a.add (i * sz)) sz).getD [], (elems[i]?.map (·.1)).getD .nil)
      have hIget : ∀ i, i < len → ∃ ds, W.cells? 0 (a.add (i * sz)) sz = some ds ∧ ∃ y, elems[i]? = some y ∧ DataW.trod enc P W 0 (fun _ => true) true m e ds = some y ∧ I[i]? = some (e, ds, y.1) := by
        intro i hi
        have := he i hi
        have hie : elems[i]? = some elems[i] := List.getElem?_eq_getElem (by omega)
        rw [hie, Option.bind_eq_some_iff] at this
        obtain ⟨ds, h1, h2⟩ := this
        exact ⟨ds, h1, _, hie, h2, by simp [I, hi, h1, hie]⟩
      have hlenI : I.length = len := by simp [I]
      obtain ⟨ν, B, css, g1, H1, e1, r1⟩ := open_each (P := P) (G := G) (W := W) I (fun q hq => by
        obtain ⟨i, hi⟩ := List.getElem?_of_mem hq
        have hil : i < len := by rw [← hlenI]; exact (List.getElem?_eq_some_iff.1 hi).1
        obtain ⟨ds, h1, y, h2, h3, h4⟩ := hIget i hil
        rw [h4] at hi; cases hi
        exact open_cells n e hok m ds y h3) μ A HA
      rw [hlenI] at e1
      have hcl : ∀ c' ∈ css, c'.length = sz := by
        intro c' hc'
        obtain ⟨i, hi⟩ := List.getElem?_of_mem hc'
        have hil : i < len := by rw [← e1]; exact (List.getElem?_eq_some_iff.1 hi).1
        obtain ⟨ds, h1, y, h2, h3, h4⟩ := hIget i hil
        rw [(r1 i _ _ h4 hi).1.1]
        exact (World.cells?_some h1).2.1
      have hfl := flatten_length hcl
      have hle : len * sz ≤ cap * sz := Nat.mul_le_mul_right _ hlc
      obtain ⟨g2, H2⟩ := H1.addRow (e := sz) (cs := css.flatten) (o := a.off) hb (by rw [hfl, e1]; omega) (fun k v hv => by
        obtain ⟨c', h1, h2⟩ := flatten_split hsz hcl hv
        have hil : k / sz < len := by rw [← e1]; exact (List.getElem?_eq_some_iff.1 h1).1
        obtain ⟨ds, q1, y, q2, q3, q4⟩ := hIget _ hil
        obtain ⟨cr, -⟩ := r1 _ _ _ q4 h1
        have hj : k % sz < ds.length := by rw [(World.cells?_some q1).2.1]; exact Nat.mod_lt _ hsz
        have hx := hcell _ _ ds _ q1 (List.getElem?_eq_getElem hj)
        rw [Nat.add_assoc, show k / sz * sz + k % sz = k by rw [Nat.mul_comm]; exact Nat.div_add_mod k sz] at hx
        exact ⟨_, hx, cr.2 _ _ _ h2 (List.getElem?_eq_getElem hj)⟩)
      refine ⟨_, _, [.slice (some ⟨B.next, 0, some 0⟩) len len], g1.trans g2, H2, .one ?_, ?_⟩
      · refine .sl (by simp) hlc hlc ⟨0, rfl, fun cs g e' hbb => ⟨Nat.zero_le _, fun _ => ⟨a.block, a.off, c.size, by simp [Mu.add], fun _ => ⟨?_, ?_⟩⟩⟩⟩
        · obtain ⟨ab, ao, as⟩ := a; simp only at hsp0 ⊢; subst hsp0; rfl
        · simp only [Hp.push_blk, if_true, Option.some.injEq, Blk.row.injEq] at hbb
          obtain ⟨-, -, rfl⟩ := hbb
          simpa using hbound
      · refine .sl (css := css) ht ⟨by rw [hszd]; exact hcl, .inr (.inr ⟨_, _, _, 0, css.flatten, rfl, e1, rfl, by rw [hszd]; simp [Hp.push_blk], fun j x hj => by simpa using hj⟩)⟩ (by simp [e1, hel]) (by omega) (fun i c' d hi hd => ?_)
        have hil : i < len := by rw [← e1]; exact (List.getElem?_eq_some_iff.1 hi).1
        obtain ⟨ds, q1, y, q2, q3, q4⟩ := hIget _ hil
        obtain ⟨-, hl⟩ := r1 _ _ _ q4 hi
        rw [List.getElem?_map, q2] at hd
        cases hd
        exact hl.grown g2 H1.wf
    · rename_i fs ht
      simp only [Bool.and_eq_true] at h
      obtain ⟨hok, hlaid⟩ := h
      obtain ⟨xs, m, rfl, rfl, hcl, hxl, hf⟩ := DataW.trod_struct ht hx
      have hfi : ∀ (i : Nat) (f : Field), fs.toList[i]? = some f → ∃ y, xs[i]? = some y ∧ DataW.trod enc P W 0 (fun _ => true) true m f.type ((cs.drop f.offset).take (P.cellsOf f.type)) = some y := by
        intro i f hif
        have hi : i < xs.length := by rw [hxl]; have := (List.getElem?_eq_some_iff.1 hif).1; simpa using this
        refine ⟨xs[i], List.getElem?_eq_getElem hi, ?_⟩
        rw [hf i f (by simpa using hif)]
        exact List.getElem?_eq_getElem hi
      obtain ⟨ν, B, vs, g1, H1, c1, r1⟩ := open_fields (P := P) (G := G) (W := W) (fun f => ((cs.drop f.offset).take (P.cellsOf f.type))) fs.toList xs 0 (P.cellsOf t) cs hlaid hcl (by simpa using hxl.symm)
        (fun i f y hif hy => by
          obtain ⟨y', h1, h2⟩ := hfi i f hif
          rw [hy] at h1; cases h1
          exact open_cells n f.type (List.all_eq_true.1 hok f (List.mem_of_getElem? hif)) m _ y h2) (fun f hf => rfl) μ A HA
      refine ⟨ν, B, vs, g1, H1, c1, .st ht (by simpa using hxl) (by rw [c1.1]; exact hcl) fun i f d hif hd => ?_⟩
      rw [List.getElem?_map] at hd
      obtain ⟨y, h1, h2⟩ := hfi i f (by simpa using hif)
      rw [h1] at hd; cases hd
      exact r1 i f y (by simpa using hif) h1
    · cases h

/-- The heap in which nothing is laid. -/
def Hp.bare : Hp := ⟨0, fun _ => none⟩
theorem HR.bare (hG : ∀ (g : Nat) (cs : List Value), G g = some cs → ∃ (c : Array Value) (t : TypeId) (fr : Nat × Nat), W.heap[g]? = some (.cells c t fr) ∧ ∀ (j : Nat) (v : Value), cs[j]? = some v → c[j]? = some v ∧ VR (fun _ => none) ⟨0, fun _ => none⟩ v v) :
    HR G (fun _ => none) Hp.bare.next Hp.bare W :=
  ⟨fun _ _ => rfl, fun id cs g e h => (by cases h), fun id cs g e b o S h => (by cases h), fun id cs g e b o S _ h => (by cases h), fun id id' b o S b' o' S' _ _ h => absurd rfl h, hG, fun g cs id b o S _ _ h => absurd rfl h, fun id k h => (by cases h), fun id k b o S h => (by cases h)⟩

/-- Values that agree, by their cells. -/
theorem VR.of_cells {μ : Mu} {A : Hp} {us : List Value} {v' : Value} (h : CellsR μ A us v'.cells.toList) {xs : Array Value} (hv : v' = .agg xs) : VR μ A (.agg us.toArray) v' := by
  subst hv
  refine .agg (by have := h.1; simpa [Value.cells] using this) fun i hi hi' => h.2 i _ _ (by simp) (by simp [Value.cells, hi'])
theorem VR.of_cell {μ : Mu} {A : Hp} {u v' : Value} (h : CellsR μ A [u] [v']) : VR μ A u v' := h.2 0 _ _ rfl rfl

/-- A call that nothing old has turned under. -/
theorem below_of_trans {μ ν : Mu} {A B : Hp} {w w' : World} (hw : ∀ id, A.next ≤ id → A.blk id = none) (T : Trans A.next μ A w ν B w') : Below w.heap.size w w' := by
  refine ⟨T.os, T.tape, T.output, T.size, fun k hk => T.frame k hk ?_⟩
  rintro ⟨id, o, S, h1, h2, h3⟩
  exact h2 (hw id h1)
end
end Go.Proofs.Ytiiapkhdjchhjaa.Ab

/- Slices that a body makes by append; bodies that end with one new block. -/
namespace Go.Proofs.Ytiiapkhdjchhjaa.Ab
open Go.RowKit
set_option linter.unusedVariables false
set_option linter.unusedSimpArgs false

/-- A slice of the body's own, in a block not below lo, that holds these elements. -/
structure Ac (A : Hp) (lo sz : Nat) (v : Value) (css : List (List Value)) : Prop where
  len : ∀ c ∈ css, c.length = sz
  one : ∀ c ∈ css, ∀ u ∈ c, u.oneCell' = true
  at_ : (v = .slice none 0 0 ∧ css = []) ∨ ∃ id g n c, v = .slice (some ⟨id, 0, some g⟩) n c ∧ n ≤ c ∧ lo ≤ id ∧ id < A.next ∧ A.blk id = some (.row css.flatten g sz) ∧ css.length = n

theorem flat_len {sz : Nat} : ∀ {css : List (List Value)}, (∀ c ∈ css, c.length = sz) → css.flatten.length = css.length * sz
  | [], _ => by simp
  | c :: cs, h => by
    rw [List.flatten_cons, List.length_append, h c (by simp), flat_len fun d hd => h d (by simp [hd]), List.length_cons, Nat.succ_mul]; omega

theorem Ac.sl {A : Hp} {lo sz : Nat} {v : Value} {css : List (List Value)} (h : Ac A lo sz v css) : Sl A sz v css := by
  refine ⟨h.len, ?_⟩
  rcases h.at_ with h1 | ⟨id, g, n, c, h1, h2, h3, h4, h5, h6⟩
  · exact .inl h1
  · exact .inr (.inr ⟨_, n, c, g, css.flatten, h1, h6, rfl, h5, fun j x hj => by simpa using hj⟩)
theorem Ac.nil (A : Hp) (lo sz : Nat) : Ac A lo sz (.slice none 0 0) [] := ⟨by simp, by simp, .inl ⟨rfl, rfl⟩⟩
/-- It stands as well in a heap that has its block. -/
theorem Ac.keep {A B : Hp} {lo sz : Nat} {v : Value} {css : List (List Value)} (h : Ac A lo sz v css) (hn : A.next ≤ B.next) (hb : ∀ id g n c, v = .slice (some ⟨id, 0, some g⟩) n c → B.blk id = A.blk id) : Ac B lo sz v css := by
  refine ⟨h.len, h.one, ?_⟩
  rcases h.at_ with h1 | ⟨id, g, n, c, h1, h2, h3, h4, h5, h6⟩
  · exact .inl h1
  · exact .inr ⟨id, g, n, c, h1, h2, h3, Nat.lt_of_lt_of_le h4 hn, by rw [hb id g n c h1]; exact h5, h6⟩
theorem Ac.xt {A B : Hp} {lo sz : Nat} {v : Value} {css : List (List Value)} (h : Ac A lo sz v css) (x : Xt A.next A B) : Ac B lo sz v css := by
  refine h.keep x.next fun id g n c e => x.blk id ?_
  rcases h.at_ with ⟨h1, _⟩ | ⟨id', g', n', c', h1, h2, h3, h4, h5, h6⟩
  · rw [e] at h1; cases h1
  · rw [e] at h1; cases h1; exact h4

section
variable {P : Program} {G : Gl} {fl : Nat} {A : Hp}

/-- append, with a slice of the body's own on the left. -/
theorem apn_of {lo sz : Nat} {t u e : TypeId} {T U E : Ty} {s x : Value} {css new : List (List Value)} {f : Value × Hp → Prop} (hT : tyOf P t = some T) (hd : T.d = .sl e) (hE : tyOf P e = some E) (hU : tyOf P u = some U) (hud : U.d = .sl e)
    (hsz : E.size = sz) (h0 : 0 < sz) (hz : E.zero.length = sz) (hs : Ac A lo sz s css) (hfl : fl ≤ lo) (hlo : lo ≤ A.next) (hx : Sl A sz x new) (hone : ∀ c ∈ new, ∀ u ∈ c, u.oneCell' = true)
    (hb : (css.length + new.length) * E.bytes ≤ 140737488355328) (hb2 : css.length + new.length ≤ 140737488355328)
    (k : ∀ v' A', Ac A' lo sz v' (css ++ new) → Xt lo A A' → A.next ≤ A'.next → (∀ id, id < A.next → (∀ g n c, s ≠ .slice (some ⟨id, 0, some g⟩) n c) → A'.blk id = A.blk id) → ((s ≠ .slice none 0 0 ∨ new ≠ []) → ∃ a n c, v' = .slice (some a) n c) →
      (∀ id g n c, v' = .slice (some ⟨id, 0, some g⟩) n c → id = A.next ∨ ∃ g0 n0 c0, s = .slice (some ⟨id, 0, some g0⟩) n0 c0) → f (v', A')) : @apn P G fl A #[t, u] [s, x] ⟨f⟩ := by
  have hall : (new.flatten).all (·.oneCell') = true := by
    rw [List.all_eq_true]
    intro v hv
    obtain ⟨c, hc, hv⟩ := List.mem_flatten.1 hv
    exact hone c hc v hv
  have hlen : ∀ c ∈ css ++ new, c.length = sz := fun c hc => (List.mem_append.1 hc).elim (hs.len c) (hx.1 c)
  have hones : ∀ c ∈ css ++ new, ∀ u ∈ c, u.oneCell' = true := fun c hc => (List.mem_append.1 hc).elim (hs.one c) (hone c)
  have hnew : news G A E.size x new.length new.flatten := by
    refine ⟨by rw [flat_len hx.1, hsz], ?_⟩
    rcases hx.2 with ⟨rfl, rfl⟩ | ⟨a, g, rfl, rfl, h3, h4, h5⟩ | ⟨a, n, c, g, ds, rfl, rfl, h3, h4, h5⟩
    · exact .inl ⟨0, rfl, rfl⟩
    · exact .inr (.inl ⟨a, 0, rfl, by rw [h3]; simp, fun j v hj => by simp at hj⟩)
    · refine .inr (.inl ⟨a, c, rfl, by rw [h3]; simp, fun j v hj => ?_⟩)
      have := h5 j v hj
      simp only [Hp.get, aadd, h3, h4, if_true]
      exact this
  refine ⟨s, x, rfl, t, u, e, T, E, new.length, new.flatten, rfl, hT, hd, hE, by simp [hU, hud], by omega, by omega, hall, hnew, ?_⟩
  rcases hs.at_ with ⟨rfl, rfl⟩ | ⟨id, g, n, c, rfl, hnc, hid, hidn, hblk, hn⟩
  · by_cases hm : new.length = 0
    · refine .inl ⟨rfl, hm, ?_⟩
      have : new = [] := List.eq_nil_of_length_eq_zero hm
      subst this
      exact k _ _ (Ac.nil _ _ _) ⟨fun _ _ => rfl, hlo⟩ (Nat.le_refl _) (fun _ _ _ => rfl) (fun h => by simp at h) (fun id g n c h => by cases h)
    · refine .inr (.inl ⟨rfl, by omega, by simpa using hb, by simpa using hb2, ?_⟩)
      refine k _ _ ⟨hlen, hones, .inr ⟨A.next, 0, _, _, rfl, Nat.le_refl _, hlo, by simp, by rw [hsz]; simp [Hp.push_blk], rfl⟩⟩ ⟨fun i hi => by rw [Hp.push_blk, if_neg (by omega)], by simp; omega⟩ (by simp) (fun i hi _ => by rw [Hp.push_blk, if_neg (by omega)]) (fun _ => ⟨_, _, _, rfl⟩) fun id g n c h => by cases h; exact .inl rfl
  · refine .inr (.inr ⟨_, n, c, g, css.flatten, rfl, rfl, by rw [hsz]; exact hblk, by simp only; omega, by rw [flat_len hs.len, hsz, hn]; simp, ?_, by rw [← hn]; exact hb, by rw [← hn]; exact hb2, ?_⟩)
    · rw [List.all_eq_true]
      intro v hv
      obtain ⟨c, hc, hv⟩ := List.mem_flatten.1 hv
      exact hs.one c hc v hv
    · have hrow : (List.take (n * E.size) (List.drop 0 css.flatten) ++ new.flatten) = (css ++ new).flatten := by
        rw [List.drop_zero, List.take_of_length_le (by rw [flat_len hs.len, hsz, hn]; exact Nat.le_refl _), List.flatten_append]
      simp only [hrow]
      refine k _ _ ⟨hlen, hones, .inr ⟨id, g + 1, _, _, rfl, Nat.le_refl _, hid, by simpa using hidn, by rw [hsz]; simp [Hp.put_blk], by simp [hn]⟩⟩ ⟨fun i hi => by rw [Hp.put_blk, if_neg (by omega)], by simpa using hlo⟩ (by simp) (fun i hi hne => ?_) (fun _ => ⟨_, _, _, rfl⟩) fun id' g' n' c' h => by cases h; exact .inr ⟨_, _, _, rfl⟩
      rw [Hp.put_blk, if_neg]
      rintro rfl
      exact hne g n c rfl

/-- One new block, told. -/
theorem told_one {B : Hp} {id g sz : Nat} {cells : List Value} (hA : Hok fl A) (x : Xt A.next A B) (hid : A.next ≤ id) (hb : B.blk id = some (.row cells g sz)) (hr : ∀ u ∈ cells, RB A.next u) :
    Told A B (A.push (.row cells 0 sz)) (fun k => if k = A.next then some (id, 0) else none) := by
  refine ⟨by simp, fun i hi => ?_, fun i hi q h => .inl ?_, fun i hi => ?_, fun k h1 h2 => ?_, fun k p h => ?_, fun k k' i sh sh' h1 h2 => ?_⟩
  · rw [Hp.push_blk, if_neg (by omega)]; exact (x.blk i hi).symm
  · rw [← x.blk i hi]; exact h
  · rw [Hp.push_next] at hi
    rw [Hp.push_blk, if_neg (by omega)]; exact hA.wf i (by omega)
  · rw [Hp.push_next] at h2
    obtain rfl : k = A.next := by omega
    refine .inl ⟨id, 0, cells, g, sz, cells, by simp, hid, hb, by simp [Hp.push_blk], by simp, fun j v hj => ⟨v, by simpa using hj, .same (hr v (List.mem_of_getElem? hj))⟩⟩
  · split at h
    · rename_i hk; subst hk; simp
    · cases h
  · split at h1
    · split at h2
      · omega
      · cases h2
    · cases h1
theorem rr_one {B : Hp} {id g sz n c : Nat} {cells : List Value} (hb : B.blk id = some (.row cells g sz)) (hnc : n ≤ c) :
    RR B A.next (fun k => if k = A.next then some (id, 0) else none) (.slice (some ⟨A.next, 0, some 0⟩) n n) (.slice (some ⟨id, 0, some g⟩) n c) :=
  .sl ⟨id, 0, cells, g, sz, by simp, rfl, hb, rfl⟩ hnc

/-- What an own slice is told as. -/
def outV (A : Hp) (v : Value) (css : List (List Value)) : Value := match v with | .slice none _ _ => .slice none 0 0 | _ => .slice (some ⟨A.next, 0, some 0⟩) css.length css.length
def outH (A : Hp) (sz : Nat) (v : Value) (css : List (List Value)) : Hp := match v with | .slice none _ _ => A | _ => A.push (.row css.flatten 0 sz)

/-- A body that ends with an own slice, alone. -/
theorem Ended.acc {B : Hp} {sz : Nat} {v : Value} {css : List (List Value)} (hA : Hok fl A) (x : Xt A.next A B) (h : Ac B A.next sz v css) (hr : ∀ c ∈ css, ∀ u ∈ c, RB A.next u) : Ended A v B (outV A v css) (outH A sz v css) := by
  rcases h.at_ with ⟨rfl, rfl⟩ | ⟨id, g, n, c, rfl, hnc, hid, hidn, hblk, rfl⟩
  · exact Ended.back hA x rfl (RB.sl0 _ _)
  · exact ⟨_, told_one hA x hid hblk (fun u hu => by obtain ⟨c, hc, hu⟩ := List.mem_flatten.1 hu; exact hr c hc u hu), rr_one hblk hnc⟩
/-- A body that ends with an own slice, and a number beside it. -/
theorem Ended.acc2 {B : Hp} {sz : Nat} {v : Value} {css : List (List Value)} {u : Value} (hA : Hok fl A) (x : Xt A.next A B) (h : Ac B A.next sz v css) (hr : ∀ c ∈ css, ∀ u ∈ c, RB A.next u) (hu : RB A.next u) :
    Ended A (.tuple [v, u].toArray) B (.tuple [outV A v css, u].toArray) (outH A sz v css) := by
  rcases h.at_ with ⟨rfl, rfl⟩ | ⟨id, g, n, c, rfl, hnc, hid, hidn, hblk, rfl⟩
  · refine Ended.back hA x rfl (RB.tuple fun w hw => ?_)
    simp only [outV, List.mem_cons, List.not_mem_nil, or_false] at hw
    rcases hw with rfl | rfl
    · exact RB.sl0 _ _
    · exact hu
  · refine ⟨_, told_one hA x hid hblk (fun u hu => by obtain ⟨c, hc, hu⟩ := List.mem_flatten.1 hu; exact hr c hc u hu), .tuple (by simp) fun i hi hi' => ?_⟩
    match i with
    | 0 => exact rr_one hblk hnc
    | 1 => exact .same hu
    | i + 2 => simp at hi; omega
/-- What an own slice is told as, is such a slice. -/
theorem Ac.out {B : Hp} {sz : Nat} {v : Value} {css : List (List Value)} (h : Ac B A.next sz v css) : Ac (outH A sz v css) A.next sz (outV A v css) css := by
  refine ⟨h.len, h.one, ?_⟩
  rcases h.at_ with ⟨rfl, rfl⟩ | ⟨id, g, n, c, rfl, hnc, hid, hidn, hblk, rfl⟩
  · exact .inl ⟨rfl, rfl⟩
  · exact .inr ⟨A.next, 0, _, _, rfl, Nat.le_refl _, Nat.le_refl _, by simp [outH], by simp [outH, Hp.push_blk], rfl⟩
theorem outH_xt {sz : Nat} {v : Value} {css : List (List Value)} : Xt A.next A (outH A sz v css) := by
  unfold outH
  split
  · exact Xt.refl A
  · exact (Xt.refl A).push _
/-- A body that ends with one old block put anew. -/
theorem Ended.put {B : Hp} {r v : Value} {id g sz : Nat} {cells : List Value} (hA : Hok fl A) (hid : id < A.next) (hB : ∀ i, i < A.next → B.blk i = (A.put id (.row cells g sz)).blk i) (hv : r = v) (hr : RB A.next v) (hc : ∀ u ∈ cells, RB A.next u) :
    Ended A r B v (A.put id (.row cells g sz)) := by
  subst hv
  refine ⟨fun _ => none, ⟨Nat.le_refl _, fun i hi => (hB i hi).symm, fun i hi k hb => ?_, fun i hi => ?_, fun k h1 h2 => ?_, fun k p h => (by cases h), fun k k' i sh sh' h => (by cases h)⟩, .same hr⟩
  · rw [hB i hi, Hp.put_blk] at hb
    split at hb
    · cases hb; exact .inr hc
    · exact .inl hb
  · rw [Hp.put_blk]
    have hi' : A.next ≤ i := hi
    rw [if_neg (by omega)]; exact hA.wf i hi'
  · have : k < A.next := h2; omega
end
end Go.Proofs.Ytiiapkhdjchhjaa.Ab
