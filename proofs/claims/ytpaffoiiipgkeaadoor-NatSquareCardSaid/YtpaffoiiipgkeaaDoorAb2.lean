/- Reading, making and writing blocks of the abstract heap, and of the world under it. -/
import Derived.Test.YtpaffoiiipgkeaaDoorAb1
namespace Go.Proofs.YtpaffoiiipgkeaaDoor.Ab
open Go.RowKit
set_option linter.unusedVariables false

/-- An abstract address, so many cells on. -/
def aadd (a : Addr) (n : Nat) : Addr := { a with off := a.off + n }

theorem AR.add {μ : Mu} {A : Hp} {a a' : Addr} (h : AR μ A a a') (n : Nat) : AR μ A (aadd a n) (a'.add n) := by
  rcases h with ⟨hs, rfl⟩ | ⟨hlt, g, hg, hl⟩
  · refine .inl ⟨hs, ?_⟩
    obtain ⟨b, o, s⟩ := a'
    cases hs
    unfold Addr.add aadd
    split <;> simp_all
  · refine .inr ⟨hlt, g, hg, fun cs g2 e hb => ⟨(hl cs g2 e hb).1, fun hgg => ?_⟩⟩
    obtain ⟨b, o, S, hm, rfl⟩ := (hl cs g2 e hb).2 hgg
    refine ⟨b, o, S, hm, ?_⟩
    unfold Addr.add aadd
    split <;> simp_all [Nat.add_assoc]

def Hp.get (G : Gl) (A : Hp) (a : Addr) : Option Value :=
  match a.spot with
  | none => (G a.block).bind (·[a.off]?)
  | some g => match A.blk a.block with
    | some (.row cs g' _) => if g = g' then cs[a.off]? else none
    | none => none

theorem cell?_plain (w : World) (b o : Nat) {c : Array Value} {t : TypeId} {fr : Nat × Nat} (h : w.heap[b]? = some (.cells c t fr)) : w.cell? ⟨b, o, none⟩ = c[o]? := by
  simp [World.cell?, h]

theorem VR.base {μ : Mu} {A : Hp} {v v' : Value} (h : VR (fun _ => none) ⟨0, fun _ => none⟩ v v') : VR μ A v v' := by
  refine h.mono ⟨Nat.zero_le _, fun id hi => ?_⟩
  exact absurd hi (Nat.not_lt_zero _)

theorem HR.get {G : Gl} {μ : Mu} {fl : Nat} {A : Hp} {w : World} (H : HR G μ fl A w) {a a' : Addr} (h : AR μ A a a') {v : Value} (hg : A.get G a = some v) :
    ∃ v', w.cell? a' = some v' ∧ VR μ A v v' := by
  unfold Hp.get at hg
  rcases h with ⟨hs, rfl⟩ | ⟨hlt, g, hg', hl⟩
  · rw [hs] at hg
    simp only at hg
    cases hG : G a'.block with
    | none => simp [hG] at hg
    | some cs =>
      simp only [hG, Option.bind_some] at hg
      obtain ⟨c, t, fr, hw, hc⟩ := H.glob _ _ hG
      obtain ⟨h1, h2⟩ := hc _ _ hg
      refine ⟨v, ?_, h2.base⟩
      obtain ⟨b, o, s⟩ := a'
      cases hs
      rw [cell?_plain w b o hw]
      exact h1
  · rw [hg'] at hg
    simp only at hg
    cases hb : A.blk a.block with
    | none => simp [hb] at hg
    | some k =>
      cases k with
      | row cs g2 e =>
        simp only [hb] at hg
        split at hg
        · rename_i hgg
          subst hgg
          obtain ⟨b, o, S, hm, rfl⟩ := (hl cs g e hb).2 rfl
          obtain ⟨c, t, fr, hw, hS, hlen, hc⟩ := H.row _ _ _ _ _ _ _ hb hm
          obtain ⟨v', h1, h2⟩ := hc _ _ hg
          exact ⟨v', (cell?_plain w _ _ hw).trans h1, h2⟩
        · cases hg

/-- A heap with one block more. -/
def Hp.push (A : Hp) (b : Blk) : Hp := ⟨A.next + 1, fun i => if i = A.next then some b else A.blk i⟩
/-- A heap with a block told anew. -/
def Hp.put (A : Hp) (id : Nat) (b : Blk) : Hp := ⟨A.next, fun i => if i = id then some b else A.blk i⟩

@[simp] theorem Hp.push_next (A : Hp) (b : Blk) : (A.push b).next = A.next + 1 := rfl
@[simp] theorem Hp.put_next (A : Hp) (id : Nat) (b : Blk) : (A.put id b).next = A.next := rfl
theorem Hp.push_blk (A : Hp) (b : Blk) (i : Nat) : (A.push b).blk i = if i = A.next then some b else A.blk i := rfl
theorem Hp.put_blk (A : Hp) (id : Nat) (b : Blk) (i : Nat) : (A.put id b).blk i = if i = id then some b else A.blk i := rfl

def Mu.add (μ : Mu) (id : Nat) (p : Pl) : Mu := fun i => if i = id then some p else μ i

theorem Ext.push {μ : Mu} {A : Hp} (b : Blk) (p : Pl) : Ext μ A (μ.add A.next p) (A.push b) := by
  refine ⟨by simp, fun id hi cs g e hb => ⟨cs, g, e, ?_, .inl ⟨rfl, rfl, ?_⟩⟩⟩
  · rw [Hp.push_blk, if_neg (by omega)] at hb; exact hb
  · intro p hp
    simp only [Mu.add, if_neg (show ¬ id = A.next by omega)]
    exact hp

theorem getElem?_push_self {w : World} (o : Obj) : (w.heap.push o)[w.heap.size]? = some o := by simp
theorem getElem?_push_lt {w : World} (o : Obj) {b : Nat} (h : b < w.heap.size) : (w.heap.push o)[b]? = w.heap[b]? := by
  rw [Array.getElem?_push, if_neg (by omega)]

/-- A new block in the world, and in the abstract heap. -/
theorem HR.newBlock {G : Gl} {μ : Mu} {fl : Nat} {A : Hp} {w w' : World} (H : HR G μ fl A w) (hfl : fl ≤ A.next) (cs : List Value) (c : Array Value) (t : TypeId) (fr : Nat × Nat) (e : Nat)
    (hlen : cs.length ≤ c.size) (hcs : ∀ (j : Nat) (v : Value), cs[j]? = some v → ∃ v' : Value, c[j]? = some v' ∧ VR μ A v v') (hfr : ∀ j, j < c.size → ¬ (fr.1 ≤ j ∧ j < fr.2))
    (hw : w'.heap = w.heap.push (.cells c t fr)) (h1 : w'.os = w.os) (h2 : w'.tape = w.tape) (h3 : w'.output = w.output) :
    HR G (μ.add A.next (w.heap.size, 0, c.size)) fl (A.push (.row cs 0 e)) w' ∧
      Trans fl μ A w (μ.add A.next (w.heap.size, 0, c.size)) (A.push (.row cs 0 e)) w' := by
  have E : Ext μ A (μ.add A.next (w.heap.size, 0, c.size)) (A.push (.row cs 0 e)) := Ext.push _ _
  have hnew : w'.heap[w.heap.size]? = some (.cells c t fr) := by rw [hw]; exact getElem?_push_self _
  have hold : ∀ b, b < w.heap.size → w'.heap[b]? = w.heap[b]? := fun b hb => by rw [hw]; exact getElem?_push_lt _ hb
  have mo : ∀ i, i ≠ A.next → (μ.add A.next (w.heap.size, 0, c.size)) i = μ i := fun i hi => by simp only [Mu.add, if_neg hi]
  have mn : (μ.add A.next (w.heap.size, 0, c.size)) A.next = some (w.heap.size, 0, c.size) := by simp only [Mu.add, if_true]
  have bo : ∀ i, i ≠ A.next → (A.push (.row cs 0 e)).blk i = A.blk i := fun i hi => by rw [Hp.push_blk, if_neg hi]
  have bn : (A.push (.row cs 0 e)).blk A.next = some (.row cs 0 e) := by rw [Hp.push_blk, if_pos rfl]
  refine ⟨⟨fun id hi => ?_, fun id cs' g e' hb v hv => ?_, fun id cs' g e' b o S hb hm => ?_, fun id cs' g e' b o S hf hb hm j hj => ?_, fun id id' b o S b' o' S' hne hf hb hb' hm hm' => ?_, fun g gs hg => ?_, fun g gs id b o S hg hf hb hm => ?_⟩, ?_⟩
  · simp only [Hp.push_next] at hi
    rw [bo id (by omega)]; exact H.wf id (by omega)
  · by_cases hid : id = A.next
    · subst hid
      rw [bn] at hb; cases hb
      obtain ⟨j, hj⟩ := List.mem_iff_getElem?.1 hv
      obtain ⟨v', _, h6⟩ := hcs j v hj
      exact h6.rb.mono (by simp)
    · rw [bo id hid] at hb
      exact (H.refs id cs' g e' hb v hv).mono (by simp)
  · by_cases hid : id = A.next
    · subst hid
      rw [bn] at hb; cases hb
      rw [mn] at hm; cases hm
      refine ⟨c, t, fr, hnew, rfl, by omega, fun j v hj => ?_⟩
      obtain ⟨v', h5, h6⟩ := hcs j v hj
      exact ⟨v', by rw [Nat.zero_add]; exact h5, h6.mono E⟩
    · rw [bo id hid] at hb; rw [mo id hid] at hm
      obtain ⟨c', t', fr', hw', hS, hl, hc⟩ := H.row id cs' g e' b o S hb hm
      refine ⟨c', t', fr', ?_, hS, hl, fun j v hj => ?_⟩
      · rw [hold b (Array.getElem?_eq_some_iff.1 hw').1]; exact hw'
      · obtain ⟨v', h5, h6⟩ := hc j v hj
        exact ⟨v', h5, h6.mono E⟩
  · by_cases hid : id = A.next
    · subst hid
      rw [mn] at hm; cases hm
      have hx := hfr j hj
      simp only [World.frozen?, hnew]
      simp only [Bool.and_eq_false_iff, decide_eq_false_iff_not]
      omega
    · rw [bo id hid] at hb; rw [mo id hid] at hm
      have hx := H.free id cs' g e' b o S hf hb hm j hj
      have hbl := live_lt H (by rw [hb]; simp) hm
      simp only [World.frozen?, hold b hbl] at hx ⊢
      exact hx
  · by_cases hid : id = A.next
    · subst hid
      rw [bo id' (Ne.symm hne)] at hb'; rw [mo id' (Ne.symm hne)] at hm'
      rw [mn] at hm; cases hm
      have := live_lt H hb' hm'
      omega
    · rw [bo id hid] at hb; rw [mo id hid] at hm
      have hbl := live_lt H hb hm
      by_cases hid' : id' = A.next
      · subst hid'
        rw [mn] at hm'; cases hm'
        omega
      · rw [bo id' hid'] at hb'; rw [mo id' hid'] at hm'
        exact H.apart id id' b o S b' o' S' hne hf hb hb' hm hm'
  · obtain ⟨c', t', fr', hw', hc⟩ := H.glob g gs hg
    exact ⟨c', t', fr', (hold g (Array.getElem?_eq_some_iff.1 hw').1).trans hw', hc⟩
  · obtain ⟨c', t', fr', hw', hc⟩ := H.glob g gs hg
    have hgl := (Array.getElem?_eq_some_iff.1 hw').1
    by_cases hid : id = A.next
    · subst hid
      rw [mn] at hm; cases hm
      omega
    · rw [bo id hid] at hb; rw [mo id hid] at hm
      exact H.globApart g gs id b o S hg hf hb hm
  · refine ⟨h1, h2, h3, by rw [hw]; simp, E, fun id hi => ⟨bo id (by omega), mo id (by omega)⟩, fun id hi hm => by rw [mo id (by omega)]; exact hm, fun b hb _ => hold b hb, fun b ⟨id, o, S, hf, hb, hm⟩ => ?_⟩
    by_cases hid : id = A.next
    · subst hid
      rw [mn] at hm; cases hm
      exact .inr (Nat.le_refl _)
    · rw [bo id hid] at hb; rw [mo id hid] at hm
      exact .inl ⟨id, o, S, hf, hb, hm⟩

/-- The address of the new block. -/
theorem AR.new {μ : Mu} {A : Hp} {cs : List Value} {e B S : Nat} (off : Nat) : AR (μ.add A.next (B, 0, S)) (A.push (.row cs 0 e)) ⟨A.next, off, some 0⟩ ⟨B, off, none⟩ := by
  refine .inr ⟨by simp, 0, rfl, fun cs' g' e' _ => ⟨Nat.zero_le _, fun _ => ⟨B, 0, S, by simp [Mu.add], by simp⟩⟩⟩

/-- Cells written one behind the other. -/
def wr : List Value → Nat → List Value → List Value
  | cs, _, [] => cs
  | cs, o, v :: vs => wr (cs.set o v) (o + 1) vs

theorem wr_length : ∀ (cs : List Value) (o : Nat) (vs : List Value), (wr cs o vs).length = cs.length
  | _, _, [] => rfl
  | cs, o, v :: vs => by rw [wr, wr_length]; simp

/-- A row of a block of the call's own told anew, in the world and in the abstract heap: one cell. -/
theorem HR.setCell {G : Gl} {μ : Mu} {fl : Nat} {A : Hp} {w : World} (H : HR G μ fl A w) {id off g e : Nat} {cs : List Value} {b o S : Nat} (hfl : fl ≤ id)
    (hb : A.blk id = some (.row cs g e)) (hm : μ id = some (b, o, S)) (hoff : off < cs.length) {v v' : Value} (hv : VR μ A v v') :
    HR G μ fl (A.put id (.row (cs.set off v) g e)) (w.setCell ⟨b, o + off, none⟩ v') ∧
      Trans fl μ A w μ (A.put id (.row (cs.set off v) g e)) (w.setCell ⟨b, o + off, none⟩ v') := by
  have hid : id < A.next := by
    rcases Nat.lt_or_ge id A.next with h | h
    · exact h
    · rw [H.wf id h] at hb; cases hb
  have E : Ext μ A μ (A.put id (.row (cs.set off v) g e)) := by
    refine ⟨Nat.le_refl _, fun i hi cs' g' e' hb' => ?_⟩
    rw [Hp.put_blk] at hb'
    split at hb'
    · rename_i h; subst h; cases hb'; exact ⟨cs, _, _, hb, .inl ⟨rfl, rfl, fun _ h => h⟩⟩
    · exact ⟨cs', _, _, hb', .inl ⟨rfl, rfl, fun _ h => h⟩⟩
  have live : ∀ i, (A.put id (.row (cs.set off v) g e)).blk i ≠ none → A.blk i ≠ none := fun i hi => by
    rw [Hp.put_blk] at hi
    split at hi
    · rename_i h; subst h; rw [hb]; simp
    · exact hi
  obtain ⟨c, t, fr, hw, hS, hl, hc⟩ := H.row id cs g e b o S hb hm
  have hwb : (w.setCell ⟨b, o + off, none⟩ v').heap[b]? = some (.cells (c.setIfInBounds (o + off) v') t fr) := by
    simp [World.setCell, Array.getElem?_modify, hw]
  have hwo : ∀ k, k ≠ b → (w.setCell ⟨b, o + off, none⟩ v').heap[k]? = w.heap[k]? := fun k hk => Below.heap_setCell _ _ _ _ hk
  have hfr : ∀ a, (w.setCell ⟨b, o + off, none⟩ v').frozen? a = w.frozen? a := fun a => World.frozen?_setCell _ _ _ _
  refine ⟨⟨fun i hi => ?_, fun i cs' g' e' hb' u hu => ?_, fun i cs' g' e' b' o' S' hb' hm' => ?_, fun i cs' g' e' b' o' S' hf hb' hm' j hj => ?_, fun i i' b1 o1 S1 b2 o2 S2 hne hf hb1 hb2 hm1 hm2 => ?_, fun g1 gs hg => ?_, fun g1 gs i b1 o1 S1 hg hf hb1 hm1 => ?_⟩, ?_⟩
  · rw [Hp.put_blk, if_neg (by simp only [Hp.put_next] at hi; omega)]; exact H.wf i hi
  · rw [Hp.put_blk] at hb'
    split at hb'
    · rename_i h; subst h; cases hb'
      rcases List.mem_or_eq_of_mem_set hu with hu | rfl
      · exact H.refs i cs g e hb u hu
      · exact hv.rb
    · exact H.refs i cs' g' e' hb' u hu
  · by_cases hi : i = id
    · subst hi
      rw [Hp.put_blk, if_pos rfl] at hb'; cases hb'
      rw [hm] at hm'; cases hm'
      refine ⟨_, t, fr, hwb, by simpa using hS, by simpa using hl, fun j u hj => ?_⟩
      by_cases hjo : off = j
      · subst hjo
        rw [List.getElem?_set_self hoff] at hj; cases hj
        refine ⟨v', ?_, hv.mono E⟩
        rw [Array.getElem?_setIfInBounds_self_of_lt (by omega)]
      · rw [List.getElem?_set_ne hjo] at hj
        obtain ⟨u', h1, h2⟩ := hc j u hj
        exact ⟨u', by rw [Array.getElem?_setIfInBounds_ne (by omega)]; exact h1, h2.mono E⟩
    · rw [Hp.put_blk, if_neg hi] at hb'
      obtain ⟨c', t', fr', hw', hS', hl', hc'⟩ := H.row i cs' g' e' b' o' S' hb' hm'
      have hne : b' ≠ b := Ne.symm (H.apart id i b o S b' o' S' (Ne.symm hi) hfl (by rw [hb]; simp) (by rw [hb']; simp) hm hm')
      refine ⟨c', t', fr', (hwo b' hne).trans hw', hS', hl', fun j u hj => ?_⟩
      obtain ⟨u', h1, h2⟩ := hc' j u hj
      exact ⟨u', h1, h2.mono E⟩
  · rw [hfr]
    rw [Hp.put_blk] at hb'
    split at hb'
    · rename_i h; subst h; cases hb'
      exact H.free i cs g e b' o' S' hf hb hm' j hj
    · exact H.free i cs' g' e' b' o' S' hf hb' hm' j hj
  · exact H.apart i i' b1 o1 S1 b2 o2 S2 hne hf (live i hb1) (live i' hb2) hm1 hm2
  · obtain ⟨c', t', fr', hw', hc'⟩ := H.glob g1 gs hg
    exact ⟨c', t', fr', (hwo g1 (Ne.symm (H.globApart g1 gs id b o S hg hfl (by rw [hb]; simp) hm))).trans hw', hc'⟩
  · exact H.globApart g1 gs i b1 o1 S1 hg hf (live i hb1) hm1
  · refine ⟨rfl, rfl, rfl, by simp [World.setCell], E, fun i hi => ⟨?_, rfl⟩, fun _ _ h => h, fun k hk ho => ?_, fun k ⟨i, o1, S1, hf, hb1, hm1⟩ => .inl ⟨i, o1, S1, hf, live i hb1, hm1⟩⟩
    · rw [Hp.put_blk, if_neg (by omega)]
    · refine hwo k fun hkb => ho ?_
      subst hkb
      exact ⟨id, o, S, hfl, by rw [hb]; simp, hm⟩

theorem Hp.put_put (A : Hp) (id : Nat) (x y : Blk) : (A.put id x).put id y = A.put id y := by
  simp only [Hp.put, Hp.mk.injEq, true_and]
  funext i
  by_cases h : i = id <;> simp [h]

theorem Hp.put_self (A : Hp) (id : Nat) (x : Blk) (h : A.blk id = some x) : A.put id x = A := by
  obtain ⟨n, b⟩ := A
  simp only [Hp.put, Hp.mk.injEq, true_and]
  funext i
  by_cases hi : i = id
  · subst hi; rw [if_pos rfl]; exact h.symm
  · rw [if_neg hi]

/-- Several cells. -/
theorem HR.setCells {G : Gl} {μ : Mu} {fl : Nat} {id g e : Nat} {b o S : Nat} (hfl : fl ≤ id) (hm : μ id = some (b, o, S)) :
    ∀ (vs : List Value) (vs' : List Value) (A : Hp) (w : World) (cs : List Value) (off : Nat), HR G μ fl A w → A.blk id = some (.row cs g e) → off + vs.length ≤ cs.length →
      vs.length = vs'.length → (∀ (j : Nat) v v', vs[j]? = some v → vs'[j]? = some v' → VR μ A v v') →
      HR G μ fl (A.put id (.row (wr cs off vs) g e)) (w.setCells b (o + off) vs') ∧ Trans fl μ A w μ (A.put id (.row (wr cs off vs) g e)) (w.setCells b (o + off) vs')
  | [], vs', A, w, cs, off, H, hb, hlen, hl, hv => by
    cases vs' with
    | nil =>
      rw [wr, Hp.put_self _ _ _ hb]
      exact ⟨H, Trans.refl _ _ _ _⟩
    | cons x xs => simp at hl
  | v :: vs, vs', A, w, cs, off, H, hb, hlen, hl, hv => by
    cases vs' with
    | nil => simp at hl
    | cons v' vs' =>
      simp only [List.length_cons] at hlen hl
      obtain ⟨H1, T1⟩ := H.setCell (v := v) (v' := v') (off := off) hfl hb hm (by omega) (hv 0 v v' rfl rfl)
      have ih := HR.setCells hfl hm vs vs' (A.put id (.row (cs.set off v) g e)) (w.setCell ⟨b, o + off, none⟩ v') (cs.set off v) (off + 1) H1
        (by rw [Hp.put_blk, if_pos rfl]) (by simp; omega) (by omega) (fun j u u' h1 h2 => (hv (j + 1) u u' h1 h2).mono T1.ext)
      rw [Hp.put_put] at ih
      rw [wr, World.setCells, show o + off + 1 = o + (off + 1) by omega]
      exact ⟨ih.1, T1.trans ih.2⟩

/-- A block of the call's own told anew: it has grown, in its place or in a new one; what pointed into it is of an elder generation. -/
theorem HR.retell {G : Gl} {μ : Mu} {fl : Nat} {A : Hp} {w w' : World} (H : HR G μ fl A w) {id g e g2 e2 : Nat} {cs ds : List Value} {b o S b' o' S' : Nat} (hfl : fl ≤ id) (hg2 : g < g2)
    (hb : A.blk id = some (.row cs g e)) (hm : μ id = some (b, o, S)) {c : Array Value} {t : TypeId} {fr : Nat × Nat}
    (hold : ∀ k, k ≠ b → k < w.heap.size → w'.heap[k]? = w.heap[k]?) (hsize : w.heap.size ≤ w'.heap.size) (h1 : w'.os = w.os) (h2 : w'.tape = w.tape) (h3 : w'.output = w.output)
    (hnew : w'.heap[b']? = some (.cells c t fr)) (hS : c.size = S') (hlen : o' + ds.length ≤ S') (hfr : ∀ j, j < S' → ¬ (fr.1 ≤ j ∧ j < fr.2))
    (hds : ∀ (j : Nat) (v : Value), ds[j]? = some v → ∃ v' : Value, c[o' + j]? = some v' ∧ VR μ A v v') (hb' : b' = b ∨ w.heap.size ≤ b') :
    HR G (μ.add id (b', o', S')) fl (A.put id (.row ds g2 e2)) w' ∧ Trans fl μ A w (μ.add id (b', o', S')) (A.put id (.row ds g2 e2)) w' := by
  have hid : id < A.next := by
    rcases Nat.lt_or_ge id A.next with h | h
    · exact h
    · rw [H.wf id h] at hb; cases hb
  have E : Ext μ A (μ.add id (b', o', S')) (A.put id (.row ds g2 e2)) := by
    refine ⟨Nat.le_refl _, fun i hi cs' g' e' hbi => ?_⟩
    rw [Hp.put_blk] at hbi
    split at hbi
    · rename_i h; subst h; cases hbi; exact ⟨cs, g, e, hb, .inr hg2⟩
    · rename_i h; exact ⟨cs', _, _, hbi, .inl ⟨rfl, rfl, fun p hp => by simp only [Mu.add, if_neg h]; exact hp⟩⟩
  have live : ∀ i, (A.put id (.row ds g2 e2)).blk i ≠ none → A.blk i ≠ none := fun i hi => by
    rw [Hp.put_blk] at hi
    split at hi
    · rename_i h; subst h; rw [hb]; simp
    · exact hi
  have hbl := live_lt H (by rw [hb]; simp) hm
  have mo : ∀ i, i ≠ id → (μ.add id (b', o', S')) i = μ i := fun i hi => by simp only [Mu.add, if_neg hi]
  have mn : (μ.add id (b', o', S')) id = some (b', o', S') := by simp only [Mu.add, if_true]
  have other : ∀ i bi oi Si, i ≠ id → A.blk i ≠ none → μ i = some (bi, oi, Si) → bi ≠ b ∧ bi ≠ b' ∧ w'.heap[bi]? = w.heap[bi]? := fun i bi oi Si hi hbi hmi => by
    have n1 := Ne.symm (H.apart id i b o S bi oi Si (Ne.symm hi) hfl (by rw [hb]; simp) hbi hm hmi)
    have hl := live_lt H hbi hmi
    refine ⟨n1, ?_, hold bi n1 hl⟩
    rcases hb' with rfl | h
    · exact n1
    · omega
  refine ⟨⟨fun i hi => ?_, fun i cs' g' e' hbi u hu => ?_, fun i cs' g' e' bi oi Si hbi hmi => ?_, fun i cs' g' e' bi oi Si hf hbi hmi j hj => ?_, fun i i' bi oi Si bi' oi' Si' hne hf hbi hbi' hmi hmi' => ?_, fun g1 gs hg => ?_, fun g1 gs i bi oi Si hg hf hbi hmi => ?_⟩, ?_⟩
  · rw [Hp.put_blk, if_neg (by simp only [Hp.put_next] at hi; omega)]; exact H.wf i hi
  · rw [Hp.put_blk] at hbi
    split at hbi
    · rename_i h; subst h; cases hbi
      obtain ⟨j, hj⟩ := List.mem_iff_getElem?.1 hu
      obtain ⟨v', _, h6⟩ := hds j u hj
      exact h6.rb
    · exact H.refs i cs' g' e' hbi u hu
  · by_cases hi : i = id
    · subst hi
      rw [Hp.put_blk, if_pos rfl] at hbi; cases hbi
      rw [mn] at hmi; cases hmi
      refine ⟨c, t, fr, hnew, hS, hlen, fun j v hj => ?_⟩
      obtain ⟨v', h5, h6⟩ := hds j v hj
      exact ⟨v', h5, h6.mono E⟩
    · rw [Hp.put_blk, if_neg hi] at hbi
      rw [mo i hi] at hmi
      obtain ⟨c', t', fr', hw', hS', hl', hc'⟩ := H.row i cs' g' e' bi oi Si hbi hmi
      obtain ⟨_, _, hsame⟩ := other i bi oi Si hi (by rw [hbi]; simp) hmi
      refine ⟨c', t', fr', hsame.trans hw', hS', hl', fun j v hj => ?_⟩
      obtain ⟨v', h5, h6⟩ := hc' j v hj
      exact ⟨v', h5, h6.mono E⟩
  · by_cases hi : i = id
    · subst hi
      rw [mn] at hmi; cases hmi
      have hx := hfr j hj
      simp only [World.frozen?, hnew]
      simp only [Bool.and_eq_false_iff, decide_eq_false_iff_not]
      omega
    · rw [Hp.put_blk, if_neg hi] at hbi
      rw [mo i hi] at hmi
      obtain ⟨_, _, hsame⟩ := other i bi oi Si hi (by rw [hbi]; simp) hmi
      have := H.free i cs' g' e' bi oi Si hf hbi hmi j hj
      simp only [World.frozen?, hsame] at this ⊢
      exact this
  · by_cases hi : i = id
    · subst hi
      rw [mn] at hmi; cases hmi
      rw [mo i' (Ne.symm hne)] at hmi'
      exact Ne.symm (other i' bi' oi' Si' (Ne.symm hne) (live i' hbi') hmi').2.1
    · rw [mo i hi] at hmi
      by_cases hi' : i' = id
      · subst hi'
        rw [mn] at hmi'; cases hmi'
        exact (other i bi oi Si hi (live i hbi) hmi).2.1
      · rw [mo i' hi'] at hmi'
        exact H.apart i i' bi oi Si bi' oi' Si' hne hf (live i hbi) (live i' hbi') hmi hmi'
  · obtain ⟨c', t', fr', hw', hc'⟩ := H.glob g1 gs hg
    exact ⟨c', t', fr', (hold g1 (Ne.symm (H.globApart g1 gs id b o S hg hfl (by rw [hb]; simp) hm)) (Array.getElem?_eq_some_iff.1 hw').1).trans hw', hc'⟩
  · by_cases hi : i = id
    · subst hi
      rw [mn] at hmi; cases hmi
      rcases hb' with rfl | h
      · exact H.globApart g1 gs i _ o S hg hf (by rw [hb]; simp) hm
      · obtain ⟨c', t', fr', hw', hc'⟩ := H.glob g1 gs hg
        have := (Array.getElem?_eq_some_iff.1 hw').1
        omega
    · rw [mo i hi] at hmi
      exact H.globApart g1 gs i bi oi Si hg hf (live i hbi) hmi
  · refine ⟨h1, h2, h3, hsize, E, fun i hi => ⟨?_, mo i (by omega)⟩, fun i hi hmi => ?_, fun k hk ho => ?_, fun k ⟨i, oi, Si, hf, hbi, hmi⟩ => ?_⟩
    · rw [Hp.put_blk, if_neg (by omega)]
    · by_cases h : i = id
      · subst h; rw [hm] at hmi; cases hmi
      · rw [mo i h]; exact hmi
    · exact hold k (fun hkb => ho (by subst hkb; exact ⟨id, o, S, hfl, by rw [hb]; simp, hm⟩)) hk
    · by_cases h : i = id
      · subst h
        rw [mn] at hmi; cases hmi
        rcases hb' with rfl | h
        · exact .inl ⟨i, o, S, hf, by rw [hb]; simp, hm⟩
        · exact .inr h
      · rw [mo i h] at hmi
        exact .inl ⟨i, oi, Si, hf, live i hbi, hmi⟩

end Go.Proofs.YtpaffoiiipgkeaaDoor.Ab
