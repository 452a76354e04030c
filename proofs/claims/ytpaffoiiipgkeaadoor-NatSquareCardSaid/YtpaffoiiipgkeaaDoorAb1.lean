/- The abstract heap, and how it lies in a world of the model: values that agree up to where memory lies; one step of both. -/
import Derived.WalkKit
import Derived.Orders
namespace Go.Proofs.YtpaffoiiipgkeaaDoor.Ab
open Go.RowKit
set_option linter.unusedVariables false

/-- A block of the abstract heap: a row of cells; how often it has grown; how many cells an element takes. -/
inductive Blk where
  | row (cells : List Value) (gen esz : Nat)

structure Hp where
  next : Nat
  blk : Nat → Option Blk

/-- Where a block lies: block of the world, first cell, cells of that block. -/
abbrev Pl := Nat × Nat × Nat
abbrev Mu := Nat → Option Pl

/-- An address: a package-level variable's stays; a block's goes by the map, while it is of its generation. -/
def AR (μ : Mu) (A : Hp) (a a' : Addr) : Prop :=
  (a.spot = none ∧ a' = a) ∨
  (a.block < A.next ∧ ∃ g', a.spot = some g' ∧ ∀ cs g e, A.blk a.block = some (.row cs g e) → g' ≤ g ∧ (g' = g → ∃ b o S, μ a.block = some (b, o, S) ∧ a' = ⟨b, o + a.off, none⟩))

inductive VR (μ : Mu) (A : Hp) : Value → Value → Prop
  | bool (b : Bool) : VR μ A (.bool b) (.bool b)
  | int (k : IntKind) (n : Int) : VR μ A (.int k n) (.int k n)
  | float (k : FloatKind) (n : Nat) : VR μ A (.float k n) (.float k n)
  | string (s : ByteArray) : VR μ A (.string s) (.string s)
  | ptr0 : VR μ A (.pointer none) (.pointer none)
  | ptr {a a' : Addr} (h : AR μ A a a') : VR μ A (.pointer (some a)) (.pointer (some a'))
  | sl0 (n c : Nat) : VR μ A (.slice none n c) (.slice none n c)
  | sl {a a' : Addr} {n c c' : Nat} (hlt : a.block < A.next) (hc : c ≤ c') (hn : n ≤ c')
      (hl : ∃ g', a.spot = some g' ∧ ∀ cs g e, A.blk a.block = some (.row cs g e) → g' ≤ g ∧ (g' = g → ∃ b o S, μ a.block = some (b, o, S) ∧ (c' ≠ 0 → a' = ⟨b, o + a.off, none⟩ ∧ o + a.off + c' * e ≤ S))) :
      VR μ A (.slice (some a) n c) (.slice (some a') n c')
  | map0 : VR μ A (.map none) (.map none)
  | nilFunc : VR μ A .nilFunc .nilFunc
  | nilIface : VR μ A .nilIface .nilIface
  | func (fn : Fn) {xs ys cs ds : Array Value} (h1 : xs.size = ys.size) (h2 : ∀ (i : Nat) (h : i < xs.size) (h' : i < ys.size), VR μ A xs[i] ys[i])
      (h3 : cs.size = ds.size) (h4 : ∀ (i : Nat) (h : i < cs.size) (h' : i < ds.size), VR μ A cs[i] ds[i]) : VR μ A (.func fn xs cs) (.func fn ys ds)
  | iface (t : TypeId) {v v' : Value} (h : VR μ A v v') : VR μ A (.iface t v) (.iface t v')
  | agg {xs ys : Array Value} (h1 : xs.size = ys.size) (h2 : ∀ (i : Nat) (h : i < xs.size) (h' : i < ys.size), VR μ A xs[i] ys[i]) : VR μ A (.agg xs) (.agg ys)
  | tuple {xs ys : Array Value} (h1 : xs.size = ys.size) (h2 : ∀ (i : Nat) (h : i < xs.size) (h' : i < ys.size), VR μ A xs[i] ys[i]) : VR μ A (.tuple xs) (.tuple ys)

/-- Rows of values that agree. -/
def VRa (μ : Mu) (A : Hp) (xs ys : Array Value) : Prop := xs.size = ys.size ∧ ∀ (i : Nat) (h : i < xs.size) (h' : i < ys.size), VR μ A xs[i] ys[i]

/-- What was live is live at its place, or is no longer of its generation. -/
structure Ext (μ : Mu) (A : Hp) (μ' : Mu) (A' : Hp) : Prop where
  next : A.next ≤ A'.next
  row : ∀ id, id < A.next → ∀ cs g e, A'.blk id = some (.row cs g e) → ∃ cs0 g0 e0, A.blk id = some (.row cs0 g0 e0) ∧ ((g0 = g ∧ e0 = e ∧ ∀ p, μ id = some p → μ' id = some p) ∨ g0 < g)

theorem Ext.refl (μ : Mu) (A : Hp) : Ext μ A μ A := ⟨Nat.le_refl _, fun _ _ cs g e h => ⟨cs, g, e, h, .inl ⟨rfl, rfl, fun _ h => h⟩⟩⟩

theorem Ext.trans {μ μ' μ'' : Mu} {A A' A'' : Hp} (h : Ext μ A μ' A') (k : Ext μ' A' μ'' A'') : Ext μ A μ'' A'' :=
  ⟨Nat.le_trans h.next k.next, fun id hi cs g e hb => by
    obtain ⟨c1, g1, e1, h1, r1⟩ := k.row id (Nat.lt_of_lt_of_le hi h.next) cs g e hb
    obtain ⟨c0, g0, e0, h0, r0⟩ := h.row id hi c1 g1 e1 h1
    refine ⟨c0, g0, e0, h0, ?_⟩
    rcases r1 with ⟨rfl, rfl, m1⟩ | r1
    · rcases r0 with ⟨rfl, rfl, m0⟩ | r0
      · exact .inl ⟨rfl, rfl, fun p hp => m1 p (m0 p hp)⟩
      · exact .inr r0
    · rcases r0 with ⟨rfl, rfl, m0⟩ | r0
      · exact .inr r1
      · exact .inr (Nat.lt_trans r0 r1)⟩

theorem AR.mono {μ μ' : Mu} {A A' : Hp} (E : Ext μ A μ' A') {a a' : Addr} (h : AR μ A a a') : AR μ' A' a a' := by
  rcases h with h | ⟨hlt, g', hg, hl⟩
  · exact .inl h
  · refine .inr ⟨Nat.lt_of_lt_of_le hlt E.next, g', hg, fun cs g e hb => ?_⟩
    obtain ⟨c0, g0, e0, h0, r⟩ := E.row _ hlt cs g e hb
    obtain ⟨h1, h2⟩ := hl c0 g0 e0 h0
    rcases r with ⟨rfl, rfl, m⟩ | r
    · refine ⟨h1, fun hgg => ?_⟩
      obtain ⟨b, o, S, hm, hh⟩ := h2 hgg
      exact ⟨b, o, S, m _ hm, hh⟩
    · exact ⟨by omega, fun e => by omega⟩

theorem VR.mono {μ μ' : Mu} {A A' : Hp} (E : Ext μ A μ' A') {v v' : Value} (h : VR μ A v v') : VR μ' A' v v' := by
  induction h with
  | bool b => exact .bool b
  | int k n => exact .int k n
  | float k n => exact .float k n
  | string s => exact .string s
  | ptr0 => exact .ptr0
  | ptr h => exact .ptr (h.mono E)
  | sl0 n c => exact .sl0 n c
  | @sl a a' n c c' hlt hc hn hl =>
    obtain ⟨g', hg, hl⟩ := hl
    refine .sl (Nat.lt_of_lt_of_le hlt E.next) hc hn ⟨g', hg, fun cs g e hb => ?_⟩
    obtain ⟨c0, g0, e0, h0, r⟩ := E.row _ hlt cs g e hb
    obtain ⟨h1, h2⟩ := hl c0 g0 e0 h0
    rcases r with ⟨rfl, rfl, m⟩ | r
    · refine ⟨h1, fun hgg => ?_⟩
      obtain ⟨b, o, S, hm, hh⟩ := h2 hgg
      exact ⟨b, o, S, m _ hm, hh⟩
    · exact ⟨by omega, fun e => by omega⟩
  | map0 => exact .map0
  | nilFunc => exact .nilFunc
  | nilIface => exact .nilIface
  | func fn h1 h2 h3 h4 ih2 ih4 => exact .func fn h1 ih2 h3 ih4
  | iface t h ih => exact .iface t ih
  | agg h1 h2 ih => exact .agg h1 ih
  | tuple h1 h2 ih => exact .tuple h1 ih

theorem VRa.mono {μ μ' : Mu} {A A' : Hp} (E : Ext μ A μ' A') {xs ys : Array Value} (h : VRa μ A xs ys) : VRa μ' A' xs ys :=
  ⟨h.1, fun i hi hi' => (h.2 i hi hi').mono E⟩

/-- A value all of whose addresses are old enough. -/
def RB (n : Nat) (v : Value) : Prop := ∃ v', VR (fun _ => none) ⟨n, fun _ => none⟩ v v'

theorem Ext.none (μ : Mu) (A : Hp) {n : Nat} (h : A.next ≤ n) : Ext μ A (fun _ => .none) ⟨n, fun _ => .none⟩ := ⟨h, fun id hi cs g e hb => by simp at hb⟩

theorem VR.rb {μ : Mu} {A : Hp} {v v' : Value} (h : VR μ A v v') : RB A.next v := ⟨v', h.mono (Ext.none _ _ (Nat.le_refl _))⟩

/-- What agrees in a heap agrees in an elder one, if its addresses are old enough. -/
theorem VR.down {μ ν : Mu} {A B : Hp} (hb : ∀ id, id < B.next → A.blk id = B.blk id) (hm : ∀ id, id < B.next → ν id = μ id) {v v' : Value} (h : VR μ A v v') : RB B.next v → VR ν B v v' := by
  induction h with
  | bool b => exact fun _ => .bool b
  | int k n => exact fun _ => .int k n
  | float k n => exact fun _ => .float k n
  | string s => exact fun _ => .string s
  | ptr0 => exact fun _ => .ptr0
  | @ptr a a' h =>
    rintro ⟨v2, h2⟩
    refine .ptr ?_
    rcases h with h | ⟨hlt, g', hg, hl⟩
    · exact .inl h
    · have hlt2 : a.block < B.next := by
        cases h2 with
        | ptr h2 => rcases h2 with ⟨hs, _⟩ | ⟨h3, _⟩
                    · rw [hs] at hg; cases hg
                    · exact h3
      exact .inr ⟨hlt2, g', hg, fun cs g e hbk => by rw [hm _ hlt2]; exact hl cs g e ((hb _ hlt2).trans hbk)⟩
  | sl0 n c => exact fun _ => .sl0 n c
  | @sl a a' n c c' hlt hc hn hl =>
    rintro ⟨v2, h2⟩
    obtain ⟨g', hg, hl⟩ := hl
    have hlt2 : a.block < B.next := by cases h2 with | sl h3 _ _ _ => exact h3
    exact .sl hlt2 hc hn ⟨g', hg, fun cs g e hbk => by rw [hm _ hlt2]; exact hl cs g e ((hb _ hlt2).trans hbk)⟩
  | map0 => exact fun _ => .map0
  | nilFunc => exact fun _ => .nilFunc
  | nilIface => exact fun _ => .nilIface
  | func fn h1 h2 h3 h4 ih2 ih4 =>
    rintro ⟨v2, h⟩
    cases h with
    | func _ k1 k2 k3 k4 => exact .func fn h1 (fun i hi hi' => ih2 i hi hi' ⟨_, k2 i hi (by omega)⟩) h3 (fun i hi hi' => ih4 i hi hi' ⟨_, k4 i hi (by omega)⟩)
  | iface t h ih => rintro ⟨v2, h⟩; cases h with | iface _ k => exact .iface t (ih ⟨_, k⟩)
  | agg h1 h2 ih => rintro ⟨v2, h⟩; cases h with | agg k1 k2 => exact .agg h1 (fun i hi hi' => ih i hi hi' ⟨_, k2 i hi (by omega)⟩)
  | tuple h1 h2 ih => rintro ⟨v2, h⟩; cases h with | tuple k1 k2 => exact .tuple h1 (fun i hi hi' => ih i hi hi' ⟨_, k2 i hi (by omega)⟩)

/-- The package-level tables that are laid. -/
abbrev Gl := Nat → Option (List Value)

/-- The abstract heap lies in the world. -/
structure HR (G : Gl) (μ : Mu) (fl : Nat) (A : Hp) (w : World) : Prop where
  wf : ∀ id, A.next ≤ id → A.blk id = none
  refs : ∀ id cs g e, A.blk id = some (.row cs g e) → ∀ v ∈ cs, RB A.next v
  row : ∀ id cs g e b o S, A.blk id = some (.row cs g e) → μ id = some (b, o, S) →
    ∃ c t fr, w.heap[b]? = some (.cells c t fr) ∧ c.size = S ∧ o + cs.length ≤ S ∧ ∀ j v, cs[j]? = some v → ∃ v', c[o + j]? = some v' ∧ VR μ A v v'
  free : ∀ id cs g e b o S, fl ≤ id → A.blk id = some (.row cs g e) → μ id = some (b, o, S) → ∀ j, j < S → w.frozen? ⟨b, j, none⟩ = false
  apart : ∀ id id' b o S b' o' S', id ≠ id' → fl ≤ id → A.blk id ≠ none → A.blk id' ≠ none → μ id = some (b, o, S) → μ id' = some (b', o', S') → b ≠ b'
  glob : ∀ (g : Nat) (cs : List Value), G g = some cs → ∃ (c : Array Value) (t : TypeId) (fr : Nat × Nat), w.heap[g]? = some (.cells c t fr) ∧ ∀ (j : Nat) (v : Value), cs[j]? = some v → c[j]? = some v ∧ VR (fun _ => none) ⟨0, fun _ => none⟩ v v
  globApart : ∀ g cs id b o S, G g = some cs → fl ≤ id → A.blk id ≠ none → μ id = some (b, o, S) → b ≠ g

/-- A block of the world that may be written. -/
def Own (μ : Mu) (fl : Nat) (A : Hp) (b : Nat) : Prop := ∃ id o S, fl ≤ id ∧ A.blk id ≠ none ∧ μ id = some (b, o, S)

structure Trans (fl : Nat) (μ : Mu) (A : Hp) (w : World) (μ' : Mu) (A' : Hp) (w' : World) : Prop where
  os : w'.os = w.os
  tape : w'.tape = w.tape
  output : w'.output = w.output
  size : w.heap.size ≤ w'.heap.size
  ext : Ext μ A μ' A'
  low : ∀ id, id < fl → A'.blk id = A.blk id ∧ μ' id = μ id
  dom : ∀ id, id < A.next → μ id = none → μ' id = none
  frame : ∀ b, b < w.heap.size → ¬ Own μ fl A b → w'.heap[b]? = w.heap[b]?
  own : ∀ b, Own μ' fl A' b → Own μ fl A b ∨ w.heap.size ≤ b

theorem Trans.refl (fl : Nat) (μ : Mu) (A : Hp) (w : World) : Trans fl μ A w μ A w :=
  ⟨rfl, rfl, rfl, Nat.le_refl _, Ext.refl _ _, fun _ _ => ⟨rfl, rfl⟩, fun _ _ h => h, fun _ _ _ => rfl, fun _ h => .inl h⟩

theorem Trans.trans {fl : Nat} {μ μ' μ'' : Mu} {A A' A'' : Hp} {w w' w'' : World} (h : Trans fl μ A w μ' A' w') (k : Trans fl μ' A' w' μ'' A'' w'') :
    Trans fl μ A w μ'' A'' w'' := by
  refine ⟨k.os.trans h.os, k.tape.trans h.tape, k.output.trans h.output, Nat.le_trans h.size k.size, h.ext.trans k.ext, fun id hi => ?_, fun id hi hm => ?_, fun b hb ho => ?_, fun b hb => ?_⟩
  · exact ⟨(k.low id hi).1.trans (h.low id hi).1, (k.low id hi).2.trans (h.low id hi).2⟩
  · exact k.dom id (Nat.lt_of_lt_of_le hi h.ext.next) (h.dom id hi hm)
  · rw [k.frame b (Nat.lt_of_lt_of_le hb h.size) (fun ho' => by
      rcases h.own b ho' with h1 | h1
      · exact ho h1
      · omega), h.frame b hb ho]
  · rcases k.own b hb with h1 | h1
    · exact h.own b h1
    · exact .inr (Nat.le_trans h.size h1)

/-- A draw turns nothing. -/
theorem HR.of_heap {G : Gl} {μ : Mu} {fl : Nat} {A : Hp} {w w' : World} (h : HR G μ fl A w) (e : w'.heap = w.heap) : HR G μ fl A w' := by
  have hf : ∀ a, w'.frozen? a = w.frozen? a := fun a => by simp only [World.frozen?, e]
  refine ⟨h.wf, h.refs, fun id cs g es b o S => ?_, fun id cs g es b o S a1 a2 a3 j hj => ?_, h.apart, fun g cs => ?_, h.globApart⟩
  · rw [e]; exact h.row id cs g es b o S
  · rw [hf]; exact h.free id cs g es b o S a1 a2 a3 j hj
  · rw [e]; exact h.glob g cs

theorem Trans.of_heap (fl : Nat) (μ : Mu) (A : Hp) {w w' : World} (e : w'.heap = w.heap) (h1 : w'.os = w.os) (h2 : w'.tape = w.tape) (h3 : w'.output = w.output) :
    Trans fl μ A w μ A w' :=
  ⟨h1, h2, h3, by rw [e]; exact Nat.le_refl _, Ext.refl _ _, fun _ _ => ⟨rfl, rfl⟩, fun _ _ h => h, fun _ _ _ => by rw [e], fun _ h => .inl h⟩

/-- What a call under the floor 'next' leaves behind is good for every lower floor. -/
theorem Trans.lift {fl : Nat} {μ μ' : Mu} {A A' : Hp} {w w' : World} {G : Gl} (H : HR G μ fl A w) (hfl : fl ≤ A.next) (h : Trans A.next μ A w μ' A' w') : Trans fl μ A w μ' A' w' := by
  have none_own : ∀ b, ¬ Own μ A.next A b := fun b ⟨id, _, _, hi, hb, _⟩ => hb (H.wf id hi)
  refine ⟨h.os, h.tape, h.output, h.size, h.ext, fun id hi => h.low id (by omega), h.dom, fun b hb _ => h.frame b hb (none_own b), fun b ⟨id, o, S, hi, hbk, hm⟩ => ?_⟩
  by_cases hlt : id < A.next
  · obtain ⟨e1, e2⟩ := h.low id hlt
    exact .inl ⟨id, o, S, hi, e1 ▸ hbk, e2 ▸ hm⟩
  · rcases h.own b ⟨id, o, S, by omega, hbk, hm⟩ with h1 | h1
    · exact absurd h1 (none_own b)
    · exact .inr h1

theorem live_lt {G : Gl} {μ : Mu} {fl : Nat} {A : Hp} {w : World} (H : HR G μ fl A w) {id b o S : Nat} (hb : A.blk id ≠ none) (hm : μ id = some (b, o, S)) : b < w.heap.size := by
  cases hk : A.blk id with
  | none => exact absurd hk hb
  | some k =>
    cases k with
    | row cs g e =>
      obtain ⟨c, t, fr, hw, _⟩ := H.row id cs g e b o S hk hm
      exact (Array.getElem?_eq_some_iff.1 hw).1

theorem HR.lift {fl : Nat} {μ μ' : Mu} {A A' : Hp} {w w' : World} {G : Gl} (H : HR G μ fl A w) (hfl : fl ≤ A.next) (h : Trans A.next μ A w μ' A' w') (k : HR G μ' A.next A' w') : HR G μ' fl A' w' := by
  have none_own : ∀ b, ¬ Own μ A.next A b := fun b ⟨id, _, _, hi, hb, _⟩ => hb (H.wf id hi)
  refine ⟨k.wf, k.refs, k.row, fun id cs g e b o S hi hb hm j hj => ?_, fun id id' b o S b' o' S' hne hi hb hb' hm hm' => ?_, k.glob, fun g cs id b o S hg hi hb hm => ?_⟩
  · by_cases hlt : id < A.next
    · obtain ⟨e1, e2⟩ := h.low id hlt
      rw [e1] at hb; rw [e2] at hm
      have := H.free id cs g e b o S hi hb hm j hj
      have hbl := live_lt H (by rw [hb]; simp) hm
      have hfr := h.frame b hbl (none_own b)
      simp only [World.frozen?, hfr] at this ⊢
      exact this
    · exact k.free id cs g e b o S (by omega) hb hm j hj
  · by_cases hlt : id < A.next
    · by_cases hlt' : id' < A.next
      · obtain ⟨e1, e2⟩ := h.low id hlt
        obtain ⟨e3, e4⟩ := h.low id' hlt'
        exact H.apart id id' b o S b' o' S' hne hi (e1 ▸ hb) (e3 ▸ hb') (e2 ▸ hm) (e4 ▸ hm')
      · exact Ne.symm (k.apart id' id b' o' S' b o S (Ne.symm hne) (by omega) hb' hb hm' hm)
    · exact k.apart id id' b o S b' o' S' hne (by omega) hb hb' hm hm'
  · by_cases hlt : id < A.next
    · obtain ⟨e1, e2⟩ := h.low id hlt
      exact H.globApart g cs id b o S hg hi (e1 ▸ hb) (e2 ▸ hm)
    · exact k.globApart g cs id b o S hg (by omega) hb hm
theorem RB.mono {m n : Nat} (h : m ≤ n) {v : Value} (k : RB m v) : RB n v := by
  obtain ⟨v', k⟩ := k
  exact ⟨v', k.mono (Ext.none _ ⟨m, _⟩ h)⟩

theorem HR.raise {G : Gl} {μ : Mu} {fl fl' : Nat} {A : Hp} {w : World} (H : HR G μ fl A w) (h : fl ≤ fl') : HR G μ fl' A w :=
  ⟨H.wf, H.refs, H.row, fun id cs g e b o S hf => H.free id cs g e b o S (by omega), fun id id' b o S b' o' S' hne hf => H.apart id id' b o S b' o' S' hne (by omega), H.glob, fun g cs id b o S hg hf => H.globApart g cs id b o S hg (by omega)⟩

end Go.Proofs.YtpaffoiiipgkeaaDoor.Ab
