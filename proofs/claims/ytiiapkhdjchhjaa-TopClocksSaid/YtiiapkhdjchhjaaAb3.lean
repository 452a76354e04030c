/- The abstract heap, and how it lies in a world of the model: values that agree up to where memory lies; one step of both. -/
import Derived.WalkKit
import Derived.Orders
import Derived.Laws.StructEq
namespace Go.Proofs.Ytiiapkhdjchhjaa.Ab
open Go.RowKit
set_option linter.unusedVariables false

/-- A block of the abstract heap: a row of cells; how often it has grown; how many cells an element takes. -/
inductive Blk where
  | row (cells : List Value) (gen esz : Nat)
  | mp (es : List (Value × Value × Nat)) (clock : Nat)
  | it (m : Option Nat) (since : Nat) (seen : List Nat) (last : Nat)

/-- A block that is a map or an iterator. -/
def Blk.obj : Blk → Bool
  | .row .. => false
  | _ => true

structure Hp where
  next : Nat
  blk : Nat → Option Blk

/-- Where a block lies: block of the world, first cell, cells of that block. -/
abbrev Pl := Nat × Nat × Nat
abbrev Mu := Nat → Option Pl

/-- An address: a package-level variable's stays; a block's goes by the map, while it is of its generation. -/
def AR (μ : Mu) (A : Hp) (a a' : Addr) : Prop :=
  (a.spot = none ∧ a' = a) ∨
  (a.block < A.next ∧ ∃ g', a.spot = some g' ∧ ∀ cs g e, A.blk a.block = some (.row cs g e) → g' ≤ g ∧ (g' = g → ∃ b o S, μ a.block = some (b, o, S) ∧ a' = ⟨b, o + a.off, none⟩))

inductive VR (μ : Mu) (A : Hp) : Value → Value → Prop
  | bool (b : Bool) : VR μ A (.bool b) (.bool b)
  | int (k : IntKind) (n : Int) : VR μ A (.int k n) (.int k n)
  | float (k : FloatKind) (n : Nat) : VR μ A (.float k n) (.float k n)
  | string (s : ByteArray) : VR μ A (.string s) (.string s)
  | ptr0 : VR μ A (.pointer none) (.pointer none)
  | ptr {a a' : Addr} (h : AR μ A a a') : VR μ A (.pointer (some a)) (.pointer (some a'))
  | sl0 (n c : Nat) : VR μ A (.slice none n c) (.slice none n c)
  | sl {a a' : Addr} {n c c' : Nat} (hlt : a.block < A.next) (hc : c ≤ c') (hn : n ≤ c')
      (hl : ∃ g', a.spot = some g' ∧ ∀ cs g e, A.blk a.block = some (.row cs g e) → g' ≤ g ∧ (g' = g → ∃ b o S, μ a.block = some (b, o, S) ∧ (c' ≠ 0 → a' = ⟨b, o + a.off, none⟩ ∧ o + a.off + c' * e ≤ S))) :
      VR μ A (.slice (some a) n c) (.slice (some a') n c')
  | map0 : VR μ A (.map none) (.map none)
  | map {r r' : Nat} (hlt : r < A.next) (hl : ∀ k, A.blk r = some k → k.obj = true → ∃ o S, μ r = some (r', o, S)) : VR μ A (.map (some r)) (.map (some r'))
  | iter {r r' : Nat} (hlt : r < A.next) (hl : ∀ k, A.blk r = some k → k.obj = true → ∃ o S, μ r = some (r', o, S)) : VR μ A (.chan (some r)) (.pointer (some ⟨r', 0, none⟩))
  | nilFunc : VR μ A .nilFunc .nilFunc
  | nilIface : VR μ A .nilIface .nilIface
  | func (fn : Fn) {xs ys cs ds : Array Value} (h1 : xs.size = ys.size) (h2 : ∀ (i : Nat) (h : i < xs.size) (h' : i < ys.size), VR μ A xs[i] ys[i])
      (h3 : cs.size = ds.size) (h4 : ∀ (i : Nat) (h : i < cs.size) (h' : i < ds.size), VR μ A cs[i] ds[i]) : VR μ A (.func fn xs cs) (.func fn ys ds)
  | iface (t : TypeId) {v v' : Value} (h : VR μ A v v') : VR μ A (.iface t v) (.iface t v')
  | agg {xs ys : Array Value} (h1 : xs.size = ys.size) (h2 : ∀ (i : Nat) (h : i < xs.size) (h' : i < ys.size), VR μ A xs[i] ys[i]) : VR μ A (.agg xs) (.agg ys)
  | tuple {xs ys : Array Value} (h1 : xs.size = ys.size) (h2 : ∀ (i : Nat) (h : i < xs.size) (h' : i < ys.size), VR μ A xs[i] ys[i]) : VR μ A (.tuple xs) (.tuple ys)

/-- Rows of values that agree. -/
def VRa (μ : Mu) (A : Hp) (xs ys : Array Value) : Prop := xs.size = ys.size ∧ ∀ (i : Nat) (h : i < xs.size) (h' : i < ys.size), VR μ A xs[i] ys[i]

/-- What was live is live at its place, or is no longer of its generation. -/
structure Ext (μ : Mu) (A : Hp) (μ' : Mu) (A' : Hp) : Prop where
  next : A.next ≤ A'.next
  row : ∀ id, id < A.next → ∀ cs g e, A'.blk id = some (.row cs g e) → ∃ cs0 g0 e0, A.blk id = some (.row cs0 g0 e0) ∧ ((g0 = g ∧ e0 = e ∧ ∀ p, μ id = some p → μ' id = some p) ∨ g0 < g)
  obj : ∀ id, id < A.next → ∀ k, A'.blk id = some k → k.obj = true → (∃ k0, A.blk id = some k0 ∧ k0.obj = true) ∧ ∀ p, μ id = some p → μ' id = some p

theorem Ext.refl (μ : Mu) (A : Hp) : Ext μ A μ A := ⟨Nat.le_refl _, fun _ _ cs g e h => ⟨cs, g, e, h, .inl ⟨rfl, rfl, fun _ h => h⟩⟩, fun _ _ k h ho => ⟨⟨k, h, ho⟩, fun _ h => h⟩⟩

theorem Ext.trans {μ μ' μ'' : Mu} {A A' A'' : Hp} (h : Ext μ A μ' A') (k : Ext μ' A' μ'' A'') : Ext μ A μ'' A'' :=
  ⟨Nat.le_trans h.next k.next, fun id hi cs g e hb => by
    obtain ⟨c1, g1, e1, h1, r1⟩ := k.row id (Nat.lt_of_lt_of_le hi h.next) cs g e hb
    obtain ⟨c0, g0, e0, h0, r0⟩ := h.row id hi c1 g1 e1 h1
    refine ⟨c0, g0, e0, h0, ?_⟩
    rcases r1 with ⟨rfl, rfl, m1⟩ | r1
    · rcases r0 with ⟨rfl, rfl, m0⟩ | r0
      · exact .inl ⟨rfl, rfl, fun p hp => m1 p (m0 p hp)⟩
      · exact .inr r0
    · rcases r0 with ⟨rfl, rfl, m0⟩ | r0
      · exact .inr r1
      · exact .inr (Nat.lt_trans r0 r1),
  fun id hi x hb ho => by
    obtain ⟨⟨k1, h1, o1⟩, m1⟩ := k.obj id (Nat.lt_of_lt_of_le hi h.next) x hb ho
    obtain ⟨h0, m0⟩ := h.obj id hi k1 h1 o1
    exact ⟨h0, fun p hp => m1 p (m0 p hp)⟩⟩

theorem AR.mono {μ μ' : Mu} {A A' : Hp} (E : Ext μ A μ' A') {a a' : Addr} (h : AR μ A a a') : AR μ' A' a a' := by
  rcases h with h | ⟨hlt, g', hg, hl⟩
  · exact .inl h
  · refine .inr ⟨Nat.lt_of_lt_of_le hlt E.next, g', hg, fun cs g e hb => ?_⟩
    obtain ⟨c0, g0, e0, h0, r⟩ := E.row _ hlt cs g e hb
    obtain ⟨h1, h2⟩ := hl c0 g0 e0 h0
    rcases r with ⟨rfl, rfl, m⟩ | r
    · refine ⟨h1, fun hgg => ?_⟩
      obtain ⟨b, o, S, hm, hh⟩ := h2 hgg
      exact ⟨b, o, S, m _ hm, hh⟩
    · exact ⟨by omega, fun e => by omega⟩

theorem VR.mono {μ μ' : Mu} {A A' : Hp} (E : Ext μ A μ' A') {v v' : Value} (h : VR μ A v v') : VR μ' A' v v' := by
  induction h with
  | bool b => exact .bool b
  | int k n => exact .int k n
  | float k n => exact .float k n
  | string s => exact .string s
  | ptr0 => exact .ptr0
  | ptr h => exact .ptr (h.mono E)
  | sl0 n c => exact .sl0 n c
  | @sl a a' n c c' hlt hc hn hl =>
    obtain ⟨g', hg, hl⟩ := hl
    refine .sl (Nat.lt_of_lt_of_le hlt E.next) hc hn ⟨g', hg, fun cs g e hb => ?_⟩
    obtain ⟨c0, g0, e0, h0, r⟩ := E.row _ hlt cs g e hb
    obtain ⟨h1, h2⟩ := hl c0 g0 e0 h0
    rcases r with ⟨rfl, rfl, m⟩ | r
    · refine ⟨h1, fun hgg => ?_⟩
      obtain ⟨b, o, S, hm, hh⟩ := h2 hgg
      exact ⟨b, o, S, m _ hm, hh⟩
    · exact ⟨by omega, fun e => by omega⟩
  | map0 => exact .map0
  | map hlt hl =>
    refine .map (Nat.lt_of_lt_of_le hlt E.next) fun k hk ho => ?_
    obtain ⟨⟨k0, h0, o0⟩, m⟩ := E.obj _ hlt k hk ho
    obtain ⟨o, S, hm⟩ := hl k0 h0 o0
    exact ⟨o, S, m _ hm⟩
  | iter hlt hl =>
    refine .iter (Nat.lt_of_lt_of_le hlt E.next) fun k hk ho => ?_
    obtain ⟨⟨k0, h0, o0⟩, m⟩ := E.obj _ hlt k hk ho
    obtain ⟨o, S, hm⟩ := hl k0 h0 o0
    exact ⟨o, S, m _ hm⟩
  | nilFunc => exact .nilFunc
  | nilIface => exact .nilIface
  | func fn h1 h2 h3 h4 ih2 ih4 => exact .func fn h1 ih2 h3 ih4
  | iface t h ih => exact .iface t ih
  | agg h1 h2 ih => exact .agg h1 ih
  | tuple h1 h2 ih => exact .tuple h1 ih

theorem VRa.mono {μ μ' : Mu} {A A' : Hp} (E : Ext μ A μ' A') {xs ys : Array Value} (h : VRa μ A xs ys) : VRa μ' A' xs ys :=
  ⟨h.1, fun i hi hi' => (h.2 i hi hi').mono E⟩

/-- A value all of whose addresses are old enough. -/
def RB (n : Nat) (v : Value) : Prop := ∃ v', VR (fun _ => none) ⟨n, fun _ => none⟩ v v'

theorem Ext.none (μ : Mu) (A : Hp) {n : Nat} (h : A.next ≤ n) : Ext μ A (fun _ => .none) ⟨n, fun _ => .none⟩ := ⟨h, fun id hi cs g e hb => by simp at hb, fun id hi k hb => by simp at hb⟩

theorem VR.rb {μ : Mu} {A : Hp} {v v' : Value} (h : VR μ A v v') : RB A.next v := ⟨v', h.mono (Ext.none _ _ (Nat.le_refl _))⟩

/-- What agrees in a heap agrees in an elder one, if its addresses are old enough. -/
theorem VR.down {μ ν : Mu} {A B : Hp} (hb : ∀ id, id < B.next → A.blk id = B.blk id) (hm : ∀ id, id < B.next → ν id = μ id) {v v' : Value} (h : VR μ A v v') : RB B.next v → VR ν B v v' := by
  induction h with
  | bool b => exact fun _ => .bool b
  | int k n => exact fun _ => .int k n
  | float k n => exact fun _ => .float k n
  | string s => exact fun _ => .string s
  | ptr0 => exact fun _ => .ptr0
  | @ptr a a' h =>
    rintro ⟨v2, h2⟩
    refine .ptr ?_
    rcases h with h | ⟨hlt, g', hg, hl⟩
    · exact .inl h
    · have hlt2 : a.block < B.next := by
        cases h2 with
        | ptr h2 => rcases h2 with ⟨hs, _⟩ | ⟨h3, _⟩
                    · rw [hs] at hg; cases hg
                    · exact h3
      exact .inr ⟨hlt2, g', hg, fun cs g e hbk => by rw [hm _ hlt2]; exact hl cs g e ((hb _ hlt2).trans hbk)⟩
  | sl0 n c => exact fun _ => .sl0 n c
  | @sl a a' n c c' hlt hc hn hl =>
    rintro ⟨v2, h2⟩
    obtain ⟨g', hg, hl⟩ := hl
    have hlt2 : a.block < B.next := by cases h2 with | sl h3 _ _ _ => exact h3
    exact .sl hlt2 hc hn ⟨g', hg, fun cs g e hbk => by rw [hm _ hlt2]; exact hl cs g e ((hb _ hlt2).trans hbk)⟩
  | map0 => exact fun _ => .map0
  | map hlt hl =>
    rintro ⟨v2, h2⟩
    have hlt2 := by cases h2 with | map h3 _ => exact h3
    exact .map hlt2 fun k hk ho => by rw [hm _ hlt2]; exact hl k ((hb _ hlt2).trans hk) ho
  | iter hlt hl =>
    rintro ⟨v2, h2⟩
    have hlt2 := by cases h2 with | iter h3 _ => exact h3
    exact .iter hlt2 fun k hk ho => by rw [hm _ hlt2]; exact hl k ((hb _ hlt2).trans hk) ho
  | nilFunc => exact fun _ => .nilFunc
  | nilIface => exact fun _ => .nilIface
  | func fn h1 h2 h3 h4 ih2 ih4 =>
    rintro ⟨v2, h⟩
    cases h with
    | func _ k1 k2 k3 k4 => exact .func fn h1 (fun i hi hi' => ih2 i hi hi' ⟨_, k2 i hi (by omega)⟩) h3 (fun i hi hi' => ih4 i hi hi' ⟨_, k4 i hi (by omega)⟩)
  | iface t h ih => rintro ⟨v2, h⟩; cases h with | iface _ k => exact .iface t (ih ⟨_, k⟩)
  | agg h1 h2 ih => rintro ⟨v2, h⟩; cases h with | agg k1 k2 => exact .agg h1 (fun i hi hi' => ih i hi hi' ⟨_, k2 i hi (by omega)⟩)
  | tuple h1 h2 ih => rintro ⟨v2, h⟩; cases h with | tuple k1 k2 => exact .tuple h1 (fun i hi hi' => ih i hi hi' ⟨_, k2 i hi (by omega)⟩)

/-- What a map or an iterator holds is old enough. -/
def Blk.RBs (n : Nat) : Blk → Prop
  | .row .. => True
  | .mp es _ => ∀ e ∈ es, RB n e.1 ∧ RB n e.2.1
  | .it m _ _ _ => RB n (.map m)

/-- All that a block holds is old enough. -/
def Blk.RBa (n : Nat) : Blk → Prop
  | .row cs _ _ => ∀ v ∈ cs, RB n v
  | .mp es _ => ∀ e ∈ es, RB n e.1 ∧ RB n e.2.1
  | .it m _ _ _ => RB n (.map m)

theorem Blk.RBa.s {n : Nat} {k : Blk} (h : k.RBa n) : k.RBs n := by
  cases k <;> first | trivial | exact h

/-- A map or an iterator, as it lies in the world. -/
def BR (μ : Mu) (A : Hp) : Blk → Obj → Prop
  | .mp es ck, .map ents ck' => ck = ck' ∧ ents.size = es.length ∧ ∀ (j : Nat) (e : Value × Value × Nat), es[j]? = some e → ∃ e' : MapEntry, ents[j]? = some e' ∧ VR μ A e.1 e'.key ∧ VR μ A e.2.1 e'.val ∧ e'.born = e.2.2
  | .it m since seen last, .mapIter m' since' seen' last' => VR μ A (.map m) (.map m') ∧ since = since' ∧ seen.toArray = seen' ∧ last = last'
  | _, _ => False

theorem BR.mono {μ μ' : Mu} {A A' : Hp} (E : Ext μ A μ' A') {k : Blk} {o : Obj} (h : BR μ A k o) : BR μ' A' k o := by
  cases k with
  | row cs g e => cases o <;> exact h
  | mp es ck =>
    cases o with
    | map ents ck' =>
      obtain ⟨h1, h2, h3⟩ := h
      refine ⟨h1, h2, fun j e he => ?_⟩
      obtain ⟨e', k1, k2, k3, k4⟩ := h3 j e he
      exact ⟨e', k1, k2.mono E, k3.mono E, k4⟩
    | _ => exact h
  | it m s n l =>
    cases o with
    | mapIter m' s' n' l' => exact ⟨h.1.mono E, h.2⟩
    | _ => exact h

theorem BR.down {μ ν : Mu} {A B : Hp} (hb : ∀ id, id < B.next → A.blk id = B.blk id) (hm : ∀ id, id < B.next → ν id = μ id) {k : Blk} {o : Obj} (h : BR μ A k o) (hr : k.RBs B.next) : BR ν B k o := by
  cases k with
  | row cs g e => cases o <;> exact h
  | mp es ck =>
    cases o with
    | map ents ck' =>
      obtain ⟨h1, h2, h3⟩ := h
      refine ⟨h1, h2, fun j e he => ?_⟩
      obtain ⟨e', k1, k2, k3, k4⟩ := h3 j e he
      obtain ⟨r1, r2⟩ := hr e (List.mem_of_getElem? he)
      exact ⟨e', k1, k2.down hb hm r1, k3.down hb hm r2, k4⟩
    | _ => exact h
  | it m s n l =>
    cases o with
    | mapIter m' s' n' l' => exact ⟨h.1.down hb hm hr, h.2⟩
    | _ => exact h

theorem BR.conv {n : Nat} {μ ν : Mu} {A B : Hp} (h : ∀ {u u' : Value}, RB n u → VR μ A u u' → VR ν B u u') {k : Blk} {o : Obj} (hk : BR μ A k o) (hr : k.RBs n) : BR ν B k o := by
  cases k with
  | row cs g e => cases o <;> exact hk
  | mp es ck =>
    cases o with
    | map ents ck' =>
      obtain ⟨h1, h2, h3⟩ := hk
      refine ⟨h1, h2, fun j e he => ?_⟩
      obtain ⟨e', k1, k2, k3, k4⟩ := h3 j e he
      obtain ⟨r1, r2⟩ := hr e (List.mem_of_getElem? he)
      exact ⟨e', k1, h r1 k2, h r2 k3, k4⟩
    | _ => exact hk
  | it m s n l =>
    cases o with
    | mapIter m' s' n' l' => exact ⟨h hr hk.1, hk.2⟩
    | _ => exact hk

theorem Blk.RBs.mono {m n : Nat} (h : m ≤ n) {k : Blk} (hk : k.RBs m) : k.RBs n := by
  have go : ∀ {v : Value}, RB m v → RB n v := fun ⟨v', k⟩ => ⟨v', k.mono (Ext.none _ ⟨m, _⟩ h)⟩
  cases k with
  | row cs g e => trivial
  | mp es ck => exact fun e he => ⟨go (hk e he).1, go (hk e he).2⟩
  | it a b c d => exact go hk

/-- The package-level tables that are laid. -/
abbrev Gl := Nat → Option (List Value)

/-- The abstract heap lies in the world. -/
structure HR (G : Gl) (μ : Mu) (fl : Nat) (A : Hp) (w : World) : Prop where
  wf : ∀ id, A.next ≤ id → A.blk id = none
  refs : ∀ id cs g e, A.blk id = some (.row cs g e) → ∀ v ∈ cs, RB A.next v
  row : ∀ id cs g e b o S, A.blk id = some (.row cs g e) → μ id = some (b, o, S) →
    ∃ c t fr, w.heap[b]? = some (.cells c t fr) ∧ c.size = S ∧ o + cs.length ≤ S ∧ ∀ j v, cs[j]? = some v → ∃ v', c[o + j]? = some v' ∧ VR μ A v v'
  free : ∀ id cs g e b o S, fl ≤ id → A.blk id = some (.row cs g e) → μ id = some (b, o, S) → ∀ j, j < S → w.frozen? ⟨b, j, none⟩ = false
  apart : ∀ id id' b o S b' o' S', id ≠ id' → fl ≤ id → A.blk id ≠ none → A.blk id' ≠ none → μ id = some (b, o, S) → μ id' = some (b', o', S') → b ≠ b'
  glob : ∀ (g : Nat) (cs : List Value), G g = some cs → ∃ (c : Array Value) (t : TypeId) (fr : Nat × Nat), w.heap[g]? = some (.cells c t fr) ∧ ∀ (j : Nat) (v : Value), cs[j]? = some v → c[j]? = some v ∧ VR (fun _ => none) ⟨0, fun _ => none⟩ v v
  globApart : ∀ g cs id b o S, G g = some cs → fl ≤ id → A.blk id ≠ none → μ id = some (b, o, S) → b ≠ g
  orefs : ∀ id k, A.blk id = some k → k.RBs A.next
  obj : ∀ id k b o S, A.blk id = some k → k.obj = true → μ id = some (b, o, S) → ∃ ob, w.heap[b]? = some ob ∧ BR μ A k ob

/-- A block of the world that may be written. -/
def Own (μ : Mu) (fl : Nat) (A : Hp) (b : Nat) : Prop := ∃ id o S, fl ≤ id ∧ A.blk id ≠ none ∧ μ id = some (b, o, S)

structure Trans (fl : Nat) (μ : Mu) (A : Hp) (w : World) (μ' : Mu) (A' : Hp) (w' : World) : Prop where
  os : w'.os = w.os
  tape : w'.tape = w.tape
  output : w'.output = w.output
  size : w.heap.size ≤ w'.heap.size
  ext : Ext μ A μ' A'
  low : ∀ id, id < fl → A'.blk id = A.blk id ∧ μ' id = μ id
  dom : ∀ id, id < A.next → μ id = none → μ' id = none
  frame : ∀ b, b < w.heap.size → ¬ Own μ fl A b → w'.heap[b]? = w.heap[b]?
  own : ∀ b, Own μ' fl A' b → Own μ fl A b ∨ w.heap.size ≤ b

theorem Trans.refl (fl : Nat) (μ : Mu) (A : Hp) (w : World) : Trans fl μ A w μ A w :=
  ⟨rfl, rfl, rfl, Nat.le_refl _, Ext.refl _ _, fun _ _ => ⟨rfl, rfl⟩, fun _ _ h => h, fun _ _ _ => rfl, fun _ h => .inl h⟩

theorem Trans.trans {fl : Nat} {μ μ' μ'' : Mu} {A A' A'' : Hp} {w w' w'' : World} (h : Trans fl μ A w μ' A' w') (k : Trans fl μ' A' w' μ'' A'' w'') :
    Trans fl μ A w μ'' A'' w'' := by
  refine ⟨k.os.trans h.os, k.tape.trans h.tape, k.output.trans h.output, Nat.le_trans h.size k.size, h.ext.trans k.ext, fun id hi => ?_, fun id hi hm => ?_, fun b hb ho => ?_, fun b hb => ?_⟩
  · exact ⟨(k.low id hi).1.trans (h.low id hi).1, (k.low id hi).2.trans (h.low id hi).2⟩
  · exact k.dom id (Nat.lt_of_lt_of_le hi h.ext.next) (h.dom id hi hm)
  · rw [k.frame b (Nat.lt_of_lt_of_le hb h.size) (fun ho' => by
      rcases h.own b ho' with h1 | h1
      · exact ho h1
      · omega), h.frame b hb ho]
  · rcases k.own b hb with h1 | h1
    · exact h.own b h1
    · exact .inr (Nat.le_trans h.size h1)

/-- A draw turns nothing. -/
theorem HR.of_heap {G : Gl} {μ : Mu} {fl : Nat} {A : Hp} {w w' : World} (h : HR G μ fl A w) (e : w'.heap = w.heap) : HR G μ fl A w' := by
  have hf : ∀ a, w'.frozen? a = w.frozen? a := fun a => by simp only [World.frozen?, e]
  refine ⟨h.wf, h.refs, fun id cs g es b o S => ?_, fun id cs g es b o S a1 a2 a3 j hj => ?_, h.apart, fun g cs => ?_, h.globApart, h.orefs, by rw [e]; exact h.obj⟩
  · rw [e]; exact h.row id cs g es b o S
  · rw [hf]; exact h.free id cs g es b o S a1 a2 a3 j hj
  · rw [e]; exact h.glob g cs

theorem Trans.of_heap (fl : Nat) (μ : Mu) (A : Hp) {w w' : World} (e : w'.heap = w.heap) (h1 : w'.os = w.os) (h2 : w'.tape = w.tape) (h3 : w'.output = w.output) :
    Trans fl μ A w μ A w' :=
  ⟨h1, h2, h3, by rw [e]; exact Nat.le_refl _, Ext.refl _ _, fun _ _ => ⟨rfl, rfl⟩, fun _ _ h => h, fun _ _ _ => by rw [e], fun _ h => .inl h⟩

/-- What a call under the floor 'next' leaves behind is good for every lower floor. -/
theorem Trans.lift {fl : Nat} {μ μ' : Mu} {A A' : Hp} {w w' : World} {G : Gl} (H : HR G μ fl A w) (hfl : fl ≤ A.next) (h : Trans A.next μ A w μ' A' w') : Trans fl μ A w μ' A' w' := by
  have none_own : ∀ b, ¬ Own μ A.next A b := fun b ⟨id, _, _, hi, hb, _⟩ => hb (H.wf id hi)
  refine ⟨h.os, h.tape, h.output, h.size, h.ext, fun id hi => h.low id (by omega), h.dom, fun b hb _ => h.frame b hb (none_own b), fun b ⟨id, o, S, hi, hbk, hm⟩ => ?_⟩
  by_cases hlt : id < A.next
  · obtain ⟨e1, e2⟩ := h.low id hlt
    exact .inl ⟨id, o, S, hi, e1 ▸ hbk, e2 ▸ hm⟩
  · rcases h.own b ⟨id, o, S, by omega, hbk, hm⟩ with h1 | h1
    · exact absurd h1 (none_own b)
    · exact .inr h1

theorem live_lt {G : Gl} {μ : Mu} {fl : Nat} {A : Hp} {w : World} (H : HR G μ fl A w) {id b o S : Nat} (hb : A.blk id ≠ none) (hm : μ id = some (b, o, S)) : b < w.heap.size := by
  cases hk : A.blk id with
  | none => exact absurd hk hb
  | some k =>
    cases k with
    | row cs g e =>
      obtain ⟨c, t, fr, hw, _⟩ := H.row id cs g e b o S hk hm
      exact (Array.getElem?_eq_some_iff.1 hw).1
    | _ =>
      obtain ⟨ob, hw, _⟩ := H.obj id _ b o S hk rfl hm
      exact (Array.getElem?_eq_some_iff.1 hw).1

theorem HR.lift {fl : Nat} {μ μ' : Mu} {A A' : Hp} {w w' : World} {G : Gl} (H : HR G μ fl A w) (hfl : fl ≤ A.next) (h : Trans A.next μ A w μ' A' w') (k : HR G μ' A.next A' w') : HR G μ' fl A' w' := by
  have none_own : ∀ b, ¬ Own μ A.next A b := fun b ⟨id, _, _, hi, hb, _⟩ => hb (H.wf id hi)
  refine ⟨k.wf, k.refs, k.row, fun id cs g e b o S hi hb hm j hj => ?_, fun id id' b o S b' o' S' hne hi hb hb' hm hm' => ?_, k.glob, fun g cs id b o S hg hi hb hm => ?_, k.orefs, k.obj⟩
  · by_cases hlt : id < A.next
    · obtain ⟨e1, e2⟩ := h.low id hlt
      rw [e1] at hb; rw [e2] at hm
      have := H.free id cs g e b o S hi hb hm j hj
      have hbl := live_lt H (by rw [hb]; simp) hm
      have hfr := h.frame b hbl (none_own b)
      simp only [World.frozen?, hfr] at this ⊢
      exact this
    · exact k.free id cs g e b o S (by omega) hb hm j hj
  · by_cases hlt : id < A.next
    · by_cases hlt' : id' < A.next
      · obtain ⟨e1, e2⟩ := h.low id hlt
        obtain ⟨e3, e4⟩ := h.low id' hlt'
        exact H.apart id id' b o S b' o' S' hne hi (e1 ▸ hb) (e3 ▸ hb') (e2 ▸ hm) (e4 ▸ hm')
      · exact Ne.symm (k.apart id' id b' o' S' b o S (Ne.symm hne) (by omega) hb' hb hm' hm)
    · exact k.apart id id' b o S b' o' S' hne (by omega) hb hb' hm hm'
  · by_cases hlt : id < A.next
    · obtain ⟨e1, e2⟩ := h.low id hlt
      exact H.globApart g cs id b o S hg hi (e1 ▸ hb) (e2 ▸ hm)
    · exact k.globApart g cs id b o S hg (by omega) hb hm
theorem RB.mono {m n : Nat} (h : m ≤ n) {v : Value} (k : RB m v) : RB n v := by
  obtain ⟨v', k⟩ := k
  exact ⟨v', k.mono (Ext.none _ ⟨m, _⟩ h)⟩

theorem HR.raise {G : Gl} {μ : Mu} {fl fl' : Nat} {A : Hp} {w : World} (H : HR G μ fl A w) (h : fl ≤ fl') : HR G μ fl' A w :=
  ⟨H.wf, H.refs, H.row, fun id cs g e b o S hf => H.free id cs g e b o S (by omega), fun id id' b o S b' o' S' hne hf => H.apart id id' b o S b' o' S' hne (by omega), H.glob, fun g cs id b o S hg hf => H.globApart g cs id b o S hg (by omega), H.orefs, H.obj⟩

end Go.Proofs.Ytiiapkhdjchhjaa.Ab

/- Reading, making and writing blocks of the abstract heap, and of the world under it. -/
namespace Go.Proofs.Ytiiapkhdjchhjaa.Ab
open Go.RowKit
set_option linter.unusedVariables false

/-- An abstract address, so many cells on. -/
def aadd (a : Addr) (n : Nat) : Addr := { a with off := a.off + n }

theorem AR.add {μ : Mu} {A : Hp} {a a' : Addr} (h : AR μ A a a') (n : Nat) : AR μ A (aadd a n) (a'.add n) := by
  rcases h with ⟨hs, rfl⟩ | ⟨hlt, g, hg, hl⟩
  · refine .inl ⟨hs, ?_⟩
    obtain ⟨b, o, s⟩ := a'
    cases hs
    unfold Addr.add aadd
    split <;> simp_all
  · refine .inr ⟨hlt, g, hg, fun cs g2 e hb => ⟨(hl cs g2 e hb).1, fun hgg => ?_⟩⟩
    obtain ⟨b, o, S, hm, rfl⟩ := (hl cs g2 e hb).2 hgg
    refine ⟨b, o, S, hm, ?_⟩
    unfold Addr.add aadd
    split <;> simp_all [Nat.add_assoc]

def Hp.get (G : Gl) (A : Hp) (a : Addr) : Option Value :=
  match a.spot with
  | none => (G a.block).bind (·[a.off]?)
  | some g => match A.blk a.block with
    | some (.row cs g' _) => if g = g' then cs[a.off]? else none
    | _ => none

theorem cell?_plain (w : World) (b o : Nat) {c : Array Value} {t : TypeId} {fr : Nat × Nat} (h : w.heap[b]? = some (.cells c t fr)) : w.cell? ⟨b, o, none⟩ = c[o]? := by
  simp [World.cell?, h]

theorem VR.base {μ : Mu} {A : Hp} {v v' : Value} (h : VR (fun _ => none) ⟨0, fun _ => none⟩ v v') : VR μ A v v' := by
  refine h.mono ⟨Nat.zero_le _, fun id hi => ?_, fun id hi => ?_⟩
  · exact absurd hi (Nat.not_lt_zero _)
  · exact absurd hi (Nat.not_lt_zero _)

theorem HR.get {G : Gl} {μ : Mu} {fl : Nat} {A : Hp} {w : World} (H : HR G μ fl A w) {a a' : Addr} (h : AR μ A a a') {v : Value} (hg : A.get G a = some v) :
    ∃ v', w.cell? a' = some v' ∧ VR μ A v v' := by
  unfold Hp.get at hg
  rcases h with ⟨hs, rfl⟩ | ⟨hlt, g, hg', hl⟩
  · rw [hs] at hg
    simp only at hg
    cases hG : G a'.block with
    | none => simp [hG] at hg
    | some cs =>
      simp only [hG, Option.bind_some] at hg
      obtain ⟨c, t, fr, hw, hc⟩ := H.glob _ _ hG
      obtain ⟨h1, h2⟩ := hc _ _ hg
      refine ⟨v, ?_, h2.base⟩
      obtain ⟨b, o, s⟩ := a'
      cases hs
      rw [cell?_plain w b o hw]
      exact h1
  · rw [hg'] at hg
    simp only at hg
    cases hb : A.blk a.block with
    | none => simp [hb] at hg
    | some k =>
      cases k with
      | row cs g2 e =>
        simp only [hb] at hg
        split at hg
        · rename_i hgg
          subst hgg
          obtain ⟨b, o, S, hm, rfl⟩ := (hl cs g e hb).2 rfl
          obtain ⟨c, t, fr, hw, hS, hlen, hc⟩ := H.row _ _ _ _ _ _ _ hb hm
          obtain ⟨v', h1, h2⟩ := hc _ _ hg
          exact ⟨v', (cell?_plain w _ _ hw).trans h1, h2⟩
        · cases hg
      | _ => simp [hb] at hg

/-- A heap with one block more. -/
def Hp.push (A : Hp) (b : Blk) : Hp := ⟨A.next + 1, fun i => if i = A.next then some b else A.blk i⟩
/-- A heap with a block told anew. -/
def Hp.put (A : Hp) (id : Nat) (b : Blk) : Hp := ⟨A.next, fun i => if i = id then some b else A.blk i⟩

@[simp] theorem Hp.push_next (A : Hp) (b : Blk) : (A.push b).next = A.next + 1 := rfl
@[simp] theorem Hp.put_next (A : Hp) (id : Nat) (b : Blk) : (A.put id b).next = A.next := rfl
theorem Hp.push_blk (A : Hp) (b : Blk) (i : Nat) : (A.push b).blk i = if i = A.next then some b else A.blk i := rfl
theorem Hp.put_blk (A : Hp) (id : Nat) (b : Blk) (i : Nat) : (A.put id b).blk i = if i = id then some b else A.blk i := rfl

def Mu.add (μ : Mu) (id : Nat) (p : Pl) : Mu := fun i => if i = id then some p else μ i

theorem Ext.push {μ : Mu} {A : Hp} (b : Blk) (p : Pl) : Ext μ A (μ.add A.next p) (A.push b) := by
  refine ⟨by simp, fun id hi cs g e hb => ⟨cs, g, e, ?_, .inl ⟨rfl, rfl, ?_⟩⟩, fun id hi k hb ho => ⟨⟨k, ?_, ho⟩, ?_⟩⟩
  · rw [Hp.push_blk, if_neg (by omega)] at hb; exact hb
  · intro p hp
    simp only [Mu.add, if_neg (show ¬ id = A.next by omega)]
    exact hp
  · rw [Hp.push_blk, if_neg (by omega)] at hb; exact hb
  · intro p hp
    simp only [Mu.add, if_neg (show ¬ id = A.next by omega)]
    exact hp

theorem getElem?_push_self {w : World} (o : Obj) : (w.heap.push o)[w.heap.size]? = some o := by simp
theorem getElem?_push_lt {w : World} (o : Obj) {b : Nat} (h : b < w.heap.size) : (w.heap.push o)[b]? = w.heap[b]? := by
  rw [Array.getElem?_push, if_neg (by omega)]

/-- A new block in the world, and in the abstract heap. -/
theorem HR.newBlock {G : Gl} {μ : Mu} {fl : Nat} {A : Hp} {w w' : World} (H : HR G μ fl A w) (hfl : fl ≤ A.next) (cs : List Value) (c : Array Value) (t : TypeId) (fr : Nat × Nat) (e : Nat)
    (hlen : cs.length ≤ c.size) (hcs : ∀ (j : Nat) (v : Value), cs[j]? = some v → ∃ v' : Value, c[j]? = some v' ∧ VR μ A v v') (hfr : ∀ j, j < c.size → ¬ (fr.1 ≤ j ∧ j < fr.2))
    (hw : w'.heap = w.heap.push (.cells c t fr)) (h1 : w'.os = w.os) (h2 : w'.tape = w.tape) (h3 : w'.output = w.output) :
    HR G (μ.add A.next (w.heap.size, 0, c.size)) fl (A.push (.row cs 0 e)) w' ∧
      Trans fl μ A w (μ.add A.next (w.heap.size, 0, c.size)) (A.push (.row cs 0 e)) w' := by
  have E : Ext μ A (μ.add A.next (w.heap.size, 0, c.size)) (A.push (.row cs 0 e)) := Ext.push _ _
  have hnew : w'.heap[w.heap.size]? = some (.cells c t fr) := by rw [hw]; exact getElem?_push_self _
  have hold : ∀ b, b < w.heap.size → w'.heap[b]? = w.heap[b]? := fun b hb => by rw [hw]; exact getElem?_push_lt _ hb
  have mo : ∀ i, i ≠ A.next → (μ.add A.next (w.heap.size, 0, c.size)) i = μ i := fun i hi => by simp only [Mu.add, if_neg hi]
  have mn : (μ.add A.next (w.heap.size, 0, c.size)) A.next = some (w.heap.size, 0, c.size) := by simp only [Mu.add, if_true]
  have bo : ∀ i, i ≠ A.next → (A.push (.row cs 0 e)).blk i = A.blk i := fun i hi => by rw [Hp.push_blk, if_neg hi]
  have bn : (A.push (.row cs 0 e)).blk A.next = some (.row cs 0 e) := by rw [Hp.push_blk, if_pos rfl]
  refine ⟨⟨fun id hi => ?_, fun id cs' g e' hb v hv => ?_, fun id cs' g e' b o S hb hm => ?_, fun id cs' g e' b o S hf hb hm j hj => ?_, fun id id' b o S b' o' S' hne hf hb hb' hm hm' => ?_, fun g gs hg => ?_, fun g gs id b o S hg hf hb hm => ?_, fun id k hb => ?_, fun id k b o S hb ho hm => ?_⟩, ?_⟩
  · simp only [Hp.push_next] at hi
    rw [bo id (by omega)]; exact H.wf id (by omega)
  · by_cases hid : id = A.next
    · subst hid
      rw [bn] at hb; cases hb
      obtain ⟨j, hj⟩ := List.mem_iff_getElem?.1 hv
      obtain ⟨v', _, h6⟩ := hcs j v hj
      exact h6.rb.mono (by simp)
    · rw [bo id hid] at hb
      exact (H.refs id cs' g e' hb v hv).mono (by simp)
  · by_cases hid : id = A.next
    · subst hid
      rw [bn] at hb; cases hb
      rw [mn] at hm; cases hm
      refine ⟨c, t, fr, hnew, rfl, by omega, fun j v hj => ?_⟩
      obtain ⟨v', h5, h6⟩ := hcs j v hj
      exact ⟨v', by rw [Nat.zero_add]; exact h5, h6.mono E⟩
    · rw [bo id hid] at hb; rw [mo id hid] at hm
      obtain ⟨c', t', fr', hw', hS, hl, hc⟩ := H.row id cs' g e' b o S hb hm
      refine ⟨c', t', fr', ?_, hS, hl, fun j v hj => ?_⟩
      · rw [hold b (Array.getElem?_eq_some_iff.1 hw').1]; exact hw'
      · obtain ⟨v', h5, h6⟩ := hc j v hj
        exact ⟨v', h5, h6.mono E⟩
  · by_cases hid : id = A.next
    · subst hid
      rw [mn] at hm; cases hm
      have hx := hfr j hj
      simp only [World.frozen?, hnew]
      simp only [Bool.and_eq_false_iff, decide_eq_false_iff_not]
      omega
    · rw [bo id hid] at hb; rw [mo id hid] at hm
      have hx := H.free id cs' g e' b o S hf hb hm j hj
      have hbl := live_lt H (by rw [hb]; simp) hm
      simp only [World.frozen?, hold b hbl] at hx ⊢
      exact hx
  · by_cases hid : id = A.next
    · subst hid
      rw [bo id' (Ne.symm hne)] at hb'; rw [mo id' (Ne.symm hne)] at hm'
      rw [mn] at hm; cases hm
      have := live_lt H hb' hm'
      omega
    · rw [bo id hid] at hb; rw [mo id hid] at hm
      have hbl := live_lt H hb hm
      by_cases hid' : id' = A.next
      · subst hid'
        rw [mn] at hm'; cases hm'
        omega
      · rw [bo id' hid'] at hb'; rw [mo id' hid'] at hm'
        exact H.apart id id' b o S b' o' S' hne hf hb hb' hm hm'
  · obtain ⟨c', t', fr', hw', hc⟩ := H.glob g gs hg
    exact ⟨c', t', fr', (hold g (Array.getElem?_eq_some_iff.1 hw').1).trans hw', hc⟩
  · obtain ⟨c', t', fr', hw', hc⟩ := H.glob g gs hg
    have hgl := (Array.getElem?_eq_some_iff.1 hw').1
    by_cases hid : id = A.next
    · subst hid
      rw [mn] at hm; cases hm
      omega
    · rw [bo id hid] at hb; rw [mo id hid] at hm
      exact H.globApart g gs id b o S hg hf hb hm
  · by_cases hid : id = A.next
    · subst hid
      rw [bn] at hb; cases hb
      exact trivial
    · rw [bo id hid] at hb
      exact (H.orefs id k hb).mono (by simp)
  · by_cases hid : id = A.next
    · subst hid
      rw [bn] at hb; cases hb
      cases ho
    · rw [bo id hid] at hb; rw [mo id hid] at hm
      obtain ⟨ob, hw', hk⟩ := H.obj id k b o S hb ho hm
      exact ⟨ob, (hold b (Array.getElem?_eq_some_iff.1 hw').1).trans hw', hk.mono E⟩
  · refine ⟨h1, h2, h3, by rw [hw]; simp, E, fun id hi => ⟨bo id (by omega), mo id (by omega)⟩, fun id hi hm => by rw [mo id (by omega)]; exact hm, fun b hb _ => hold b hb, fun b ⟨id, o, S, hf, hb, hm⟩ => ?_⟩
    by_cases hid : id = A.next
    · subst hid
      rw [mn] at hm; cases hm
      exact .inr (Nat.le_refl _)
    · rw [bo id hid] at hb; rw [mo id hid] at hm
      exact .inl ⟨id, o, S, hf, hb, hm⟩

/-- The address of the new block. -/
theorem AR.new {μ : Mu} {A : Hp} {cs : List Value} {e B S : Nat} (off : Nat) : AR (μ.add A.next (B, 0, S)) (A.push (.row cs 0 e)) ⟨A.next, off, some 0⟩ ⟨B, off, none⟩ := by
  refine .inr ⟨by simp, 0, rfl, fun cs' g' e' _ => ⟨Nat.zero_le _, fun _ => ⟨B, 0, S, by simp [Mu.add], by simp⟩⟩⟩

/-- Cells written one behind the other. -/
def wr : List Value → Nat → List Value → List Value
  | cs, _, [] => cs
  | cs, o, v :: vs => wr (cs.set o v) (o + 1) vs

theorem wr_length : ∀ (cs : List Value) (o : Nat) (vs : List Value), (wr cs o vs).length = cs.length
  | _, _, [] => rfl
  | cs, o, v :: vs => by rw [wr, wr_length]; simp

/-- A row of a block of the call's own told anew, in the world and in the abstract heap: one cell. -/
theorem HR.setCell {G : Gl} {μ : Mu} {fl : Nat} {A : Hp} {w : World} (H : HR G μ fl A w) {id off g e : Nat} {cs : List Value} {b o S : Nat} (hfl : fl ≤ id)
    (hb : A.blk id = some (.row cs g e)) (hm : μ id = some (b, o, S)) (hoff : off < cs.length) {v v' : Value} (hv : VR μ A v v') :
    HR G μ fl (A.put id (.row (cs.set off v) g e)) (w.setCell ⟨b, o + off, none⟩ v') ∧
      Trans fl μ A w μ (A.put id (.row (cs.set off v) g e)) (w.setCell ⟨b, o + off, none⟩ v') := by
  have hid : id < A.next := by
    rcases Nat.lt_or_ge id A.next with h | h
    · exact h
    · rw [H.wf id h] at hb; cases hb
  have E : Ext μ A μ (A.put id (.row (cs.set off v) g e)) := by
    refine ⟨Nat.le_refl _, fun i hi cs' g' e' hb' => ?_, fun i hi k hb' ho => ?_⟩
    · rw [Hp.put_blk] at hb'
      split at hb'
      · rename_i h; subst h; cases hb'; exact ⟨cs, _, _, hb, .inl ⟨rfl, rfl, fun _ h => h⟩⟩
      · exact ⟨cs', _, _, hb', .inl ⟨rfl, rfl, fun _ h => h⟩⟩
    · rw [Hp.put_blk] at hb'
      split at hb'
      · cases hb'; cases ho
      · exact ⟨⟨k, hb', ho⟩, fun _ h => h⟩
  have live : ∀ i, (A.put id (.row (cs.set off v) g e)).blk i ≠ none → A.blk i ≠ none := fun i hi => by
    rw [Hp.put_blk] at hi
    split at hi
    · rename_i h; subst h; rw [hb]; simp
    · exact hi
  obtain ⟨c, t, fr, hw, hS, hl, hc⟩ := H.row id cs g e b o S hb hm
  have hwb : (w.setCell ⟨b, o + off, none⟩ v').heap[b]? = some (.cells (c.setIfInBounds (o + off) v') t fr) := by
    simp [World.setCell, Array.getElem?_modify, hw]
  have hwo : ∀ k, k ≠ b → (w.setCell ⟨b, o + off, none⟩ v').heap[k]? = w.heap[k]? := fun k hk => Below.heap_setCell _ _ _ _ hk
  have hfr : ∀ a, (w.setCell ⟨b, o + off, none⟩ v').frozen? a = w.frozen? a := fun a => World.frozen?_setCell _ _ _ _
  refine ⟨⟨fun i hi => ?_, fun i cs' g' e' hb' u hu => ?_, fun i cs' g' e' b' o' S' hb' hm' => ?_, fun i cs' g' e' b' o' S' hf hb' hm' j hj => ?_, fun i i' b1 o1 S1 b2 o2 S2 hne hf hb1 hb2 hm1 hm2 => ?_, fun g1 gs hg => ?_, fun g1 gs i b1 o1 S1 hg hf hb1 hm1 => ?_, fun i k hb1 => ?_, fun i k b1 o1 S1 hb1 ho hm1 => ?_⟩, ?_⟩
  · rw [Hp.put_blk, if_neg (by simp only [Hp.put_next] at hi; omega)]; exact H.wf i hi
  · rw [Hp.put_blk] at hb'
    split at hb'
    · rename_i h; subst h; cases hb'
      rcases List.mem_or_eq_of_mem_set hu with hu | rfl
      · exact H.refs i cs g e hb u hu
      · exact hv.rb
    · exact H.refs i cs' g' e' hb' u hu
  · by_cases hi : i = id
    · subst hi
      rw [Hp.put_blk, if_pos rfl] at hb'; cases hb'
      rw [hm] at hm'; cases hm'
      refine ⟨_, t, fr, hwb, by simpa using hS, by simpa using hl, fun j u hj => ?_⟩
      by_cases hjo : off = j
      · subst hjo
        rw [List.getElem?_set_self hoff] at hj; cases hj
        refine ⟨v', ?_, hv.mono E⟩
        rw [Array.getElem?_setIfInBounds_self_of_lt (by omega)]
      · rw [List.getElem?_set_ne hjo] at hj
        obtain ⟨u', h1, h2⟩ := hc j u hj
        exact ⟨u', by rw [Array.getElem?_setIfInBounds_ne (by omega)]; exact h1, h2.mono E⟩
    · rw [Hp.put_blk, if_neg hi] at hb'
      obtain ⟨c', t', fr', hw', hS', hl', hc'⟩ := H.row i cs' g' e' b' o' S' hb' hm'
      have hne : b' ≠ b := Ne.symm (H.apart id i b o S b' o' S' (Ne.symm hi) hfl (by rw [hb]; simp) (by rw [hb']; simp) hm hm')
      refine ⟨c', t', fr', (hwo b' hne).trans hw', hS', hl', fun j u hj => ?_⟩
      obtain ⟨u', h1, h2⟩ := hc' j u hj
      exact ⟨u', h1, h2.mono E⟩
  · rw [hfr]
    rw [Hp.put_blk] at hb'
    split at hb'
    · rename_i h; subst h; cases hb'
      exact H.free i cs g e b' o' S' hf hb hm' j hj
    · exact H.free i cs' g' e' b' o' S' hf hb' hm' j hj
  · exact H.apart i i' b1 o1 S1 b2 o2 S2 hne hf (live i hb1) (live i' hb2) hm1 hm2
  · obtain ⟨c', t', fr', hw', hc'⟩ := H.glob g1 gs hg
    exact ⟨c', t', fr', (hwo g1 (Ne.symm (H.globApart g1 gs id b o S hg hfl (by rw [hb]; simp) hm))).trans hw', hc'⟩
  · exact H.globApart g1 gs i b1 o1 S1 hg hf (live i hb1) hm1
  · rw [Hp.put_blk] at hb1
    split at hb1
    · cases hb1; exact trivial
    · exact H.orefs i k hb1
  · have hne : i ≠ id := fun e => by subst e; rw [Hp.put_blk, if_pos rfl] at hb1; cases hb1; cases ho
    rw [Hp.put_blk, if_neg hne] at hb1
    obtain ⟨ob, hw', hk⟩ := H.obj i k b1 o1 S1 hb1 ho hm1
    exact ⟨ob, (hwo b1 (Ne.symm (H.apart id i b o S b1 o1 S1 (Ne.symm hne) hfl (by rw [hb]; simp) (by rw [hb1]; simp) hm hm1))).trans hw', hk.mono E⟩
  · refine ⟨rfl, rfl, rfl, by simp [World.setCell], E, fun i hi => ⟨?_, rfl⟩, fun _ _ h => h, fun k hk ho => ?_, fun k ⟨i, o1, S1, hf, hb1, hm1⟩ => .inl ⟨i, o1, S1, hf, live i hb1, hm1⟩⟩
    · rw [Hp.put_blk, if_neg (by omega)]
    · refine hwo k fun hkb => ho ?_
      subst hkb
      exact ⟨id, o, S, hfl, by rw [hb]; simp, hm⟩

theorem Hp.put_put (A : Hp) (id : Nat) (x y : Blk) : (A.put id x).put id y = A.put id y := by
  simp only [Hp.put, Hp.mk.injEq, true_and]
  funext i
  by_cases h : i = id <;> simp [h]

theorem Hp.put_self (A : Hp) (id : Nat) (x : Blk) (h : A.blk id = some x) : A.put id x = A := by
  obtain ⟨n, b⟩ := A
  simp only [Hp.put, Hp.mk.injEq, true_and]
  funext i
  by_cases hi : i = id
  · subst hi; rw [if_pos rfl]; exact h.symm
  · rw [if_neg hi]

/-- Several cells. -/
theorem HR.setCells {G : Gl} {μ : Mu} {fl : Nat} {id g e : Nat} {b o S : Nat} (hfl : fl ≤ id) (hm : μ id = some (b, o, S)) :
    ∀ (vs : List Value) (vs' : List Value) (A : Hp) (w : World) (cs : List Value) (off : Nat), HR G μ fl A w → A.blk id = some (.row cs g e) → off + vs.length ≤ cs.length →
      vs.length = vs'.length → (∀ (j : Nat) v v', vs[j]? = some v → vs'[j]? = some v' → VR μ A v v') →
      HR G μ fl (A.put id (.row (wr cs off vs) g e)) (w.setCells b (o + off) vs') ∧ Trans fl μ A w μ (A.put id (.row (wr cs off vs) g e)) (w.setCells b (o + off) vs')
  | [], vs', A, w, cs, off, H, hb, hlen, hl, hv => by
    cases vs' with
    | nil =>
      rw [wr, Hp.put_self _ _ _ hb]
      exact ⟨H, Trans.refl _ _ _ _⟩
    | cons x xs => simp at hl
  | v :: vs, vs', A, w, cs, off, H, hb, hlen, hl, hv => by
    cases vs' with
    | nil => simp at hl
    | cons v' vs' =>
      simp only [List.length_cons] at hlen hl
      obtain ⟨H1, T1⟩ := H.setCell (v := v) (v' := v') (off := off) hfl hb hm (by omega) (hv 0 v v' rfl rfl)
      have ih := HR.setCells hfl hm vs vs' (A.put id (.row (cs.set off v) g e)) (w.setCell ⟨b, o + off, none⟩ v') (cs.set off v) (off + 1) H1
        (by rw [Hp.put_blk, if_pos rfl]) (by simp; omega) (by omega) (fun j u u' h1 h2 => (hv (j + 1) u u' h1 h2).mono T1.ext)
      rw [Hp.put_put] at ih
      rw [wr, World.setCells, show o + off + 1 = o + (off + 1) by omega]
      exact ⟨ih.1, T1.trans ih.2⟩

/-- A block of the call's own told anew: it has grown, in its place or in a new one; what pointed into it is of an elder generation. -/
theorem HR.retell {G : Gl} {μ : Mu} {fl : Nat} {A : Hp} {w w' : World} (H : HR G μ fl A w) {id g e g2 e2 : Nat} {cs ds : List Value} {b o S b' o' S' : Nat} (hfl : fl ≤ id) (hg2 : g < g2)
    (hb : A.blk id = some (.row cs g e)) (hm : μ id = some (b, o, S)) {c : Array Value} {t : TypeId} {fr : Nat × Nat}
    (hold : ∀ k, k ≠ b → k < w.heap.size → w'.heap[k]? = w.heap[k]?) (hsize : w.heap.size ≤ w'.heap.size) (h1 : w'.os = w.os) (h2 : w'.tape = w.tape) (h3 : w'.output = w.output)
    (hnew : w'.heap[b']? = some (.cells c t fr)) (hS : c.size = S') (hlen : o' + ds.length ≤ S') (hfr : ∀ j, j < S' → ¬ (fr.1 ≤ j ∧ j < fr.2))
    (hds : ∀ (j : Nat) (v : Value), ds[j]? = some v → ∃ v' : Value, c[o' + j]? = some v' ∧ VR μ A v v') (hb' : b' = b ∨ w.heap.size ≤ b') :
    HR G (μ.add id (b', o', S')) fl (A.put id (.row ds g2 e2)) w' ∧ Trans fl μ A w (μ.add id (b', o', S')) (A.put id (.row ds g2 e2)) w' := by
  have hid : id < A.next := by
    rcases Nat.lt_or_ge id A.next with h | h
    · exact h
    · rw [H.wf id h] at hb; cases hb
  have E : Ext μ A (μ.add id (b', o', S')) (A.put id (.row ds g2 e2)) := by
    refine ⟨Nat.le_refl _, fun i hi cs' g' e' hbi => ?_, fun i hi k hbi ho => ?_⟩
    · rw [Hp.put_blk] at hbi
      split at hbi
      · rename_i h; subst h; cases hbi; exact ⟨cs, g, e, hb, .inr hg2⟩
      · rename_i h; exact ⟨cs', _, _, hbi, .inl ⟨rfl, rfl, fun p hp => by simp only [Mu.add, if_neg h]; exact hp⟩⟩
    · rw [Hp.put_blk] at hbi
      split at hbi
      · cases hbi; cases ho
      · rename_i h; exact ⟨⟨k, hbi, ho⟩, fun p hp => by simp only [Mu.add, if_neg h]; exact hp⟩
  have live : ∀ i, (A.put id (.row ds g2 e2)).blk i ≠ none → A.blk i ≠ none := fun i hi => by
    rw [Hp.put_blk] at hi
    split at hi
    · rename_i h; subst h; rw [hb]; simp
    · exact hi
  have hbl := live_lt H (by rw [hb]; simp) hm
  have mo : ∀ i, i ≠ id → (μ.add id (b', o', S')) i = μ i := fun i hi => by simp only [Mu.add, if_neg hi]
  have mn : (μ.add id (b', o', S')) id = some (b', o', S') := by simp only [Mu.add, if_true]
  have other : ∀ i bi oi Si, i ≠ id → A.blk i ≠ none → μ i = some (bi, oi, Si) → bi ≠ b ∧ bi ≠ b' ∧ w'.heap[bi]? = w.heap[bi]? := fun i bi oi Si hi hbi hmi => by
    have n1 := Ne.symm (H.apart id i b o S bi oi Si (Ne.symm hi) hfl (by rw [hb]; simp) hbi hm hmi)
    have hl := live_lt H hbi hmi
    refine ⟨n1, ?_, hold bi n1 hl⟩
    rcases hb' with rfl | h
    · exact n1
    · omega
  refine ⟨⟨fun i hi => ?_, fun i cs' g' e' hbi u hu => ?_, fun i cs' g' e' bi oi Si hbi hmi => ?_, fun i cs' g' e' bi oi Si hf hbi hmi j hj => ?_, fun i i' bi oi Si bi' oi' Si' hne hf hbi hbi' hmi hmi' => ?_, fun g1 gs hg => ?_, fun g1 gs i bi oi Si hg hf hbi hmi => ?_, fun i k hbi => ?_, fun i k bi oi Si hbi ho hmi => ?_⟩, ?_⟩
  · rw [Hp.put_blk, if_neg (by simp only [Hp.put_next] at hi; omega)]; exact H.wf i hi
  · rw [Hp.put_blk] at hbi
    split at hbi
    · rename_i h; subst h; cases hbi
      obtain ⟨j, hj⟩ := List.mem_iff_getElem?.1 hu
      obtain ⟨v', _, h6⟩ := hds j u hj
      exact h6.rb
    · exact H.refs i cs' g' e' hbi u hu
  · by_cases hi : i = id
    · subst hi
      rw [Hp.put_blk, if_pos rfl] at hbi; cases hbi
      rw [mn] at hmi; cases hmi
      refine ⟨c, t, fr, hnew, hS, hlen, fun j v hj => ?_⟩
      obtain ⟨v', h5, h6⟩ := hds j v hj
      exact ⟨v', h5, h6.mono E⟩
    · rw [Hp.put_blk, if_neg hi] at hbi
      rw [mo i hi] at hmi
      obtain ⟨c', t', fr', hw', hS', hl', hc'⟩ := H.row i cs' g' e' bi oi Si hbi hmi
      obtain ⟨_, _, hsame⟩ := other i bi oi Si hi (by rw [hbi]; simp) hmi
      refine ⟨c', t', fr', hsame.trans hw', hS', hl', fun j v hj => ?_⟩
      obtain ⟨v', h5, h6⟩ := hc' j v hj
      exact ⟨v', h5, h6.mono E⟩
  · by_cases hi : i = id
    · subst hi
      rw [mn] at hmi; cases hmi
      have hx := hfr j hj
      simp only [World.frozen?, hnew]
      simp only [Bool.and_eq_false_iff, decide_eq_false_iff_not]
      omega
    · rw [Hp.put_blk, if_neg hi] at hbi
      rw [mo i hi] at hmi
      obtain ⟨_, _, hsame⟩ := other i bi oi Si hi (by rw [hbi]; simp) hmi
      have := H.free i cs' g' e' bi oi Si hf hbi hmi j hj
      simp only [World.frozen?, hsame] at this ⊢
      exact this
  · by_cases hi : i = id
    · subst hi
      rw [mn] at hmi; cases hmi
      rw [mo i' (Ne.symm hne)] at hmi'
      exact Ne.symm (other i' bi' oi' Si' (Ne.symm hne) (live i' hbi') hmi').2.1
    · rw [mo i hi] at hmi
      by_cases hi' : i' = id
      · subst hi'
        rw [mn] at hmi'; cases hmi'
        exact (other i bi oi Si hi (live i hbi) hmi).2.1
      · rw [mo i' hi'] at hmi'
        exact H.apart i i' bi oi Si bi' oi' Si' hne hf (live i hbi) (live i' hbi') hmi hmi'
  · obtain ⟨c', t', fr', hw', hc'⟩ := H.glob g1 gs hg
    exact ⟨c', t', fr', (hold g1 (Ne.symm (H.globApart g1 gs id b o S hg hfl (by rw [hb]; simp) hm)) (Array.getElem?_eq_some_iff.1 hw').1).trans hw', hc'⟩
  · by_cases hi : i = id
    · subst hi
      rw [mn] at hmi; cases hmi
      rcases hb' with rfl | h
      · exact H.globApart g1 gs i _ o S hg hf (by rw [hb]; simp) hm
      · obtain ⟨c', t', fr', hw', hc'⟩ := H.glob g1 gs hg
        have := (Array.getElem?_eq_some_iff.1 hw').1
        omega
    · rw [mo i hi] at hmi
      exact H.globApart g1 gs i bi oi Si hg hf (live i hbi) hmi
  · rw [Hp.put_blk] at hbi
    split at hbi
    · cases hbi; exact trivial
    · exact H.orefs i k hbi
  · have hne : i ≠ id := fun e => by subst e; rw [Hp.put_blk, if_pos rfl] at hbi; cases hbi; cases ho
    rw [Hp.put_blk, if_neg hne] at hbi
    rw [mo i hne] at hmi
    obtain ⟨ob, hw', hk⟩ := H.obj i k bi oi Si hbi ho hmi
    exact ⟨ob, (other i bi oi Si hne (by rw [hbi]; simp) hmi).2.2.trans hw', hk.mono E⟩
  · refine ⟨h1, h2, h3, hsize, E, fun i hi => ⟨?_, mo i (by omega)⟩, fun i hi hmi => ?_, fun k hk ho => ?_, fun k ⟨i, oi, Si, hf, hbi, hmi⟩ => ?_⟩
    · rw [Hp.put_blk, if_neg (by omega)]
    · by_cases h : i = id
      · subst h; rw [hm] at hmi; cases hmi
      · rw [mo i h]; exact hmi
    · exact hold k (fun hkb => ho (by subst hkb; exact ⟨id, o, S, hfl, by rw [hb]; simp, hm⟩)) hk
    · by_cases h : i = id
      · subst h
        rw [mn] at hmi; cases hmi
        rcases hb' with rfl | h
        · exact .inl ⟨i, o, S, hf, by rw [hb]; simp, hm⟩
        · exact .inr h
      · rw [mo i h] at hmi
        exact .inl ⟨i, oi, Si, hf, live i hbi, hmi⟩

/-- A new map or iterator in the world, and in the abstract heap. -/
theorem HR.newObj {G : Gl} {μ : Mu} {fl : Nat} {A : Hp} {w w' : World} (H : HR G μ fl A w) (hfl : fl ≤ A.next) (k : Blk) (ob : Obj) (ho : k.obj = true) (hr : k.RBs A.next) (hbr : BR μ A k ob)
    (hnc : ∀ c t fr, ob ≠ .cells c t fr) (hw : w'.heap = w.heap.push ob) (h1 : w'.os = w.os) (h2 : w'.tape = w.tape) (h3 : w'.output = w.output) :
    HR G (μ.add A.next (w.heap.size, 0, 0)) fl (A.push k) w' ∧ Trans fl μ A w (μ.add A.next (w.heap.size, 0, 0)) (A.push k) w' := by
  have E : Ext μ A (μ.add A.next (w.heap.size, 0, 0)) (A.push k) := Ext.push _ _
  have hnew : w'.heap[w.heap.size]? = some ob := by rw [hw]; exact getElem?_push_self _
  have hold : ∀ b, b < w.heap.size → w'.heap[b]? = w.heap[b]? := fun b hb => by rw [hw]; exact getElem?_push_lt _ hb
  have mo : ∀ i, i ≠ A.next → (μ.add A.next (w.heap.size, 0, 0)) i = μ i := fun i hi => by simp only [Mu.add, if_neg hi]
  have mn : (μ.add A.next (w.heap.size, 0, 0)) A.next = some (w.heap.size, 0, 0) := by simp only [Mu.add, if_true]
  have bo : ∀ i, i ≠ A.next → (A.push k).blk i = A.blk i := fun i hi => by rw [Hp.push_blk, if_neg hi]
  have bn : (A.push k).blk A.next = some k := by rw [Hp.push_blk, if_pos rfl]
  have nrow : ∀ id cs g e, (A.push k).blk id = some (.row cs g e) → id ≠ A.next := fun id cs g e hb hid => by
    subst hid; rw [bn] at hb; cases hb; cases ho
  refine ⟨⟨fun id hi => ?_, fun id cs' g e' hb v hv => ?_, fun id cs' g e' b o S hb hm => ?_, fun id cs' g e' b o S hf hb hm j hj => ?_, fun id id' b o S b' o' S' hne hf hb hb' hm hm' => ?_, fun g gs hg => ?_, fun g gs id b o S hg hf hb hm => ?_, fun id q hb => ?_, fun id q b o S hb hq hm => ?_⟩, ?_⟩
  · simp only [Hp.push_next] at hi
    rw [bo id (by omega)]; exact H.wf id (by omega)
  · rw [bo id (nrow _ _ _ _ hb)] at hb
    exact (H.refs id cs' g e' hb v hv).mono (by simp)
  · have hid := nrow _ _ _ _ hb
    rw [bo id hid] at hb; rw [mo id hid] at hm
    obtain ⟨c', t', fr', hw', hS, hl, hc⟩ := H.row id cs' g e' b o S hb hm
    refine ⟨c', t', fr', ?_, hS, hl, fun j v hj => ?_⟩
    · rw [hold b (Array.getElem?_eq_some_iff.1 hw').1]; exact hw'
    · obtain ⟨v', h5, h6⟩ := hc j v hj
      exact ⟨v', h5, h6.mono E⟩
  · have hid := nrow _ _ _ _ hb
    rw [bo id hid] at hb; rw [mo id hid] at hm
    have hx := H.free id cs' g e' b o S hf hb hm j hj
    have hbl := live_lt H (by rw [hb]; simp) hm
    simp only [World.frozen?, hold b hbl] at hx ⊢
    exact hx
  · by_cases hid : id = A.next
    · subst hid
      rw [bo id' (Ne.symm hne)] at hb'; rw [mo id' (Ne.symm hne)] at hm'
      rw [mn] at hm; cases hm
      have := live_lt H hb' hm'
      omega
    · rw [bo id hid] at hb; rw [mo id hid] at hm
      have hbl := live_lt H hb hm
      by_cases hid' : id' = A.next
      · subst hid'
        rw [mn] at hm'; cases hm'
        omega
      · rw [bo id' hid'] at hb'; rw [mo id' hid'] at hm'
        exact H.apart id id' b o S b' o' S' hne hf hb hb' hm hm'
  · obtain ⟨c', t', fr', hw', hc⟩ := H.glob g gs hg
    exact ⟨c', t', fr', (hold g (Array.getElem?_eq_some_iff.1 hw').1).trans hw', hc⟩
  · obtain ⟨c', t', fr', hw', hc⟩ := H.glob g gs hg
    have hgl := (Array.getElem?_eq_some_iff.1 hw').1
    by_cases hid : id = A.next
    · subst hid
      rw [mn] at hm; cases hm
      omega
    · rw [bo id hid] at hb; rw [mo id hid] at hm
      exact H.globApart g gs id b o S hg hf hb hm
  · by_cases hid : id = A.next
    · subst hid
      rw [bn] at hb; cases hb
      exact hr.mono (by simp)
    · rw [bo id hid] at hb
      exact (H.orefs id q hb).mono (by simp)
  · by_cases hid : id = A.next
    · subst hid
      rw [bn] at hb; cases hb
      rw [mn] at hm; cases hm
      exact ⟨ob, hnew, hbr.mono E⟩
    · rw [bo id hid] at hb; rw [mo id hid] at hm
      obtain ⟨o2, hw', hk⟩ := H.obj id q b o S hb hq hm
      exact ⟨o2, (hold b (Array.getElem?_eq_some_iff.1 hw').1).trans hw', hk.mono E⟩
  · refine ⟨h1, h2, h3, by rw [hw]; simp, E, fun id hi => ⟨bo id (by omega), mo id (by omega)⟩, fun id hi hm => by rw [mo id (by omega)]; exact hm, fun b hb _ => hold b hb, fun b ⟨id, o, S, hf, hb, hm⟩ => ?_⟩
    by_cases hid : id = A.next
    · subst hid
      rw [mn] at hm; cases hm
      exact .inr (Nat.le_refl _)
    · rw [bo id hid] at hb; rw [mo id hid] at hm
      exact .inl ⟨id, o, S, hf, hb, hm⟩

/-- A map or an iterator of the call's own told anew. -/
theorem HR.putObj {G : Gl} {μ : Mu} {fl : Nat} {A : Hp} {w w' : World} (H : HR G μ fl A w) {id b o S : Nat} {k0 k : Blk} {ob : Obj} (hfl : fl ≤ id)
    (hb : A.blk id = some k0) (ho0 : k0.obj = true) (hm : μ id = some (b, o, S)) (ho : k.obj = true) (hr : k.RBs A.next) (hbr : BR μ A k ob)
    (hnc : ∀ c t fr, ob ≠ .cells c t fr) (hnew : w'.heap[b]? = some ob) (hold : ∀ i, i ≠ b → w'.heap[i]? = w.heap[i]?) (hsz : w'.heap.size = w.heap.size)
    (h1 : w'.os = w.os) (h2 : w'.tape = w.tape) (h3 : w'.output = w.output) :
    HR G μ fl (A.put id k) w' ∧ Trans fl μ A w μ (A.put id k) w' := by
  have hid : id < A.next := by
    rcases Nat.lt_or_ge id A.next with h | h
    · exact h
    · rw [H.wf id h] at hb; cases hb
  have E : Ext μ A μ (A.put id k) := by
    refine ⟨Nat.le_refl _, fun i hi cs' g' e' hb' => ?_, fun i hi q hb' hq => ?_⟩
    · rw [Hp.put_blk] at hb'
      split at hb'
      · cases hb'; cases ho
      · exact ⟨cs', _, _, hb', .inl ⟨rfl, rfl, fun _ h => h⟩⟩
    · rw [Hp.put_blk] at hb'
      split at hb'
      · rename_i h; subst h; exact ⟨⟨k0, hb, ho0⟩, fun _ h => h⟩
      · exact ⟨⟨q, hb', hq⟩, fun _ h => h⟩
  have live : ∀ i, (A.put id k).blk i ≠ none → A.blk i ≠ none := fun i hi => by
    rw [Hp.put_blk] at hi
    split at hi
    · rename_i h; subst h; rw [hb]; simp
    · exact hi
  have nrow : ∀ i cs g e, (A.put id k).blk i = some (.row cs g e) → i ≠ id := fun i cs g e hbi hi => by
    subst hi; rw [Hp.put_blk, if_pos rfl] at hbi; cases hbi; cases ho
  have other : ∀ i bi oi Si, i ≠ id → A.blk i ≠ none → μ i = some (bi, oi, Si) → w'.heap[bi]? = w.heap[bi]? := fun i bi oi Si hi hbi hmi =>
    hold bi (Ne.symm (H.apart id i b o S bi oi Si (Ne.symm hi) hfl (by rw [hb]; simp) hbi hm hmi))
  refine ⟨⟨fun i hi => ?_, fun i cs' g' e' hb' u hu => ?_, fun i cs' g' e' b' o' S' hb' hm' => ?_, fun i cs' g' e' b' o' S' hf hb' hm' j hj => ?_, fun i i' b1 o1 S1 b2 o2 S2 hne hf hb1 hb2 hm1 hm2 => ?_, fun g1 gs hg => ?_, fun g1 gs i b1 o1 S1 hg hf hb1 hm1 => ?_, fun i q hb1 => ?_, fun i q b1 o1 S1 hb1 hq hm1 => ?_⟩, ?_⟩
  · rw [Hp.put_blk, if_neg (by simp only [Hp.put_next] at hi; omega)]; exact H.wf i hi
  · have hi := nrow _ _ _ _ hb'
    rw [Hp.put_blk, if_neg hi] at hb'
    exact H.refs i cs' g' e' hb' u hu
  · have hi := nrow _ _ _ _ hb'
    rw [Hp.put_blk, if_neg hi] at hb'
    obtain ⟨c', t', fr', hw', hS', hl', hc'⟩ := H.row i cs' g' e' b' o' S' hb' hm'
    refine ⟨c', t', fr', (other i b' o' S' hi (by rw [hb']; simp) hm').trans hw', hS', hl', fun j u hj => ?_⟩
    obtain ⟨u', h1, h2⟩ := hc' j u hj
    exact ⟨u', h1, h2.mono E⟩
  · have hi := nrow _ _ _ _ hb'
    rw [Hp.put_blk, if_neg hi] at hb'
    have hx := H.free i cs' g' e' b' o' S' hf hb' hm' j hj
    simp only [World.frozen?, other i b' o' S' hi (by rw [hb']; simp) hm'] at hx ⊢
    exact hx
  · exact H.apart i i' b1 o1 S1 b2 o2 S2 hne hf (live i hb1) (live i' hb2) hm1 hm2
  · obtain ⟨c', t', fr', hw', hc'⟩ := H.glob g1 gs hg
    exact ⟨c', t', fr', (hold g1 (Ne.symm (H.globApart g1 gs id b o S hg hfl (by rw [hb]; simp) hm))).trans hw', hc'⟩
  · exact H.globApart g1 gs i b1 o1 S1 hg hf (live i hb1) hm1
  · rw [Hp.put_blk] at hb1
    split at hb1
    · cases hb1; exact hr
    · exact H.orefs i q hb1
  · by_cases hi : i = id
    · subst hi
      rw [Hp.put_blk, if_pos rfl] at hb1; cases hb1
      rw [hm] at hm1; cases hm1
      exact ⟨ob, hnew, hbr.mono E⟩
    · rw [Hp.put_blk, if_neg hi] at hb1
      obtain ⟨o2, hw', hk⟩ := H.obj i q b1 o1 S1 hb1 hq hm1
      exact ⟨o2, (other i b1 o1 S1 hi (by rw [hb1]; simp) hm1).trans hw', hk.mono E⟩
  · refine ⟨h1, h2, h3, by omega, E, fun i hi => ⟨?_, rfl⟩, fun _ _ h => h, fun j hj ho' => ?_, fun j ⟨i, o1, S1, hf, hb1, hm1⟩ => .inl ⟨i, o1, S1, hf, live i hb1, hm1⟩⟩
    · rw [Hp.put_blk, if_neg (by omega)]
    · refine hold j fun hjb => ho' ?_
      subst hjb
      exact ⟨id, o, S, hfl, by rw [hb]; simp, hm⟩

end Go.Proofs.Ytiiapkhdjchhjaa.Ab

/- The abstract machine: what an operation, a region, a piece of code and a call do to slots and to the abstract heap, as weakest preconditions. -/
namespace Go.Proofs.Ytiiapkhdjchhjaa.Ab
open Go.RowKit
set_option linter.unusedVariables false

/-- A type, as the machine asks it. -/
inductive TD where
  | bool | int (k : IntKind) | str | ptr (e : TypeId) | sl (e : TypeId) | arr (n : Nat) (e : TypeId) | mp (k e : TypeId)
  | st (fs : List (Nat × Nat × TypeId)) | other

structure Ty where
  d : TD
  size : Nat
  bytes : Nat
  zero : List Value
  agg : Bool
  esz : Nat

def sizeB (P : Program) (t : TypeId) : Nat := ((P.info? t).map (·.size)).getD 0
def aggB (P : Program) (t : TypeId) : Bool := match P.underlying t with | some (.struct _) | some (.array _ _) => true | _ => false
def toTD (P : Program) : TypeDesc → TD
  | .bool => .bool | .int k => .int k | .string => .str | .pointer e => .ptr e | .slice e => .sl e | .array n e => .arr n e | .map k e => .mp k e
  | .struct fs => if fs.toList.all (fun f => (P.info? f.type).isSome) then .st (fs.toList.map fun f => (f.offset, sizeB P f.type, f.type)) else .other
  | _ => .other
def eszOf (P : Program) (size : Nat) : TypeDesc → Nat
  | .array _ e => sizeB P e
  | _ => size
def isAggV : Value → Bool | .agg _ => true | _ => false
def tyOf (P : Program) (t : TypeId) : Option Ty :=
  match P.info? t, P.underlying t with
  | some i, some d => match i.zero with
    | some z => if isAggV z = aggB P t then some ⟨toTD P d, i.size, i.bytes, z.cells.toList, aggB P t, eszOf P i.size d⟩ else none
    | none => none
  | _, _ => none

abbrev Tm := Nat → Option Value
def upd (τ : Tm) (t : Nat) (v : Value) : Tm := fun u => if u = t then some v else τ u
def updO (τ : Tm) (d : Option Tmp) (v : Value) : Tm := match d with | some t => upd τ t v | none => τ

def ev (τ : Tm) : Operand → Option Value
  | .tmp t => τ t
  | .const v => some v
  | .func f => some (.func (.func f) #[] #[])
  | .global g => some (.pointer (some ⟨g, 0, none⟩))

/-- A cell that leads nowhere. -/
def zc : Value → Bool
  | .bool _ | .int _ _ | .float _ _ | .string _ | .pointer none | .slice none _ _ | .map none | .nilFunc | .nilIface => true
  | _ => false

def byteAt (s : ByteArray) (i : Int) : Int := ((s.data.toList.getD i.toNat 0).toNat : Int)
def zl (zero : List Value) (n : Nat) : List Value := (List.range n).map fun j => zero.getD (j % zero.length) default

/-- So many cells read, one behind the other. -/
def rdn (G : Gl) (A : Hp) (p : Addr) : Nat → Nat → List Value → (List Value → Prop) → Prop
  | _, 0, acc, K => K acc
  | i, n + 1, acc, K => ∃ v, A.get G (aadd p i) = some v ∧ rdn G A p (i + 1) n (acc ++ [v]) K

/-- All parts' values. -/
def evs (τ : Tm) : List Operand → List Value → (List Value → Prop) → Prop
  | [], acc, K => K acc
  | x :: xs, acc, K => ∃ v, ev τ x = some v ∧ evs τ xs (acc ++ [v]) K
def evp (τ : Tm) : List (Nat × Operand) → List (Nat × Value) → (List (Nat × Value) → Prop) → Prop
  | [], acc, K => K acc
  | (i, x) :: xs, acc, K => ∃ v, ev τ x = some v ∧ evp τ xs (acc ++ [(i, v)]) K

def buildL (place : Nat → Option (Nat × Nat)) (cells : List Value) : List (Nat × Value) → Option (List Value)
  | [] => some cells
  | (i, v) :: rest =>
    match place i with
    | none => none
    | some (off, size) => if v.cells.size = size ∧ off + size ≤ cells.length then buildL place (wr cells off v.cells.toList) rest else none

def placesOf : TD → List (Nat × Nat × TypeId)
  | .st fs => fs
  | _ => []

def ones (v : Value) : Bool := v.cells.toList.all (·.oneCell')

/-- The callee is sound: whatever world the heap lies in, the call comes to the value, and leaves the heap so. -/
def CallsV (P : Program) (f : FuncId) (args : Array Value) (w : World) (R : Value → World → Prop) : Prop :=
  ((∃ fn, P.funcs[f]? = some fn ∧ (fn.name == "runtime.NumGoroutine") = false ∧ fn.body.isNone = false) ∧ Calls P f args w fun e w' => ∃ v, e = .returned v ∧ R v w') ∨
  ∃ v w', (callFunc f args).run P w = .ok (.value v) w' ∧ R v w'

def Sound (P : Program) (G : Gl) (f : FuncId) (args : List Value) (fl : Nat) (A : Hp) (v : Value) (A' : Hp) : Prop :=
  ∀ (μ : Mu) (w : World) (args' : Array Value), HR G μ fl A w → fl ≤ A.next → VRa μ A args.toArray args' →
    CallsV P f args' w fun v' w' => ∃ μ', VR μ' A' v v' ∧ HR G μ' fl A' w' ∧ Trans fl μ A w μ' A' w'

/-- A part of an aggregate. -/
def partV (P : Program) (t : TypeId) (xs : Array Value) (off : Nat) : Option Value := (tyOf P t).bind fun T => if T.agg then some (.agg (xs.extract off (off + T.size))) else xs[off]?
/-- Are two aggregates equal, field by field? -/
def eqFs (P : Program) (eq : TypeId → Value → Value → Option Bool) (xs ys : Array Value) : List Field → Option Bool
  | [] => some true
  | f :: fs => if f.name = "_" then eqFs P eq xs ys fs else
    (partV P f.type xs f.offset).bind fun a => (partV P f.type ys f.offset).bind fun b => (eq f.type a b).bind fun r => (eqFs P eq xs ys fs).map fun s => r && s
/-- Are two rows equal, element by element? -/
def eqEs (P : Program) (eq : TypeId → Value → Value → Option Bool) (e : TypeId) (sz : Nat) (xs ys : Array Value) : List Nat → Option Bool
  | [] => some true
  | i :: is => (partV P e xs (i * sz)).bind fun a => (partV P e ys (i * sz)).bind fun b => (eq e a b).bind fun r => (eqEs P eq e sz xs ys is).map fun s => r && s
def eqD (P : Program) : Nat → TypeId → Value → Value → Option Bool
  | 0, _, _, _ => none
  | d + 1, t, x, y => match P.underlying t, x, y with
    | some .bool, .bool a, .bool b => some (a == b)
    | some (.int _), .int k a, .int k' b => if k = k' then some (a == b) else none
    | some .string, .string a, .string b => some (decide (a = b))
    | some (.struct fs), .agg xs, .agg ys => if P.stoodInHeld t then none else eqFs P (eqD P d) xs ys fs.toList
    | some (.array n e), .agg xs, .agg ys => (tyOf P e).bind fun E => eqEs P (eqD P d) e E.size xs ys (List.range n)
    | _, _, _ => none
/-- Equality of aggregates, and with nil. -/
def aeq (P : Program) (t : TypeId) (a b : Value) (K : Bool → Prop) : Prop :=
  (∃ xs ys r, a = .agg xs ∧ b = .agg ys ∧ P.eqGuardType P.depth t = false ∧ eqD P 20 t (.agg xs) (.agg ys) = some r ∧ K r) ∨
  (∃ o n c n' c' e, a = .slice o n c ∧ b = .slice none n' c' ∧ (tyOf P t).map (·.d) = some (.sl e) ∧ K o.isNone) ∨
  (∃ o e, a = .pointer o ∧ b = .pointer none ∧ (tyOf P t).map (·.d) = some (.ptr e) ∧ K o.isNone)

/-- A key that a map takes. -/
def ckK (P : Program) : Nat → TypeId → Value → Bool
  | 0, _, _ => false
  | d + 1, t, v => match P.underlying t with
    | some .bool | some (.int _) | some .string => true
    | some (.struct fs) => (match v with | .agg cs => fs.toList.all fun f => f.name == "_" || (match partV P f.type cs f.offset with | some a => ckK P d f.type a | none => false) | _ => false)
    | some (.array n e) => (match v with | .agg cs => (match tyOf P e with | some E => (List.range n).all fun i => (match partV P e cs (i * E.size) with | some a => ckK P d e a | none => false) | none => false) | _ => false)
    | _ => false
/-- A key that is nothing but numbers, truth values and texts. -/
def kflat1 : Value → Bool | .bool _ | .int _ _ | .string _ => true | _ => false
def kflat : Value → Bool | .agg cs => cs.toList.all kflat1 | v => kflat1 v
/-- Where a key's entry stands, and its value. -/
def mfind (P : Program) (kt : TypeId) (k : Value) : List (Value × Value × Nat) → Nat → Option (Option (Nat × Value))
  | [], _ => some none
  | e :: es, i => (eqD P 20 kt k e.1).bind fun r => if r then some (some (i, e.2.1)) else mfind P kt k es (i + 1)
/-- A type's zero. -/
def Ty.zv (E : Ty) : Value := if E.agg then .agg E.zero.toArray else E.zero.headD default
/-- What a map holds. -/
def amap (A : Hp) (m : Value) (es : List (Value × Value × Nat)) : Prop := (m = .map none ∧ es = []) ∨ ∃ id ck, m = .map (some id) ∧ A.blk id = some (.mp es ck)
def alookup (P : Program) (A : Hp) (t : TypeId) (m k : Value) (cok : Bool) (K : Value → Prop) : Prop :=
  ∃ T kt et E, tyOf P t = some T ∧ T.d = .mp kt et ∧ tyOf P et = some E ∧ E.zero.all zc = true ∧ ckK P 20 kt k = true ∧ ∃ es, amap A m es ∧ ∃ r, mfind P kt k es 0 = some r ∧
    K (match r with | some (_, v) => if cok then .tuple #[v, .bool true] else v | none => if cok then .tuple #[E.zv, .bool false] else E.zv)
/-- An entry laid into a map. -/
def mput (k v : Value) (r : Option (Nat × Value)) (es : List (Value × Value × Nat)) (ck : Nat) : Blk :=
  match r with
  | none => .mp (es ++ [(k, v, ck)]) (ck + 1)
  | some (i, _) => .mp (es.modify i fun e => (k, v, e.2.2)) ck
def amput (P : Program) (fl : Nat) (A : Hp) (t : TypeId) (m k v : Value) (K : Value → Hp → Prop) : Prop :=
  ∃ T kt et, tyOf P t = some T ∧ T.d = .mp kt et ∧ ckK P 20 kt k = true ∧ ∃ id es ck, m = .map (some id) ∧ A.blk id = some (.mp es ck) ∧ fl ≤ id ∧ ∃ r, mfind P kt k es 0 = some r ∧
    (∀ i u, r = some (i, u) → kflat k = true ∧ (es[i]?).map (·.1) = some k) ∧ K undef (A.put id (mput k v r es ck))
def mdel (r : Option (Nat × Value)) (es : List (Value × Value × Nat)) : List (Value × Value × Nat) :=
  match r with
  | some (i, _) => es.eraseIdx i
  | none => es
def amdel (P : Program) (fl : Nat) (A : Hp) (ts : Array TypeId) (xs : List Value) (K : Value → Hp → Prop) : Prop :=
  ∃ t T kt et m k, ts[0]? = some t ∧ tyOf P t = some T ∧ T.d = .mp kt et ∧ xs = [m, k] ∧ ckK P 20 kt k = true ∧ ∃ id es ck, m = .map (some id) ∧ A.blk id = some (.mp es ck) ∧ fl ≤ id ∧
    ∃ r, mfind P kt k es 0 = some r ∧ K (.tuple #[]) (A.put id (.mp (mdel r es) ck))
def amrange (P : Program) (A : Hp) (t : TypeId) (m : Value) (K : Value → Hp → Prop) : Prop :=
  ∃ T kt et, tyOf P t = some T ∧ T.d = .mp kt et ∧ ((m = .map none ∧ K (.chan (some A.next)) (A.push (.it none 0 [] 0))) ∨
    ∃ id es ck, m = .map (some id) ∧ A.blk id = some (.mp es ck) ∧ K (.chan (some A.next)) (A.push (.it (some id) ck [] ck)))

/-- A step of an iterator over a map: one of the entries that were not handed out, whichever. -/
def anext (fl : Nat) (A : Hp) (v : Value) (K : Value → Hp → Prop) : Prop :=
  ∃ id m since seen last, v = .chan (some id) ∧ A.blk id = some (.it m since seen last) ∧ fl ≤ id ∧
    ((m = none ∧ K (.tuple #[.bool false]) A) ∨ ∃ r es ck, m = some r ∧ A.blk r = some (.mp es ck) ∧ since ≤ last ∧ (∀ e ∈ es, e.2.2 < since) ∧
      ((∀ e ∈ es, e.2.2 ∈ seen) → K (.tuple #[.bool false]) A) ∧ ∀ e ∈ es, e.2.2 ∉ seen → K (.tuple #[.bool true, e.1, e.2.1]) (A.put id (.it m since (seen ++ [e.2.2]) ck)))
/-- The entry that was handed out last. -/
def aentry (A : Hp) (v : Value) (K : Value → Prop) : Prop :=
  ∃ id r since seen last, v = .chan (some id) ∧ A.blk id = some (.it (some r) since seen last) ∧ ∃ b, seen.getLast? = some b ∧ ∃ es, A.blk r = some (.mp es last) ∧
    ∃ e, es.find? (fun e => e.2.2 == b) = some e ∧ K (.tuple #[e.1, e.2.1])
def isNextO : Op → Bool | .next .. => true | _ => false

section
variable (P : Program) (G : Gl)

def acall (f : FuncId) (args : List Value) (fl : Nat) (A : Hp) (K : Value → Hp → Prop) : Prop := ∃ v A', Sound P G f args fl A v A' ∧ K v A'

def abin (op : BinOp) (t : TypeId) (a b : Value) (K : Value → Prop) : Prop :=
  match op with
  | .add => (∃ k x y, a = .int k x ∧ b = .int k y ∧ K (.int k (k.wrap (x + y)))) ∨ (∃ x y, a = .string x ∧ b = .string y ∧ x.size + y.size ≤ 9223372036854775807 ∧ K (.string (x ++ y)))
  | .sub => ∃ k x y, a = .int k x ∧ b = .int k y ∧ K (.int k (k.wrap (x - y)))
  | .mul => ∃ k x y, a = .int k x ∧ b = .int k y ∧ K (.int k (k.wrap (x * y)))
  | .quo => ∃ k x y, a = .int k x ∧ b = .int k y ∧ y ≠ 0 ∧ K (.int k (k.wrap (x.tdiv y)))
  | .rem => ∃ k x y, a = .int k x ∧ b = .int k y ∧ y ≠ 0 ∧ K (.int k (x.tmod y))
  | .and | .or | .xor | .andNot => ∃ k x y, a = .int k x ∧ b = .int k y ∧ K (.int k (k.wrap (match op with
      | .and => (BitVec.ofInt k.bits x &&& BitVec.ofInt k.bits y) | .or => (BitVec.ofInt k.bits x ||| BitVec.ofInt k.bits y)
      | .xor => (BitVec.ofInt k.bits x ^^^ BitVec.ofInt k.bits y) | _ => (BitVec.ofInt k.bits x &&& ~~~ BitVec.ofInt k.bits y)).toNat))
  | .shl => ∃ k k' x y, a = .int k x ∧ b = .int k' y ∧ 0 ≤ y ∧ K (.int k (k.wrap (x * 2 ^ min y.toNat k.bits)))
  | .shr => ∃ k k' x y, a = .int k x ∧ b = .int k' y ∧ 0 ≤ y ∧ K (.int k (x.fdiv (2 ^ min y.toNat k.bits)))
  | .lss => ∃ k x y, a = .int k x ∧ b = .int k y ∧ K (.bool (decide (x < y)))
  | .leq => ∃ k x y, a = .int k x ∧ b = .int k y ∧ K (.bool (decide (x ≤ y)))
  | .gtr => ∃ k x y, a = .int k x ∧ b = .int k y ∧ K (.bool (decide (x > y)))
  | .geq => ∃ k x y, a = .int k x ∧ b = .int k y ∧ K (.bool (decide (x ≥ y)))
  | .eql => (∃ k x y, a = .int k x ∧ b = .int k y ∧ K (.bool (decide (x = y)))) ∨ (∃ x y, a = .string x ∧ b = .string y ∧ K (.bool (decide (x = y)))) ∨
      (∃ x y, a = .bool x ∧ b = .bool y ∧ (tyOf P t).map (·.d) = some .bool ∧ K (.bool (x == y))) ∨ aeq P t a b fun r => K (.bool r)
  | .neq => (∃ k x y, a = .int k x ∧ b = .int k y ∧ K (.bool (decide (x ≠ y)))) ∨ (∃ x y, a = .string x ∧ b = .string y ∧ K (.bool (decide (x ≠ y)))) ∨
      (∃ x y, a = .bool x ∧ b = .bool y ∧ (tyOf P t).map (·.d) = some .bool ∧ K (.bool (!(x == y)))) ∨ aeq P t a b fun r => K (.bool (!r))

def alo (τ : Tm) (lo : Option Operand) (K : Nat → Prop) : Prop :=
  match lo with
  | none => K 0
  | some i => ∃ k x, ev τ i = some (.int k x) ∧ 0 ≤ x ∧ K x.toNat
def ahi (τ : Tm) (hi : Option Operand) (K : Option Nat → Prop) : Prop :=
  match hi with
  | none => K none
  | some i => ∃ k x, ev τ i = some (.int k x) ∧ 0 ≤ x ∧ K (some x.toNat)

def aslice (A : Hp) (t : TypeId) (x : Value) (l : Nat) (h : Option Nat) (K : Value → Prop) : Prop :=
  (∃ s, x = .string s ∧ (tyOf P t).map (·.d) = some .str ∧ l ≤ h.getD s.size ∧ h.getD s.size ≤ s.size ∧ K (.string (s.extract l (h.getD s.size)))) ∨
  (∃ n c, x = .slice none n c ∧ (∃ e T, (tyOf P t).map (·.d) = some (.sl e) ∧ tyOf P e = some T) ∧ l = 0 ∧ h.getD n = 0 ∧ n = 0 ∧ c = 0 ∧ K (.slice none 0 0)) ∨
  (∃ a n c e T, x = .slice (some a) n c ∧ (tyOf P t).map (·.d) = some (.sl e) ∧ tyOf P e = some T ∧ l ≤ h.getD n ∧ (h.getD n ≤ n ∨ h.getD n ≤ c) ∧
      (∀ cs g e', A.blk a.block = some (.row cs g e') → e' = T.size) ∧ K (.slice (some (aadd a (l * T.size))) (h.getD n - l) (c - l))) ∨
  (∃ a n e T g cs e', x = .pointer (some a) ∧ (tyOf P t).map (·.d) = some (.arr n e) ∧ tyOf P e = some T ∧ l ≤ h.getD n ∧ h.getD n ≤ n ∧ a.spot = some g ∧ A.blk a.block = some (.row cs g e') ∧
      e' = T.size ∧ a.off + n * T.size ≤ cs.length ∧ K (.slice (some (aadd a (l * T.size))) (h.getD n - l) (n - l)))

/-- What a slice or a string holds, as new cells. -/
def news (A : Hp) (size : Nat) (x : Value) (m : Nat) (vs : List Value) : Prop :=
  vs.length = m * size ∧ ((∃ c, x = .slice none m c ∧ m = 0) ∨
    (∃ a c, x = .slice (some a) m c ∧ a.spot ≠ none ∧ (∀ j v, vs[j]? = some v → A.get G (aadd a j) = some v)) ∨
    (∃ s, x = .string s ∧ m = s.size ∧ size = 1 ∧ vs = s.data.toList.map fun b => Value.int .u8 (b.toNat : Int)))

/-- append: s is told again, longer; what it was is of an elder generation. -/
def aappend (fl : Nat) (A : Hp) (ts : Array TypeId) (s x : Value) (K : Value → Hp → Prop) : Prop :=
  ∃ t u e T E m vs, ts = #[t, u] ∧ tyOf P t = some T ∧ T.d = .sl e ∧ tyOf P e = some E ∧ ((tyOf P u).map (fun U => match U.d with | .sl _ | .str => true | _ => false)) = some true ∧ 0 < E.size ∧ E.zero.length = E.size ∧
    vs.all (·.oneCell') = true ∧ news G A E.size x m vs ∧
    ((s = .slice none 0 0 ∧ m = 0 ∧ K (.slice none 0 0) A) ∨
     (s = .slice none 0 0 ∧ 0 < m ∧ m * E.bytes ≤ 140737488355328 ∧ m ≤ 140737488355328 ∧ K (.slice (some ⟨A.next, 0, some 0⟩) m m) (A.push (.row vs 0 E.size))) ∨
     (∃ a n c g cs, s = .slice (some a) n c ∧ a.spot = some g ∧ A.blk a.block = some (.row cs g E.size) ∧ fl ≤ a.block ∧ a.off + n * E.size ≤ cs.length ∧ cs.all (·.oneCell') = true ∧
        (n + m) * E.bytes ≤ 140737488355328 ∧ n + m ≤ 140737488355328 ∧
        K (.slice (some ⟨a.block, 0, some (g + 1)⟩) (n + m) (n + m)) (A.put a.block (.row ((cs.drop a.off).take (n * E.size) ++ vs) (g + 1) E.size))))

/-- clear: the elements of a slice of the call's own are zero again. -/
def aclear (fl : Nat) (A : Hp) (ts : Array TypeId) (xs : List Value) (K : Value → Hp → Prop) : Prop :=
  ∃ t e T E s, ts = #[t] ∧ tyOf P t = some T ∧ T.d = .sl e ∧ tyOf P e = some E ∧ xs = [s] ∧ E.zero.all zc = true ∧ E.zero.length = E.size ∧
    ((∃ a c, s = .slice a 0 c ∧ K (.tuple #[]) A) ∨
     (∃ a n c g cs e', s = .slice (some a) n c ∧ 0 < n ∧ a.spot = some g ∧ A.blk a.block = some (.row cs g e') ∧ fl ≤ a.block ∧ a.off + n * E.size ≤ cs.length ∧
        K (.tuple #[]) (A.put a.block (.row (wr cs a.off (zl E.zero (n * E.size))) g e'))))

def aop (fl : Nat) (o : Oper) (τ : Tm) (A : Hp) (K : Value → Hp → Prop) : Prop :=
  match o.op with
  | .move x | .assign x => ∃ v, ev τ x = some v ∧ K v A
  | .pick c x y => ∃ b, ev τ c = some (.bool b) ∧ (b = true → ∃ v, ev τ x = some v ∧ K v A) ∧ (b = false → ∃ v, ev τ y = some v ∧ K v A)
  | .alloc t => ∃ T, tyOf P t = some T ∧ T.zero.all zc = true ∧ K (.pointer (some ⟨A.next, 0, some 0⟩)) (A.push (.row T.zero 0 T.esz))
  | .box t x => ∃ T, tyOf P t = some T ∧ ∃ v, ev τ x = some v ∧ K (.pointer (some ⟨A.next, 0, some 0⟩)) (A.push (.row v.cells.toList 0 T.esz))
  | .build t ps => ∃ T, tyOf P t = some T ∧ T.zero.all zc = true ∧ evp τ ps.toList [] fun pvs =>
      (∃ fs, T.d = .st fs ∧ ∃ cs, buildL (fun i => (fs[i]?).map fun f => (f.1, f.2.1)) T.zero pvs = some cs ∧ K (.agg cs.toArray) A) ∨
      (∃ n e E, T.d = .arr n e ∧ tyOf P e = some E ∧ ∃ cs, buildL (fun i => some (i * E.size, E.size)) T.zero pvs = some cs ∧ K (.agg cs.toArray) A)
  | .buildSlice t len ps => ∃ T, tyOf P t = some T ∧ ∃ e E, T.d = .sl e ∧ tyOf P e = some E ∧ E.zero.all zc = true ∧ len * E.size ≤ 16777216 ∧ evp τ ps.toList [] fun pvs =>
      ∃ cs, buildL (fun i => some (i * E.size, E.size)) (zl E.zero (len * E.size)) pvs = some cs ∧ K (.slice (some ⟨A.next, 0, some 0⟩) len len) (A.push (.row cs 0 E.size))
  | .load t x => ∃ p, ev τ x = some (.pointer (some p)) ∧ ∃ T, tyOf P t = some T ∧
      ((T.agg = true ∧ rdn G A p 0 T.size [] fun vs => K (.agg vs.toArray) A) ∨ (T.agg = false ∧ ∃ v, A.get G p = some v ∧ K v A))
  | .store t x y => ∃ p, ev τ x = some (.pointer (some p)) ∧ ∃ v, ev τ y = some v ∧ ∃ T, tyOf P t = some T ∧ v.cells.size = T.size ∧ ones v = true ∧
      ∃ g cs e, p.spot = some g ∧ A.blk p.block = some (.row cs g e) ∧ fl ≤ p.block ∧ p.off + v.cells.size ≤ cs.length ∧ K undef (A.put p.block (.row (wr cs p.off v.cells.toList) g e))
  | .nilCheck x => (∃ p, ev τ x = some (.pointer (some p)) ∧ K (.pointer (some p)) A) ∨ (∃ f a b, ev τ x = some (.func (.func f) a b) ∧ K (.func (.func f) a b) A)
  | .binOp op t x y _ => ∃ a, ev τ x = some a ∧ ∃ b, ev τ y = some b ∧ abin P op t a b fun v => K v A
  | .unOp op _ x => match op with
    | .neg => ∃ k n, ev τ x = some (.int k n) ∧ K (.int k (k.wrap (0 - n))) A
    | .not => ∃ b, ev τ x = some (.bool b) ∧ K (.bool (!b)) A
    | _ => False
  | .convert s d x => ∃ S, tyOf P s = some S ∧ ∃ D, tyOf P d = some D ∧ ∃ v, ev τ x = some v ∧
      ((∃ k k' n, D.d = .int k ∧ v = .int k' n ∧ K (.int k (k.wrap n)) A) ∨
       (∃ b, D.d = .str ∧ v = .string b ∧ K (.string b) A) ∨
       (∃ e E b, S.d = .str ∧ D.d = .sl e ∧ tyOf P e = some E ∧ E.d = .int .u8 ∧ v = .string b ∧ K (.slice (some ⟨A.next, 0, some 0⟩) b.size b.size) (A.push (.row (b.data.toList.map fun c => Value.int .u8 (c.toNat : Int)) 0 1))) ∨
       (∃ e E, S.d = .sl e ∧ D.d = .str ∧ tyOf P e = some E ∧ E.d = .int .u8 ∧
          ((∃ n c, v = .slice none n c ∧ K (.string ByteArray.empty) A) ∨
           (∃ a n c, ∃ l : List UInt8, v = .slice (some a) n c ∧ a.spot ≠ none ∧ l.length = n ∧ (∀ j (u : UInt8), l[j]? = some u → A.get G (aadd a j) = some (.int .u8 (u.toNat : Int))) ∧ K (.string ⟨l.toArray⟩) A))))
  | .makeFunc fn first captured => ∃ f, fn = .func f ∧ evs τ first.toList [] fun xs => evs τ captured.toList [] fun ys => K (.func fn xs.toArray ys.toArray) A
  | .makeSlice t x y => ∃ T, tyOf P t = some T ∧ ∃ e E, T.d = .sl e ∧ tyOf P e = some E ∧ E.zero.all zc = true ∧ ∃ k k' l c, ev τ x = some (.int k l) ∧ ev τ y = some (.int k' c) ∧ 0 ≤ l ∧ l ≤ c ∧
      (E.bytes : Int) * c ≤ 281474976710656 ∧ c ≤ 9223372036854775807 ∧ K (.slice (some ⟨A.next, 0, some 0⟩) l.toNat c.toNat) (A.push (.row (zl E.zero (c.toNat * E.size)) 0 E.size))
  | .slice t x lo hi mx => mx = none ∧ ∃ v, ev τ x = some v ∧ alo τ lo fun l => ahi τ hi fun h => aslice P A t v l h fun r => K r A
  | .fieldAddr s x i => ∃ p, ev τ x = some (.pointer (some p)) ∧ ∃ S, tyOf P s = some S ∧ ∃ f, (placesOf S.d)[i]? = some f ∧ f.2.1 ≠ 0 ∧ K (.pointer (some (aadd p f.1))) A
  | .field s x i => ∃ cs, ev τ x = some (.agg cs) ∧ ∃ S, tyOf P s = some S ∧ ∃ f, (placesOf S.d)[i]? = some f ∧ ∃ T, tyOf P f.2.2 = some T ∧
      ((T.agg = true ∧ K (.agg (cs.extract f.1 (f.1 + T.size))) A) ∨ (T.agg = false ∧ ∃ v, cs[f.1]? = some v ∧ K v A))
  | .indexAddr t x i => ∃ T, tyOf P t = some T ∧ ∃ k n, ev τ i = some (.int k n) ∧ 0 ≤ n ∧ ∃ v, ev τ x = some v ∧
      ((∃ e E a len c, T.d = .sl e ∧ tyOf P e = some E ∧ v = .slice (some a) len c ∧ n < len ∧ K (.pointer (some (aadd a (n.toNat * E.size)))) A) ∨
       (∃ len e E a, T.d = .arr len e ∧ tyOf P e = some E ∧ v = .pointer (some a) ∧ n < len ∧ K (.pointer (some (aadd a (n.toNat * E.size)))) A))
  | .index t x i => ∃ T, tyOf P t = some T ∧ ∃ k n, ev τ i = some (.int k n) ∧ 0 ≤ n ∧ ∃ v, ev τ x = some v ∧
      ((∃ s, T.d = .str ∧ v = .string s ∧ n < s.size ∧ K (.int .u8 (byteAt s n)) A) ∨
       (∃ len e E cs, T.d = .arr len e ∧ tyOf P e = some E ∧ v = .agg cs ∧ n < len ∧
          ((E.agg = true ∧ K (.agg (cs.extract (n.toNat * E.size) (n.toNat * E.size + E.size))) A) ∨ (E.agg = false ∧ ∃ u, cs[n.toNat * E.size]? = some u ∧ K u A))))
  | .makeMap t r => (r = none ∨ ∃ x T kt et k n, r = some x ∧ ev τ x = some (.int k n) ∧ tyOf P t = some T ∧ T.d = .mp kt et) ∧ K (.map (some A.next)) (A.push (.mp [] 0))
  | .lookup t x i cok => ∃ m, ev τ x = some m ∧ ∃ k, ev τ i = some k ∧ alookup P A t m k cok fun v => K v A
  | .mapUpdate t m k x | .insert t m k x => ∃ mv, ev τ m = some mv ∧ ∃ kv, ev τ k = some kv ∧ ∃ v, ev τ x = some v ∧ amput P fl A t mv kv v K
  | .range t x => ∃ m, ev τ x = some m ∧ amrange P A t m K
  | .next x s => s = false ∧ ∃ v, ev τ x = some v ∧ anext fl A v K
  | .entry x => ∃ v, ev τ x = some v ∧ aentry A v fun u => K u A
  | .extract x i => ∃ vs, ev τ x = some (.tuple vs) ∧ ∃ v, vs[i]? = some v ∧ K v A
  | .call c => match c.callee with
    | .value f => ∃ fid first captured, ev τ f = some (.func (.func fid) first captured) ∧ evs τ c.args.toList [] fun xs => acall P G fid (first.toList ++ xs ++ captured.toList) fl A K
    | .builtin .len => ∃ t T, c.argTypes[0]? = some t ∧ tyOf P t = some T ∧ evs τ c.args.toList [] fun xs => ∃ v, xs[0]? = some v ∧
        ((∃ s, T.d = .str ∧ v = .string s ∧ K (.int .i64 s.size) A) ∨ (∃ e, ∃ a : Option Addr, ∃ n cp : Nat, T.d = .sl e ∧ v = .slice a n cp ∧ K (.int .i64 (n : Int)) A) ∨ (∃ n : Nat, ∃ e, T.d = .arr n e ∧ K (.int .i64 (n : Int)) A) ∨
         (∃ kt et es, T.d = .mp kt et ∧ amap A v es ∧ K (.int .i64 (es.length : Int)) A))
    | .builtin .append => evs τ c.args.toList [] fun xs => ∃ s x, xs = [s, x] ∧ aappend P G fl A c.argTypes s x K
    | .builtin .clear => evs τ c.args.toList [] fun xs => aclear P fl A c.argTypes xs K
    | .builtin .delete => evs τ c.args.toList [] fun xs => amdel P fl A c.argTypes xs K
    | .builtin .min => evs τ c.args.toList [] fun xs => ∃ k x y, xs = [.int k x, .int k y] ∧ K (.int k (if y < x then y else x)) A
    | .builtin .max => evs τ c.args.toList [] fun xs => ∃ k x y, xs = [.int k x, .int k y] ∧ K (.int k (if y > x then y else x)) A
    | _ => False
  | _ => False

end
end Go.Proofs.Ytiiapkhdjchhjaa.Ab
