/- A function's contract: what its body comes to, told in a canonical heap. -/
import Derived.Test.YtpaffoiiipgkeaaDoorAb13
namespace Go.Proofs.YtpaffoiiipgkeaaDoor.Ab
open Go.RowKit
set_option linter.unusedVariables false
set_option linter.unusedSimpArgs false

variable (G : Gl) (P : Program) in
/-- The results, read off the slots and the heap. -/
def ares (τ : Tm) (A : Hp) : List ResultVar → List Value → (List Value → Prop) → Prop
  | [], acc, K => K acc
  | .tmp t :: rs, acc, K => ∃ v, τ t = some v ∧ ares τ A rs (acc ++ [v]) K
  | .cell a t :: rs, acc, K => ∃ p, τ a = some (.pointer (some p)) ∧ ∃ T, tyOf P t = some T ∧
      ((T.agg = true ∧ rdn G A p 0 T.size [] fun vs => ares τ A rs (acc ++ [.agg vs.toArray]) K) ∨ (T.agg = false ∧ ∃ v, A.get G p = some v ∧ ares τ A rs (acc ++ [v]) K))

def retv : List Value → Value
  | [v] => v
  | vs => .tuple vs.toArray

/-- The place of a block under other names: canonical number to number and shift. -/
abbrev Rn := Nat → Option (Nat × Nat)

def RA (B : Hp) (ρ : Rn) (a a' : Addr) : Prop := ∃ id sh cs g e, ρ a.block = some (id, sh) ∧ a.spot = some 0 ∧ B.blk id = some (.row cs g e) ∧ a' = ⟨id, sh + a.off, some g⟩

/-- A value under canonical names, and under those that it has. -/
inductive RR (B : Hp) (n : Nat) (ρ : Rn) : Value → Value → Prop
  | same {v : Value} (h : RB n v) : RR B n ρ v v
  | ptr {a a' : Addr} (h : RA B ρ a a') : RR B n ρ (.pointer (some a)) (.pointer (some a'))
  | sl {a a' : Addr} {m c c' : Nat} (h : RA B ρ a a') (hc : c ≤ c') : RR B n ρ (.slice (some a) m c) (.slice (some a') m c')
  | agg {xs ys : Array Value} (h1 : xs.size = ys.size) (h2 : ∀ (i : Nat) (h : i < xs.size) (h' : i < ys.size), RR B n ρ xs[i] ys[i]) : RR B n ρ (.agg xs) (.agg ys)
  | tuple {xs ys : Array Value} (h1 : xs.size = ys.size) (h2 : ∀ (i : Nat) (h : i < xs.size) (h' : i < ys.size), RR B n ρ xs[i] ys[i]) : RR B n ρ (.tuple xs) (.tuple ys)

/-- How a heap is told in canonical names: the old blocks as they are, the new ones renamed. A: the heap at the call; B: behind it; C: B told so. -/
structure Told (A B C : Hp) (ρ : Rn) : Prop where
  next : A.next ≤ C.next
  old : ∀ id, id < A.next → C.blk id = B.blk id
  oldRefs : ∀ id, id < A.next → ∀ cs g e, B.blk id = some (.row cs g e) → A.blk id = some (.row cs g e) ∨ ∀ v ∈ cs, RB A.next v
  none : ∀ id, C.next ≤ id → C.blk id = .none
  new : ∀ k, A.next ≤ k → k < C.next → ∃ id sh cs g e ds, ρ k = some (id, sh) ∧ A.next ≤ id ∧ B.blk id = some (.row cs g e) ∧ C.blk k = some (.row ds 0 e) ∧ sh + ds.length ≤ cs.length ∧
    ∀ (j : Nat) (v : Value), ds[j]? = some v → ∃ u, cs[sh + j]? = some u ∧ RR B A.next ρ v u
  ran : ∀ k p, ρ k = some p → A.next ≤ k ∧ k < C.next
  inj : ∀ k k' id sh sh', ρ k = some (id, sh) → ρ k' = some (id, sh') → k = k'

/-- What a body comes to, and how it is told. -/
def Ended (A : Hp) (r : Value) (B : Hp) (v : Value) (C : Hp) : Prop := ∃ ρ, Told A B C ρ ∧ RR B A.next ρ v r

section
variable {P : Program} {G : Gl}

theorem RB.agg_inv {n : Nat} {xs : Array Value} (h : RB n (.agg xs)) (i : Nat) (hi : i < xs.size) : RB n xs[i] := by
  obtain ⟨v', h⟩ := h; cases h with | agg k1 k2 => exact ⟨_, k2 i hi (by omega)⟩

theorem RR.rb {A B C : Hp} {ρ : Rn} (T : Told A B C ρ) {v u : Value} (h : RR B A.next ρ v u) : RB C.next v := by
  have addr : ∀ {a a' : Addr}, RA B ρ a a' → a.block < C.next ∧ a.spot = some 0 := fun {a a'} ⟨id, sh, cs, g, e, h1, h2, _⟩ => ⟨(T.ran _ _ h1).2, h2⟩
  induction h with
  | same h => exact h.mono T.next
  | @ptr a a' h => exact ⟨.pointer (some a), .ptr (.inr ⟨(addr h).1, 0, (addr h).2, fun cs g e hb => by simp at hb⟩)⟩
  | @sl a a' m c c' h hc => exact ⟨.slice (some a) m (max m c), .sl (addr h).1 (by omega) (by omega) ⟨0, (addr h).2, fun cs g e hb => by simp at hb⟩⟩
  | @agg xs ys h1 h2 ih =>
    have : ∃ zs : Array Value, zs.size = xs.size ∧ ∀ (i : Nat) (h : i < xs.size) (h' : i < zs.size), VR (fun _ => none) ⟨C.next, fun _ => none⟩ xs[i] zs[i] :=
      ⟨Array.ofFn fun i : Fin xs.size => (ih i.1 i.2 (by omega)).choose, by simp, fun i h h' => by simp only [Array.getElem_ofFn]; exact (ih i h (by omega)).choose_spec⟩
    obtain ⟨zs, h3, h4⟩ := this
    exact ⟨.agg zs, .agg h3.symm h4⟩
  | @tuple xs ys h1 h2 ih =>
    have : ∃ zs : Array Value, zs.size = xs.size ∧ ∀ (i : Nat) (h : i < xs.size) (h' : i < zs.size), VR (fun _ => none) ⟨C.next, fun _ => none⟩ xs[i] zs[i] :=
      ⟨Array.ofFn fun i : Fin xs.size => (ih i.1 i.2 (by omega)).choose, by simp, fun i h h' => by simp only [Array.getElem_ofFn]; exact (ih i h (by omega)).choose_spec⟩
    obtain ⟨zs, h3, h4⟩ := this
    exact ⟨.tuple zs, .tuple h3.symm h4⟩

/-- The places of the canonical names. -/
def Mu.ren (μ : Mu) (n : Nat) (ρ : Rn) : Mu := fun k => if k < n then μ k else (ρ k).bind fun p => (μ p.1).map fun q => (q.1, q.2.1 + p.2, q.2.2)

theorem RR.vr {A B C : Hp} {ρ : Rn} (T : Told A B C ρ) {μ : Mu} {v u v' : Value} (h : RR B A.next ρ v u) : VR μ B u v' → VR (μ.ren A.next ρ) C v v' := by
  have hlt : ∀ {id : Nat}, id < A.next → (μ.ren A.next ρ) id = μ id := fun {id} h => by simp only [Mu.ren, if_pos h]
  have hren : ∀ {k id sh : Nat}, ρ k = some (id, sh) → ∀ b o S, μ id = some (b, o, S) → (μ.ren A.next ρ) k = some (b, o + sh, S) := fun {k id sh} hk b o S hm => by
    have := (T.ran _ _ hk).1
    simp only [Mu.ren, if_neg (show ¬ k < A.next by omega), hk, Option.bind_some, hm, Option.map_some]
  induction h generalizing v' with
  | @same v h =>
    intro hv
    have := hv.down (ν := μ) (B := ⟨A.next, fun id => if id < A.next then B.blk id else none⟩) (fun id hid => by simp only [if_pos hid]) (fun _ _ => rfl) h
    have E : Ext μ ⟨A.next, fun id => if id < A.next then B.blk id else none⟩ (μ.ren A.next ρ) C := by
      refine ⟨T.next, fun id hid cs g e hb => ⟨cs, g, e, ?_, .inl ⟨rfl, rfl, fun p hp => by rw [hlt hid]; exact hp⟩⟩⟩
      rw [T.old id hid] at hb
      simp only [if_pos (show id < A.next from hid)]
      exact hb
    exact this.mono E
  | @ptr a a' h =>
    intro hv
    obtain ⟨id, sh, cs, g, e, h1, h2, h3, rfl⟩ := h
    obtain ⟨p', rfl, har⟩ := hv.ptr_inv
    obtain ⟨b, o, S, hm, rfl⟩ := har.live rfl h3
    refine .ptr (.inr ⟨(T.ran _ _ h1).2, 0, h2, fun cs' g' e' hb => ⟨Nat.zero_le _, fun _ => ⟨b, o + sh, S, hren h1 b o S hm, ?_⟩⟩⟩)
    simp [Nat.add_assoc]
  | @sl a a' m c c' h hc =>
    intro hv
    obtain ⟨id, sh, cs, g, e, h1, h2, h3, rfl⟩ := h
    cases hv with
    | @sl _ a2 _ _ c2 hl1 hcc hn hl =>
      obtain ⟨g', hg', hl⟩ := hl
      cases hg'
      obtain ⟨b, o, S, hm, hp⟩ := (hl cs g e h3).2 rfl
      refine .sl (T.ran _ _ h1).2 (by omega) hn ⟨0, h2, fun cs' g' e' hb => ⟨Nat.zero_le _, fun _ => ⟨b, o + sh, S, hren h1 b o S hm, fun hc2 => ?_⟩⟩⟩
      obtain ⟨rfl, hS⟩ := hp hc2
      obtain ⟨id', sh', cs2, g2, e2, ds, k1, k2, k3, k4, k5, k6⟩ := T.new a.block (T.ran _ _ h1).1 (T.ran _ _ h1).2
      rw [h1] at k1; cases k1
      rw [h3] at k3; cases k3
      rw [k4] at hb; cases hb
      refine ⟨by simp [Nat.add_assoc], by simp only at hS; omega⟩
  | @agg xs ys h1 h2 ih =>
    intro hv
    obtain ⟨ds, rfl, h3⟩ := hv.agg_inv
    have := h3.1
    exact .agg (by omega) fun i hi hi' => ih i hi (by omega) (h3.2 i (by omega) hi')
  | @tuple xs ys h1 h2 ih =>
    intro hv
    obtain ⟨ds, rfl, h3⟩ := hv.tuple_inv
    have := h3.1
    exact .tuple (by omega) fun i hi hi' => ih i hi (by omega) (h3.2 i (by omega) hi')

theorem Ended.sound {fl : Nat} {A B C : Hp} {r v r' : Value} {μ μ' : Mu} {w w' : World} (F : Ended A r B v C) (H0 : HR G μ fl A w) (hfl : fl ≤ A.next) (T : Trans fl μ A w μ' B w') (H : HR G μ' fl B w') (hr : VR μ' B r r') :
    ∃ ν, VR ν C v r' ∧ HR G ν fl C w' ∧ Trans fl μ A w ν C w' := by
  obtain ⟨ρ, D, hR⟩ := F
  have hn := T.ext.next
  have hlt : ∀ {id : Nat}, id < A.next → (μ'.ren A.next ρ) id = μ' id := fun {id} h => by simp only [Mu.ren, if_pos h]
  have hnew : ∀ {k : Nat} {b o S : Nat}, ¬ k < A.next → (μ'.ren A.next ρ) k = some (b, o, S) → ∃ id sh ob, ρ k = some (id, sh) ∧ μ' id = some (b, ob, S) ∧ o = ob + sh := fun {k b o S} h hm => by
    simp only [Mu.ren, if_neg h] at hm
    cases hk : ρ k with
    | none => simp [hk] at hm
    | some p =>
      simp only [hk, Option.bind_some] at hm
      cases hq : μ' p.1 with
      | none => simp [hq] at hm
      | some q =>
        simp only [hq, Option.map_some, Option.some.injEq, Prod.mk.injEq] at hm
        obtain ⟨rfl, rfl, rfl⟩ := hm
        exact ⟨p.1, p.2, q.2.1, rfl, by rw [hq], rfl⟩
  have oldrb : ∀ id, id < A.next → ∀ cs g e, B.blk id = some (.row cs g e) → ∀ v ∈ cs, RB A.next v := fun id hid cs g e hb v hv => by
    rcases D.oldRefs id hid cs g e hb with h | h
    · exact H0.refs id cs g e h v hv
    · exact h v hv
  have oldE : ∀ {u u' : Value}, RB A.next u → VR μ' B u u' → VR (μ'.ren A.next ρ) C u u' := fun {u u'} h hv => RR.vr D (.same h) hv
  refine ⟨μ'.ren A.next ρ, RR.vr D hR hr, ⟨D.none, fun id cs g e hb v hv => ?_, fun id cs g e b o S hb hm => ?_, fun id cs g e b o S hf hb hm j hj => ?_, fun id id' b o S b' o' S' hne hf hb hb' hm hm' => ?_, H.glob, fun g cs id b o S hg hf hb hm => ?_⟩, ?_⟩
  · have hid : id < C.next := by
      rcases Nat.lt_or_ge id C.next with h | h
      · exact h
      · rw [D.none id h] at hb; cases hb
    by_cases h : id < A.next
    · rw [D.old id h] at hb
      exact (oldrb id h cs g e hb v hv).mono D.next
    · obtain ⟨id', sh, cs', g', e', ds, k1, k2, k3, k4, k5, k6⟩ := D.new id (by omega) hid
      rw [k4] at hb; cases hb
      obtain ⟨j, hj⟩ := List.mem_iff_getElem?.1 hv
      obtain ⟨u, _, hu⟩ := k6 j v hj
      exact hu.rb D
  · by_cases h : id < A.next
    · rw [hlt h] at hm
      rw [D.old id h] at hb
      obtain ⟨c, t, fr, h1, h2, h3, h4⟩ := H.row id cs g e b o S hb hm
      refine ⟨c, t, fr, h1, h2, h3, fun j v hj => ?_⟩
      obtain ⟨v', h5, h6⟩ := h4 j v hj
      exact ⟨v', h5, oldE (oldrb id h cs g e hb v (List.mem_of_getElem? hj)) h6⟩
    · obtain ⟨id1, sh1, ob, q1, q2, rfl⟩ := hnew h hm
      have hid := (D.ran _ _ q1).2
      obtain ⟨id', sh, cs', g', e', ds, k1, k2, k3, k4, k5, k6⟩ := D.new id (by omega) hid
      rw [q1] at k1; cases k1
      rw [k4] at hb; cases hb
      obtain ⟨c, t, fr, h1, h2, h3, h4⟩ := H.row id1 cs' g' _ b ob S k3 q2
      refine ⟨c, t, fr, h1, h2, by omega, fun j v hj => ?_⟩
      obtain ⟨u, hu1, hu2⟩ := k6 j v hj
      obtain ⟨v', h5, h6⟩ := h4 _ u hu1
      exact ⟨v', by rw [Nat.add_assoc]; exact h5, RR.vr D hu2 h6⟩
  · by_cases h : id < A.next
    · rw [hlt h] at hm
      rw [D.old id h] at hb
      exact H.free id cs g e b o S hf hb hm j hj
    · obtain ⟨id1, sh1, ob, q1, q2, rfl⟩ := hnew h hm
      obtain ⟨id', sh, cs', g', e', ds, k1, k2, k3, k4, k5, k6⟩ := D.new id (by omega) (D.ran _ _ q1).2
      rw [q1] at k1; cases k1
      exact H.free id1 cs' g' _ b ob S (by omega) k3 q2 j hj
  · by_cases h : id < A.next
    · rw [hlt h] at hm
      rw [D.old id h] at hb
      by_cases h' : id' < A.next
      · rw [hlt h'] at hm'
        rw [D.old id' h'] at hb'
        exact H.apart id id' b o S b' o' S' hne hf hb hb' hm hm'
      · obtain ⟨id1, sh1, ob, q1, q2, rfl⟩ := hnew h' hm'
        obtain ⟨id2, sh, cs', g', e', ds, k1, k2, k3, k4, k5, k6⟩ := D.new id' (by omega) (D.ran _ _ q1).2
        rw [q1] at k1; cases k1
        exact H.apart id id1 b o S b' ob S' (by omega) hf hb (by rw [k3]; simp) hm q2
    · obtain ⟨id1, sh1, ob, q1, q2, rfl⟩ := hnew h hm
      obtain ⟨id2, sh, cs', g', e', ds, k1, k2, k3, k4, k5, k6⟩ := D.new id (by omega) (D.ran _ _ q1).2
      rw [q1] at k1; cases k1
      by_cases h' : id' < A.next
      · rw [hlt h'] at hm'
        rw [D.old id' h'] at hb'
        exact H.apart id1 id' b ob S b' o' S' (by omega) (by omega) (by rw [k3]; simp) hb' q2 hm'
      · obtain ⟨id3, sh3, ob3, r1, r2, rfl⟩ := hnew h' hm'
        obtain ⟨id4, sh4, cs4, g4, e4, ds4, l1, l2, l3, l4, l5, l6⟩ := D.new id' (by omega) (D.ran _ _ r1).2
        rw [r1] at l1; cases l1
        refine H.apart id1 id3 b ob S b' ob3 S' (fun e => hne ?_) (by omega) (by rw [k3]; simp) (by rw [l3]; simp) q2 r2
        subst e
        exact D.inj _ _ _ _ _ q1 r1
  · by_cases h : id < A.next
    · rw [hlt h] at hm
      rw [D.old id h] at hb
      exact H.globApart g cs id b o S hg hf hb hm
    · obtain ⟨id1, sh1, ob, q1, q2, rfl⟩ := hnew h hm
      obtain ⟨id2, sh, cs', g', e', ds, k1, k2, k3, k4, k5, k6⟩ := D.new id (by omega) (D.ran _ _ q1).2
      rw [q1] at k1; cases k1
      exact H.globApart g cs id1 b ob S hg (by omega) (by rw [k3]; simp) q2
  · refine ⟨T.os, T.tape, T.output, T.size, ⟨D.next, fun id hid cs g e hb => ?_⟩, fun id hid => ?_, fun id hid hm => ?_, T.frame, fun b ⟨id, o, S, hf, hb, hm⟩ => ?_⟩
    · rw [D.old id hid] at hb
      obtain ⟨c0, g0, e0, h1, h2⟩ := T.ext.row id hid cs g e hb
      refine ⟨c0, g0, e0, h1, ?_⟩
      rcases h2 with ⟨h3, h4, h5⟩ | h2
      · exact .inl ⟨h3, h4, fun p hp => by rw [hlt hid]; exact h5 p hp⟩
      · exact .inr h2
    · rw [D.old id (by omega), hlt (by omega)]; exact T.low id hid
    · rw [hlt hid]; exact T.dom id hid hm
    · by_cases h : id < A.next
      · rw [hlt h] at hm
        rw [D.old id h] at hb
        exact T.own b ⟨id, o, S, hf, hb, hm⟩
      · obtain ⟨id1, sh1, ob, q1, q2, rfl⟩ := hnew h hm
        obtain ⟨id2, sh, cs', g', e', ds, k1, k2, k3, k4, k5, k6⟩ := D.new id (by omega) (D.ran _ _ q1).2
        rw [q1] at k1; cases k1
        exact T.own b ⟨id1, ob, S, by omega, by rw [k3]; simp, q2⟩

end
end Go.Proofs.YtpaffoiiipgkeaaDoor.Ab
