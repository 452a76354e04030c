/- The other operations, by rewriting; loops, calls; rows of elements in the heap. -/
import Derived.Test.YtpaffoiiipgkeaaDoorAb15
namespace Go.Proofs.YtpaffoiiipgkeaaDoor.Ab
open Go.RowKit
set_option linter.unusedVariables false
set_option linter.unusedSimpArgs false

section
variable {P : Program} {G : Gl} {fl : Nat} {flo : Oper → Hp → Nat} {ops os : List Oper} {τ : Tm} {A : Hp} {d : Option Tmp} {t : TypeId} {ps : String} {af : Array Edge} {g : Option (Nat × Bool)}

/-- A function's contract, from its body. -/
theorem Sound.of {f : FuncId} {fn : Func} {c : Code} {rs : Array ResultVar} {nt : Nat} {args : List Value} {fl : Nat} {A C : Hp} {v : Value} (hmx : P.follows .mixedOrders = true) (hf : P.funcs[f]? = some fn) (hnt : fn.ntmps = nt) (hrs : fn.results = rs)
    (hname : (fn.name == "runtime.NumGoroutine") = false) (hb : fn.body = some c) (hok : okCode P nt c = true) (hn : args.length ≤ nt)
    (h : Hok fl A → acode P G fl c (slots0 args) A (done fun τ B => @aRes G P τ B rs.toList [] ⟨fun vs => Ended A (retv vs) B v C⟩)) : Sound P G f args fl A v C := by
  subst hnt; subst hrs
  exact Sound.intro hmx hf hname hb hok hn h

/-- The same, as the call itself. -/
theorem calls_of {f : FuncId} {fn : Func} {c : Code} {rs : Array ResultVar} {nt : Nat} {args : List Value} {fl : Nat} {A C : Hp} {v : Value} (hmx : P.follows .mixedOrders = true) (hf : P.funcs[f]? = some fn) (hnt : fn.ntmps = nt) (hrs : fn.results = rs)
    (hname : (fn.name == "runtime.NumGoroutine") = false) (hb : fn.body = some c) (hok : okCode P nt c = true) (hn : args.length ≤ nt)
    (h : Hok fl A → acode P G fl c (slots0 args) A (done fun τ B => @aRes G P τ B rs.toList [] ⟨fun vs => Ended A (retv vs) B v C⟩)) : ∀ (μ : Mu) (w : World) (args' : Array Value), HR G μ fl A w → fl ≤ A.next → VRa μ A args.toArray args' →
    Calls P f args' w fun e w' => ∃ u, e = .returned u ∧ ∃ ν, VR ν C v u ∧ HR G ν fl C w' ∧ Trans fl μ A w ν C w' := by
  subst hnt; subst hrs
  exact calls_intro hmx hf hname hb hok hn h

/-- The parts' values, put into the cells. -/
def putL (place : Nat → Option (Nat × Nat)) (cells : List Value) (pvs : List (Nat × Value)) [K : Kt (List Value)] : Prop := ∃ cs, buildL place cells pvs = some cs ∧ K.run cs
theorem putL_nil {place : Nat → Option (Nat × Nat)} {cells : List Value} {f : List Value → Prop} : @putL place cells [] ⟨f⟩ = f cells := by simp [putL, buildL]
theorem putL_cons {place : Nat → Option (Nat × Nat)} {cells : List Value} {i : Nat} {v : Value} {l : List (Nat × Value)} {f : List Value → Prop} :
    @putL place cells ((i, v) :: l) ⟨f⟩ = @bO _ (place i) ⟨fun p => @side (v.cells.size = p.2 ∧ p.1 + p.2 ≤ cells.length) ⟨@putL place (wr cells p.1 v.cells.toList) l ⟨f⟩⟩⟩ := by
  apply propext
  simp only [putL, buildL, bO, side]
  constructor
  · rintro ⟨cs, h1, h2⟩
    cases hp : place i with
    | none => simp [hp] at h1
    | some p =>
      obtain ⟨off, size⟩ := p
      simp only [hp] at h1
      split at h1
      · rename_i hc; exact ⟨_, rfl, hc, cs, h1, h2⟩
      · cases h1
  · rintro ⟨p, h1, hc, cs, h2, h3⟩
    obtain ⟨off, size⟩ := p
    exact ⟨cs, by simp only [h1]; rw [if_pos hc]; exact h2, h3⟩
/-- A built value. -/
def bldT (P : Program) (T : Ty) (pvs : List (Nat × Value)) [K : Kt (List Value)] : Prop :=
  (∃ fs, T.d = .st fs ∧ ∃ cs, buildL (fun i => (fs[i]?).map fun f => (f.1, f.2.1)) T.zero pvs = some cs ∧ K.run cs) ∨
  (∃ n e E, T.d = .arr n e ∧ tyOf P e = some E ∧ ∃ cs, buildL (fun i => some (i * E.size, E.size)) T.zero pvs = some cs ∧ K.run cs)
theorem bldT_st {fs : List (Nat × Nat × TypeId)} {sz by_ es : Nat} {z : List Value} {ag : Bool} {pvs : List (Nat × Value)} {f : List Value → Prop} :
    @bldT P ⟨.st fs, sz, by_, z, ag, es⟩ pvs ⟨f⟩ = @putL (fun i => (fs[i]?).map fun f => (f.1, f.2.1)) z pvs ⟨f⟩ := by
  apply propext; constructor
  · rintro (⟨_, h, hk⟩ | ⟨_, _, _, h, _⟩)
    · cases h; exact hk
    · cases h
  · intro h; exact .inl ⟨_, rfl, h⟩
theorem bldT_arr {n : Nat} {e : TypeId} {sz by_ es : Nat} {z : List Value} {ag : Bool} {pvs : List (Nat × Value)} {f : List Value → Prop} :
    @bldT P ⟨.arr n e, sz, by_, z, ag, es⟩ pvs ⟨f⟩ = @bO _ (tyOf P e) ⟨fun E => @putL (fun i => some (i * E.size, E.size)) z pvs ⟨f⟩⟩ := by
  apply propext; constructor
  · rintro (⟨_, h, hk⟩ | ⟨_, _, E, h, hE, hk⟩)
    · cases h
    · cases h; exact ⟨E, hE, hk⟩
  · rintro ⟨E, hE, h⟩; exact .inr ⟨_, _, E, rfl, hE, h⟩
/-- The element type of a slice type. -/
def slT (P : Program) (T : Ty) [K : Kt Ty] : Prop := ∃ e E, T.d = .sl e ∧ tyOf P e = some E ∧ K.run E
theorem slT_sl {e : TypeId} {sz by_ es : Nat} {z : List Value} {ag : Bool} {f : Ty → Prop} : @slT P ⟨.sl e, sz, by_, z, ag, es⟩ ⟨f⟩ = @bO _ (tyOf P e) ⟨f⟩ := by
  apply propext; constructor
  · rintro ⟨_, E, h, hE, hk⟩; cases h; exact ⟨E, hE, hk⟩
  · rintro ⟨E, hE, h⟩; exact ⟨_, E, rfl, hE, h⟩
/-- Bounds of a slice expression. -/
def aLo (τ : Tm) (lo : Option Operand) [K : Kt Nat] : Prop := alo τ lo K.run
def aHi (τ : Tm) (hi : Option Operand) [K : Kt (Option Nat)] : Prop := ahi τ hi K.run
theorem aLo_none {f : Nat → Prop} : @aLo τ none ⟨f⟩ = f 0 := (rfl)
theorem aHi_none {f : Option Nat → Prop} : @aHi τ none ⟨f⟩ = f none := (rfl)
theorem aLo_some {i : Operand} {f : Nat → Prop} : @aLo τ (some i) ⟨f⟩ = @bO _ (ev τ i) ⟨fun v => @bI v ⟨fun q => @side (0 ≤ q.2) ⟨f q.2.toNat⟩⟩⟩ := by
  apply propext; constructor
  · rintro ⟨k, x, h1, h2, h3⟩; exact ⟨_, h1, k, x, rfl, h2, h3⟩
  · rintro ⟨_, h1, k, x, rfl, h2, h3⟩; exact ⟨k, x, h1, h2, h3⟩
theorem aHi_some {i : Operand} {f : Option Nat → Prop} : @aHi τ (some i) ⟨f⟩ = @bO _ (ev τ i) ⟨fun v => @bI v ⟨fun q => @side (0 ≤ q.2) ⟨f (some q.2.toNat)⟩⟩⟩ := by
  apply propext; constructor
  · rintro ⟨k, x, h1, h2, h3⟩; exact ⟨_, h1, k, x, rfl, h2, h3⟩
  · rintro ⟨_, h1, k, x, rfl, h2, h3⟩; exact ⟨k, x, h1, h2, h3⟩
/-- Elements of a block take so many cells. -/
def eszOK (A : Hp) (id sz : Nat) : Prop := ∀ cs g e', A.blk id = some (.row cs g e') → e' = sz
def aSlc (P : Program) (A : Hp) (t : TypeId) (v : Value) (l : Nat) (h : Option Nat) [K : Kt Value] : Prop := aslice P A t v l h K.run
theorem aSlc_str {s : ByteArray} {l : Nat} {h : Option Nat} {f : Value → Prop} : @aSlc P A t (.string s) l h ⟨f⟩ =
    @side ((tyOf P t).map (·.d) = some .str) ⟨@side (l ≤ h.getD s.size) ⟨@side (h.getD s.size ≤ s.size) ⟨f (.string (s.extract l (h.getD s.size)))⟩⟩⟩ := by
  apply propext; constructor
  · rintro (⟨_, e, h⟩ | ⟨_, _, e, _⟩ | ⟨_, _, _, _, _, e, _⟩ | ⟨_, _, _, _, _, _, _, e, _⟩)
    · cases e; exact h
    all_goals cases e
  · intro h; exact .inl ⟨_, rfl, h⟩
theorem aSlc_nil {n c l : Nat} {h : Option Nat} {f : Value → Prop} : @aSlc P A t (.slice none n c) l h ⟨f⟩ =
    @side (∃ e T, (tyOf P t).map (·.d) = some (.sl e) ∧ tyOf P e = some T) ⟨@side (l = 0) ⟨@side (h.getD n = 0) ⟨@side (n = 0) ⟨@side (c = 0) ⟨f (.slice none 0 0)⟩⟩⟩⟩⟩ := by
  apply propext; constructor
  · rintro (⟨_, e, h⟩ | ⟨_, _, e, h⟩ | ⟨_, _, _, _, _, e, _⟩ | ⟨_, _, _, _, _, _, _, e, _⟩)
    · cases e
    · cases e; exact h
    all_goals cases e
  · intro h; exact .inr (.inl ⟨_, _, rfl, h⟩)
theorem aSlc_sl {a : Addr} {n c l : Nat} {h : Option Nat} {f : Value → Prop} : @aSlc P A t (.slice (some a) n c) l h ⟨f⟩ =
    @bO _ (tyOf P t) ⟨fun T => @slT P T ⟨fun E => @side (l ≤ h.getD n) ⟨@side (h.getD n ≤ n ∨ h.getD n ≤ c) ⟨@side (eszOK A a.block E.size) ⟨f (.slice (some (aadd a (l * E.size))) (h.getD n - l) (c - l))⟩⟩⟩⟩⟩ := by
  apply propext; constructor
  · rintro (⟨_, e, h⟩ | ⟨_, _, e, h⟩ | ⟨_, _, _, e', E, e, h1, h2, h3, h4, h5, h6⟩ | ⟨_, _, _, _, _, _, _, e, _⟩)
    · cases e
    · cases e
    · cases e
      cases hT : tyOf P t with
      | none => simp [hT] at h1
      | some T => exact ⟨T, rfl, e', E, by simpa [hT] using h1, h2, h3, h4, h5, h6⟩
    · cases e
  · rintro ⟨T, hT, e', E, h1, h2, h3, h4, h5, h6⟩
    exact .inr (.inr (.inl ⟨_, _, _, e', E, rfl, by simp [hT, h1], h2, h3, h4, h5, h6⟩))
/-- An array type; a block's row. -/
def arT (P : Program) (T : Ty) [K : Kt (Nat × Ty)] : Prop := ∃ n e E, T.d = .arr n e ∧ tyOf P e = some E ∧ K.run (n, E)
theorem arT_arr {n : Nat} {e : TypeId} {sz by_ es : Nat} {z : List Value} {ag : Bool} {f : Nat × Ty → Prop} : @arT P ⟨.arr n e, sz, by_, z, ag, es⟩ ⟨f⟩ = @bO _ (tyOf P e) ⟨fun E => f (n, E)⟩ := by
  apply propext; constructor
  · rintro ⟨_, _, E, h, hE, hk⟩; cases h; exact ⟨E, hE, hk⟩
  · rintro ⟨E, hE, h⟩; exact ⟨_, _, E, rfl, hE, h⟩
def rowB (b : Blk) (g : Nat) [K : Kt (List Value × Nat)] : Prop := ∃ cs e, b = .row cs g e ∧ K.run (cs, e)
theorem rowB_row {cs : List Value} {g e : Nat} {f : List Value × Nat → Prop} : @rowB (.row cs g e) g ⟨f⟩ = f (cs, e) := by
  apply propext; constructor
  · rintro ⟨_, _, h, hk⟩; cases h; exact hk
  · intro h; exact ⟨_, _, rfl, h⟩
theorem aSlc_ptr {a : Addr} {l : Nat} {h : Option Nat} {f : Value → Prop} : @aSlc P A t (.pointer (some a)) l h ⟨f⟩ =
    @bO _ (tyOf P t) ⟨fun T => @arT P T ⟨fun q => @side (l ≤ h.getD q.1) ⟨@side (h.getD q.1 ≤ q.1) ⟨@bO _ a.spot ⟨fun g => @bO _ (A.blk a.block) ⟨fun b => @rowB b g ⟨fun r => @side (r.2 = q.2.size) ⟨@side (a.off + q.1 * q.2.size ≤ r.1.length)
      ⟨f (.slice (some (aadd a (l * q.2.size))) (h.getD q.1 - l) (q.1 - l))⟩⟩⟩⟩⟩⟩⟩⟩⟩ := by
  apply propext; constructor
  · rintro (⟨_, e, h⟩ | ⟨_, _, e, h⟩ | ⟨_, _, _, _, _, e, _⟩ | ⟨_, n, e', T, g, cs, e'', e, h1, h2, h3, h4, h5, h6, h7, h8, h9⟩)
    · cases e
    · cases e
    · cases e
    · cases e
      cases hT : tyOf P t with
      | none => simp [hT] at h1
      | some U => exact ⟨U, rfl, n, e', T, by simpa [hT] using h1, h2, h3, h4, g, h5, _, h6, cs, e'', rfl, h7, h8, h9⟩
  · rintro ⟨U, hT, n, e', T, h1, h2, h3, h4, g, h5, _, h6, cs, e'', rfl, h7, h8, h9⟩
    exact .inr (.inr (.inr ⟨_, n, e', T, g, cs, e'', rfl, by simp [hT, h1], h2, h3, h4, h5, h6, h7, h8, h9⟩))
theorem b_eqb {e : TypeId} {x y : Bool} {f : Value → Prop} : @aBin P .eql e (.bool x) (.bool y) ⟨f⟩ = @side ((tyOf P e).map (·.d) = some .bool) ⟨f (.bool (x == y))⟩ := by
  apply propext; constructor
  · rintro (⟨_, _, _, h1, _⟩ | ⟨_, _, h1, _⟩ | ⟨_, _, h1, h2, h3, h4⟩ | h)
    · cases h1
    · cases h1
    · cases h1; cases h2; exact ⟨h3, h4⟩
    · exact absurd h (aeq_no (by simp) (by simp) (by simp))
  · rintro ⟨h3, h4⟩; exact .inr (.inr (.inl ⟨_, _, rfl, rfl, h3, h4⟩))
theorem b_neb {e : TypeId} {x y : Bool} {f : Value → Prop} : @aBin P .neq e (.bool x) (.bool y) ⟨f⟩ = @side ((tyOf P e).map (·.d) = some .bool) ⟨f (.bool (!(x == y)))⟩ := by
  apply propext; constructor
  · rintro (⟨_, _, _, h1, _⟩ | ⟨_, _, h1, _⟩ | ⟨_, _, h1, h2, h3, h4⟩ | h)
    · cases h1
    · cases h1
    · cases h1; cases h2; exact ⟨h3, h4⟩
    · exact absurd h (aeq_no (by simp) (by simp) (by simp))
  · rintro ⟨h3, h4⟩; exact .inr (.inr (.inl ⟨_, _, rfl, rfl, h3, h4⟩))
def isSl : Option TD → Bool
  | some (.sl _) => true
  | _ => false
def isPtr : Option TD → Bool
  | some (.ptr _) => true
  | _ => false
theorem isSl_sl {e : TypeId} : isSl (some (.sl e)) = true := rfl
theorem isPtr_ptr {e : TypeId} : isPtr (some (.ptr e)) = true := rfl
theorem aeq_agg {e : TypeId} {xs ys : Array Value} {K : Bool → Prop} : aeq P e (.agg xs) (.agg ys) K = (P.eqGuardType P.depth e = false ∧ ∃ r, eqD P 20 e (.agg xs) (.agg ys) = some r ∧ K r) := by
  apply propext; constructor
  · rintro (⟨_, _, r, h1, h2, h3⟩ | ⟨_, _, _, _, _, _, h, _⟩ | ⟨_, _, h, _⟩)
    · cases h1; cases h2; exact ⟨h3.1, r, h3.2⟩
    · cases h
    · cases h
  · rintro ⟨h1, r, h2⟩; exact .inl ⟨_, _, r, rfl, rfl, h1, h2⟩
theorem aeq_nil {e : TypeId} {o : Option Addr} {n c n' c' : Nat} {K : Bool → Prop} : aeq P e (.slice o n c) (.slice none n' c') K = (isSl ((tyOf P e).map (·.d)) = true ∧ K o.isNone) := by
  apply propext; constructor
  · rintro (⟨_, _, r, h1, _⟩ | ⟨_, _, _, _, _, _, h1, h2, h3, h4⟩ | ⟨_, _, h, _⟩)
    · cases h1
    · cases h1; cases h2; exact ⟨by rw [h3]; rfl, h4⟩
    · cases h
  · rintro ⟨h1, h2⟩
    refine .inr (.inl ?_)
    cases hT : (tyOf P e).map (·.d) with
    | none => rw [hT] at h1; cases h1
    | some T =>
      rw [hT] at h1
      cases T <;> first | exact ⟨_, _, _, _, _, _, rfl, rfl, rfl, h2⟩ | cases h1
theorem aeq_ptr {e : TypeId} {o : Option Addr} {K : Bool → Prop} : aeq P e (.pointer o) (.pointer none) K = (isPtr ((tyOf P e).map (·.d)) = true ∧ K o.isNone) := by
  apply propext; constructor
  · rintro (⟨_, _, r, h1, _⟩ | ⟨_, _, _, _, _, _, h1, _⟩ | ⟨_, _, h1, h2, h3, h4⟩)
    · cases h1
    · cases h1
    · cases h1; cases h2; exact ⟨by rw [h3]; rfl, h4⟩
  · rintro ⟨h1, h2⟩
    refine .inr (.inr ?_)
    cases hT : (tyOf P e).map (·.d) with
    | none => rw [hT] at h1; cases h1
    | some T =>
      rw [hT] at h1
      cases T <;> first | exact ⟨_, _, rfl, rfl, rfl, h2⟩ | cases h1
theorem eql_aeq {e : TypeId} {a b : Value} {f : Value → Prop} (h1 : ∀ k x, a ≠ .int k x) (h2 : ∀ s, a ≠ .string s) (h3 : ∀ s, a ≠ .bool s) : @aBin P .eql e a b ⟨f⟩ = aeq P e a b fun r => f (.bool r) := by
  apply propext; constructor
  · rintro (⟨_, _, _, h, _⟩ | ⟨_, _, h, _⟩ | ⟨_, _, h, _⟩ | h)
    · exact absurd h (h1 _ _)
    · exact absurd h (h2 _)
    · exact absurd h (h3 _)
    · exact h
  · intro h; exact .inr (.inr (.inr h))
theorem neq_aeq {e : TypeId} {a b : Value} {f : Value → Prop} (h1 : ∀ k x, a ≠ .int k x) (h2 : ∀ s, a ≠ .string s) (h3 : ∀ s, a ≠ .bool s) : @aBin P .neq e a b ⟨f⟩ = aeq P e a b fun r => f (.bool (!r)) := by
  apply propext; constructor
  · rintro (⟨_, _, _, h, _⟩ | ⟨_, _, h, _⟩ | ⟨_, _, h, _⟩ | h)
    · exact absurd h (h1 _ _)
    · exact absurd h (h2 _)
    · exact absurd h (h3 _)
    · exact h
  · intro h; exact .inr (.inr (.inr h))
theorem b_eqa {e : TypeId} {xs ys : Array Value} {f : Value → Prop} : @aBin P .eql e (.agg xs) (.agg ys) ⟨f⟩ = @side (P.eqGuardType P.depth e = false) ⟨@bO _ (eqD P 20 e (.agg xs) (.agg ys)) ⟨fun r => f (.bool r)⟩⟩ := by
  rw [eql_aeq (by simp) (by simp) (by simp), aeq_agg]; rfl
theorem b_nea {e : TypeId} {xs ys : Array Value} {f : Value → Prop} : @aBin P .neq e (.agg xs) (.agg ys) ⟨f⟩ = @side (P.eqGuardType P.depth e = false) ⟨@bO _ (eqD P 20 e (.agg xs) (.agg ys)) ⟨fun r => f (.bool (!r))⟩⟩ := by
  rw [neq_aeq (by simp) (by simp) (by simp), aeq_agg]; rfl
theorem b_eqn {e : TypeId} {o : Option Addr} {n c n' c' : Nat} {f : Value → Prop} : @aBin P .eql e (.slice o n c) (.slice none n' c') ⟨f⟩ = @side (isSl ((tyOf P e).map (·.d)) = true) ⟨f (.bool o.isNone)⟩ := by
  rw [eql_aeq (by simp) (by simp) (by simp), aeq_nil]; rfl
theorem b_nen {e : TypeId} {o : Option Addr} {n c n' c' : Nat} {f : Value → Prop} : @aBin P .neq e (.slice o n c) (.slice none n' c') ⟨f⟩ = @side (isSl ((tyOf P e).map (·.d)) = true) ⟨f (.bool (!o.isNone))⟩ := by
  rw [neq_aeq (by simp) (by simp) (by simp), aeq_nil]; rfl
theorem b_eqp {e : TypeId} {o : Option Addr} {f : Value → Prop} : @aBin P .eql e (.pointer o) (.pointer none) ⟨f⟩ = @side (isPtr ((tyOf P e).map (·.d)) = true) ⟨f (.bool o.isNone)⟩ := by
  rw [eql_aeq (by simp) (by simp) (by simp), aeq_ptr]; rfl
theorem b_nep {e : TypeId} {o : Option Addr} {f : Value → Prop} : @aBin P .neq e (.pointer o) (.pointer none) ⟨f⟩ = @side (isPtr ((tyOf P e).map (·.d)) = true) ⟨f (.bool (!o.isNone))⟩ := by
  rw [neq_aeq (by simp) (by simp) (by simp), aeq_ptr]; rfl
/-- The place of an element. -/
def ixA (P : Program) (T : Ty) (n : Int) (v : Value) [K : Kt Value] : Prop :=
  (∃ e E a len c, T.d = .sl e ∧ tyOf P e = some E ∧ v = .slice (some a) len c ∧ n < len ∧ K.run (.pointer (some (aadd a (n.toNat * E.size))))) ∨
  (∃ len e E a, T.d = .arr len e ∧ tyOf P e = some E ∧ v = .pointer (some a) ∧ n < len ∧ K.run (.pointer (some (aadd a (n.toNat * E.size)))))
theorem ixA_sl {e : TypeId} {sz by_ es : Nat} {z : List Value} {ag : Bool} {n : Int} {a : Addr} {len c : Nat} {f : Value → Prop} :
    @ixA P ⟨.sl e, sz, by_, z, ag, es⟩ n (.slice (some a) len c) ⟨f⟩ = @bO _ (tyOf P e) ⟨fun E => @side (n < len) ⟨f (.pointer (some (aadd a (n.toNat * E.size))))⟩⟩ := by
  apply propext; constructor
  · rintro (⟨_, E, _, _, _, h1, h2, h3, h4, h5⟩ | ⟨_, _, _, _, h, _⟩)
    · cases h1; cases h3; exact ⟨E, h2, h4, h5⟩
    · cases h
  · rintro ⟨E, h2, h4, h5⟩; exact .inl ⟨_, E, _, _, _, rfl, h2, rfl, h4, h5⟩
theorem ixA_arr {e : TypeId} {sz by_ es len : Nat} {z : List Value} {ag : Bool} {n : Int} {a : Addr} {f : Value → Prop} :
    @ixA P ⟨.arr len e, sz, by_, z, ag, es⟩ n (.pointer (some a)) ⟨f⟩ = @bO _ (tyOf P e) ⟨fun E => @side (n < len) ⟨f (.pointer (some (aadd a (n.toNat * E.size))))⟩⟩ := by
  apply propext; constructor
  · rintro (⟨_, E, _, _, _, h1, h2, h3, h4, h5⟩ | ⟨_, _, E, _, h1, h2, h3, h4, h5⟩)
    · cases h1
    · cases h1; cases h3; exact ⟨E, h2, h4, h5⟩
  · rintro ⟨E, h2, h4, h5⟩; exact .inr ⟨_, _, E, _, rfl, h2, rfl, h4, h5⟩
def ixV (P : Program) (T : Ty) (n : Int) (v : Value) [K : Kt Value] : Prop :=
  (∃ s, T.d = .str ∧ v = .string s ∧ n < s.size ∧ K.run (.int .u8 (byteAt s n))) ∨
  (∃ len e E cs, T.d = .arr len e ∧ tyOf P e = some E ∧ v = .agg cs ∧ n < len ∧
    ((E.agg = true ∧ K.run (.agg (cs.extract (n.toNat * E.size) (n.toNat * E.size + E.size)))) ∨ (E.agg = false ∧ ∃ u, cs[n.toNat * E.size]? = some u ∧ K.run u)))
theorem ixV_str {sz by_ es : Nat} {z : List Value} {ag : Bool} {n : Int} {s : ByteArray} {f : Value → Prop} :
    @ixV P ⟨.str, sz, by_, z, ag, es⟩ n (.string s) ⟨f⟩ = @side (n < s.size) ⟨f (.int .u8 (byteAt s n))⟩ := by
  apply propext; constructor
  · rintro (⟨_, h1, h3, h4, h5⟩ | ⟨_, _, _, _, h, _⟩)
    · cases h3; exact ⟨h4, h5⟩
    · cases h
  · rintro ⟨h4, h5⟩; exact .inl ⟨_, rfl, rfl, h4, h5⟩
theorem ixV_arr {e : TypeId} {sz by_ es len : Nat} {z : List Value} {ag : Bool} {n : Int} {cs : Array Value} {f : Value → Prop} :
    @ixV P ⟨.arr len e, sz, by_, z, ag, es⟩ n (.agg cs) ⟨f⟩ = @bO _ (tyOf P e) ⟨fun E => @side (n < len) ⟨@partT E cs (n.toNat * E.size) ⟨f⟩⟩⟩ := by
  apply propext; constructor
  · rintro (⟨_, h, _⟩ | ⟨_, _, E, _, h1, h2, h3, h4, h5⟩)
    · cases h
    · cases h1; cases h3
      exact ⟨E, h2, h4, h5⟩
  · rintro ⟨E, h2, h4, h5⟩
    exact .inr ⟨_, _, E, _, rfl, h2, rfl, h4, h5⟩
def lnV (T : Ty) (v : Value) [K : Kt Int] : Prop :=
  (∃ s, T.d = .str ∧ v = .string s ∧ K.run s.size) ∨ (∃ e, ∃ a : Option Addr, ∃ n cp : Nat, T.d = .sl e ∧ v = .slice a n cp ∧ K.run (n : Int)) ∨ (∃ n : Nat, ∃ e, T.d = .arr n e ∧ K.run (n : Int))
theorem lnV_str {sz by_ es : Nat} {z : List Value} {ag : Bool} {s : ByteArray} {f : Int → Prop} : @lnV ⟨.str, sz, by_, z, ag, es⟩ (.string s) ⟨f⟩ = f s.size := by
  apply propext; constructor
  · rintro (⟨_, _, h, hk⟩ | ⟨_, _, _, _, h, _⟩ | ⟨_, _, h, _⟩)
    · cases h; exact hk
    all_goals cases h
  · intro h; exact .inl ⟨_, rfl, rfl, h⟩
theorem lnV_sl {e : TypeId} {sz by_ es n c : Nat} {z : List Value} {ag : Bool} {o : Option Addr} {f : Int → Prop} : @lnV ⟨.sl e, sz, by_, z, ag, es⟩ (.slice o n c) ⟨f⟩ = f n := by
  apply propext; constructor
  · rintro (⟨_, h, _⟩ | ⟨_, _, _, _, _, h, hk⟩ | ⟨_, _, h, _⟩)
    · cases h
    · cases h; exact hk
    · cases h
  · intro h; exact .inr (.inl ⟨_, _, _, _, rfl, rfl, h⟩)
theorem lnV_arr {e : TypeId} {sz by_ es n : Nat} {z : List Value} {ag : Bool} {v : Value} {f : Int → Prop} : @lnV ⟨.arr n e, sz, by_, z, ag, es⟩ v ⟨f⟩ = f n := by
  apply propext; constructor
  · rintro (⟨_, h, _⟩ | ⟨_, _, _, _, h, _⟩ | ⟨_, _, h, hk⟩)
    · cases h
    · cases h
    · cases h; exact hk
  · intro h; exact .inr (.inr ⟨_, _, rfl, h⟩)
/-- append, met. -/
def apn (P : Program) (G : Gl) (fl : Nat) (A : Hp) (ts : Array TypeId) (xs : List Value) [K : Kt (Value × Hp)] : Prop := ∃ s x, xs = [s, x] ∧ aappend P G fl A ts s x fun v A' => K.run (v, A')
/-- Two integers. -/
def twoI (xs : List Value) [K : Kt (IntKind × Int × Int)] : Prop := ∃ k x y, xs = [.int k x, .int k y] ∧ K.run (k, x, y)
theorem twoI_two {k : IntKind} {x y : Int} {f : IntKind × Int × Int → Prop} : @twoI [.int k x, .int k y] ⟨f⟩ = f (k, x, y) := by
  apply propext; constructor
  · rintro ⟨_, _, _, h, hk⟩; cases h; exact hk
  · intro h; exact ⟨_, _, _, rfl, h⟩
/-- A conversion, met. -/
def cnv (P : Program) (G : Gl) (S D : Ty) (v : Value) (A : Hp) [K : Kt (Value × Hp)] : Prop :=
  (∃ k k' n, D.d = .int k ∧ v = .int k' n ∧ K.run (.int k (k.wrap n), A)) ∨
  (∃ b, D.d = .str ∧ v = .string b ∧ K.run (.string b, A)) ∨
  (∃ e E b, S.d = .str ∧ D.d = .sl e ∧ tyOf P e = some E ∧ E.d = .int .u8 ∧ v = .string b ∧ K.run (.slice (some ⟨A.next, 0, some 0⟩) b.size b.size, A.push (.row (b.data.toList.map fun c => Value.int .u8 (c.toNat : Int)) 0 1))) ∨
  (∃ e E, S.d = .sl e ∧ D.d = .str ∧ tyOf P e = some E ∧ E.d = .int .u8 ∧
    ((∃ n c, v = .slice none n c ∧ K.run (.string ByteArray.empty, A)) ∨
     (∃ a n c, ∃ l : List UInt8, v = .slice (some a) n c ∧ a.spot ≠ none ∧ l.length = n ∧ (∀ j (u : UInt8), l[j]? = some u → A.get G (aadd a j) = some (.int .u8 (u.toNat : Int))) ∧ K.run (.string ⟨l.toArray⟩, A))))
theorem cnv_int {k k' : IntKind} {S : Ty} {n : Int} {sz by_ es : Nat} {z : List Value} {ag : Bool} {f : Value × Hp → Prop} : @cnv P G S ⟨.int k, sz, by_, z, ag, es⟩ (.int k' n) A ⟨f⟩ = f (.int k (k.wrap n), A) := by
  apply propext; constructor
  · rintro (⟨_, _, _, h1, h2, h3⟩ | ⟨_, h, _⟩ | ⟨_, _, _, _, h, _⟩ | ⟨_, _, _, h, _⟩)
    · cases h1; cases h2; exact h3
    all_goals cases h
  · intro h; exact .inl ⟨_, _, _, rfl, rfl, h⟩
theorem cnv_bytes {e : TypeId} {s1 b1 e1 : Nat} {z1 : List Value} {a1 : Bool} {b : ByteArray} {sz by_ es : Nat} {z : List Value} {ag : Bool} {f : Value × Hp → Prop} :
    @cnv P G ⟨.str, s1, b1, z1, a1, e1⟩ ⟨.sl e, sz, by_, z, ag, es⟩ (.string b) A ⟨f⟩ =
      @bO _ (tyOf P e) ⟨fun E => @side (E.d = .int .u8) ⟨f (.slice (some ⟨A.next, 0, some 0⟩) b.size b.size, A.push (.row (b.data.toList.map fun c => Value.int .u8 (c.toNat : Int)) 0 1))⟩⟩ := by
  apply propext; constructor
  · rintro (⟨_, _, _, h, _⟩ | ⟨_, h, _⟩ | ⟨_, E, _, _, h, h1, h2, h3, h4⟩ | ⟨_, _, _, h, _⟩)
    · cases h
    · cases h
    · cases h; cases h3; exact ⟨E, h1, h2, h4⟩
    · cases h
  · rintro ⟨E, h1, h2, h4⟩; exact .inr (.inr (.inl ⟨_, E, _, rfl, rfl, h1, h2, rfl, h4⟩))
theorem cnv_str {S : Ty} {b : ByteArray} {sz by_ es : Nat} {z : List Value} {ag : Bool} {f : Value × Hp → Prop} : @cnv P G S ⟨.str, sz, by_, z, ag, es⟩ (.string b) A ⟨f⟩ = f (.string b, A) := by
  apply propext; constructor
  · rintro (⟨_, _, _, h1, h2, h3⟩ | ⟨_, h, h2, h3⟩ | ⟨_, _, _, _, h, _⟩ | ⟨_, _, _, _, _, _, (⟨_, _, h, _⟩ | ⟨_, _, _, _, h, _⟩)⟩)
    · cases h1
    · cases h2; exact h3
    all_goals cases h
  · intro h; exact .inr (.inl ⟨_, rfl, rfl, h⟩)

section
variable {K : Value → Hp → Prop}
theorem r_build {e} {pz : Array (Nat × Operand)} : aop P G fl ⟨d, .build e pz, t, ps, af, g⟩ τ A K = @bO _ (tyOf P e) ⟨fun T => @side (T.zero.all zc = true) ⟨@eVp τ pz.toList [] ⟨fun pvs => @bldT P T pvs ⟨fun cs => K (.agg cs.toArray) A⟩⟩⟩⟩ := (rfl)
theorem r_buildSlice {e len} {pz : Array (Nat × Operand)} : aop P G fl ⟨d, .buildSlice e len pz, t, ps, af, g⟩ τ A K = @bO _ (tyOf P e) ⟨fun T => @slT P T ⟨fun E => @side (E.zero.all zc = true) ⟨@side (len * E.size ≤ 16777216) ⟨@eVp τ pz.toList [] ⟨fun pvs =>
    @putL (fun i => some (i * E.size, E.size)) (zl E.zero (len * E.size)) pvs ⟨fun cs => K (.slice (some ⟨A.next, 0, some 0⟩) len len) (A.push (.row cs 0 E.size))⟩⟩⟩⟩⟩⟩ := (rfl)
theorem r_makeSlice {e x y} : aop P G fl ⟨d, .makeSlice e x y, t, ps, af, g⟩ τ A K = @bO _ (tyOf P e) ⟨fun T => @slT P T ⟨fun E => @side (E.zero.all zc = true) ⟨@bO _ (ev τ x) ⟨fun v => @bI v ⟨fun l => @bO _ (ev τ y) ⟨fun v => @bI v ⟨fun c =>
    @side (0 ≤ l.2) ⟨@side (l.2 ≤ c.2) ⟨@side ((E.bytes : Int) * c.2 ≤ 281474976710656) ⟨@side (c.2 ≤ 9223372036854775807) ⟨K (.slice (some ⟨A.next, 0, some 0⟩) l.2.toNat c.2.toNat) (A.push (.row (zl E.zero (c.2.toNat * E.size)) 0 E.size))⟩⟩⟩⟩⟩⟩⟩⟩⟩⟩⟩ := by
  apply propext; constructor
  · rintro ⟨T, hT, e', E, h1, h2, h3, k, k', l, c, h4, h5, h6⟩; exact ⟨T, hT, e', E, h1, h2, h3, _, h4, k, l, rfl, _, h5, k', c, rfl, h6⟩
  · rintro ⟨T, hT, e', E, h1, h2, h3, _, h4, k, l, rfl, _, h5, k', c, rfl, h6⟩; exact ⟨T, hT, e', E, h1, h2, h3, k, k', l, c, h4, h5, h6⟩
theorem r_slice {x e lo hi} : aop P G fl ⟨d, .slice e x lo hi none, t, ps, af, g⟩ τ A K = @bO _ (ev τ x) ⟨fun v => @aLo τ lo ⟨fun l => @aHi τ hi ⟨fun h => @aSlc P A e v l h ⟨fun r => K r A⟩⟩⟩⟩ := by
  apply propext; constructor
  · rintro ⟨_, h⟩; exact h
  · intro h; exact ⟨rfl, h⟩
theorem r_indexAddr {e x i} : aop P G fl ⟨d, .indexAddr e x i, t, ps, af, g⟩ τ A K = @bO _ (tyOf P e) ⟨fun T => @bO _ (ev τ i) ⟨fun v => @bI v ⟨fun q => @side (0 ≤ q.2) ⟨@bO _ (ev τ x) ⟨fun v => @ixA P T q.2 v ⟨fun r => K r A⟩⟩⟩⟩⟩⟩ := by
  apply propext; constructor
  · rintro ⟨T, hT, k, n, h1, h2, v, h3, h4⟩; exact ⟨T, hT, _, h1, k, n, rfl, h2, v, h3, h4⟩
  · rintro ⟨T, hT, _, h1, k, n, rfl, h2, v, h3, h4⟩; exact ⟨T, hT, k, n, h1, h2, v, h3, h4⟩
theorem r_index {e x i} : aop P G fl ⟨d, .index e x i, t, ps, af, g⟩ τ A K = @bO _ (tyOf P e) ⟨fun T => @bO _ (ev τ i) ⟨fun v => @bI v ⟨fun q => @side (0 ≤ q.2) ⟨@bO _ (ev τ x) ⟨fun v => @ixV P T q.2 v ⟨fun r => K r A⟩⟩⟩⟩⟩⟩ := by
  apply propext; constructor
  · rintro ⟨T, hT, k, n, h1, h2, v, h3, h4⟩; exact ⟨T, hT, _, h1, k, n, rfl, h2, v, h3, h4⟩
  · rintro ⟨T, hT, _, h1, k, n, rfl, h2, v, h3, h4⟩; exact ⟨T, hT, k, n, h1, h2, v, h3, h4⟩
theorem r_len {args : Array Operand} {tys : Array TypeId} : aop P G fl ⟨d, .call ⟨.builtin .len, args, tys⟩, t, ps, af, g⟩ τ A K = @bO _ (tys[0]?) ⟨fun u => @bO _ (tyOf P u) ⟨fun T => @eVs τ args.toList [] ⟨fun xs => @bO _ (xs[0]?) ⟨fun v => @lnV T v ⟨fun n => K (.int .i64 n) A⟩⟩⟩⟩⟩ := by
  apply propext; constructor
  · rintro ⟨u, T, h1, h2, h3⟩; exact ⟨u, h1, T, h2, h3⟩
  · rintro ⟨u, h1, T, h2, h3⟩; exact ⟨u, T, h1, h2, h3⟩
theorem r_append {args : Array Operand} {tys : Array TypeId} : aop P G fl ⟨d, .call ⟨.builtin .append, args, tys⟩, t, ps, af, g⟩ τ A K = @eVs τ args.toList [] ⟨fun xs => @apn P G fl A tys xs ⟨fun r => K r.1 r.2⟩⟩ := (rfl)
theorem r_min {args : Array Operand} {tys : Array TypeId} : aop P G fl ⟨d, .call ⟨.builtin .min, args, tys⟩, t, ps, af, g⟩ τ A K = @eVs τ args.toList [] ⟨fun xs => @twoI xs ⟨fun q => K (.int q.1 (if q.2.2 < q.2.1 then q.2.2 else q.2.1)) A⟩⟩ := (rfl)
theorem r_max {args : Array Operand} {tys : Array TypeId} : aop P G fl ⟨d, .call ⟨.builtin .max, args, tys⟩, t, ps, af, g⟩ τ A K = @eVs τ args.toList [] ⟨fun xs => @twoI xs ⟨fun q => K (.int q.1 (if q.2.2 > q.2.1 then q.2.2 else q.2.1)) A⟩⟩ := (rfl)
theorem r_convert {s e x} : aop P G fl ⟨d, .convert s e x, t, ps, af, g⟩ τ A K = @bO _ (tyOf P s) ⟨fun S => @bO _ (tyOf P e) ⟨fun D => @bO _ (ev τ x) ⟨fun v => @cnv P G S D v A ⟨fun r => K r.1 r.2⟩⟩⟩⟩ := (rfl)
end

/-! calls, loops -/
theorem call_of {f : FuncId} {args : List Value} {v : Value} {A' : Hp} {F : Value × Hp → Prop} (h : Sound P G f args fl A v A') (k : F (v, A')) : @aCall P G f args fl A ⟨F⟩ := ⟨v, A', h, k⟩

/-- What follows a round of a loop. -/
def loopK (I : Tm → Hp → Prop) (m : Tm → Hp → Nat) (τ : Tm) (A : Hp) (K : Exit → Tm → Hp → Prop) : Exit → Tm → Hp → Prop := fun e τ' A' => match e with
  | .normal => ∃ σ B, (∀ t v, σ t = some v → τ' t = some v) ∧ Weak A σ A' B ∧ I σ B ∧ m σ B < m τ A
  | e => K e τ' A'
theorem loop_of {c : Code} {K : Exit → Tm → Hp → Prop} (I : Tm → Hp → Prop) (m : Tm → Hp → Nat) (h0 : I τ A) (h : ∀ τ A, I τ A → acode P G fl c τ A (loopK I m τ A K)) : acode P G fl (.loop c) τ A K := ⟨I, m, h0, h⟩
section
variable {I : Tm → Hp → Prop} {m : Tm → Hp → Nat} {τ0 τ' : Tm} {A0 A' : Hp} {K : Exit → Tm → Hp → Prop}
/-- Another round, from where this one ended. -/
theorem loop_on (h : I τ' A') (hm : m τ' A' < m τ A) : loopK I m τ A K .normal τ' A' := ⟨τ', A', fun _ _ h => h, .inl rfl, h, hm⟩
/-- Another round, with the heap as it was. -/
theorem loop_back (ks : List Nat) (hw : ∀ id, A.next ≤ id → A.blk id = none) (hA : ∀ id, id < A.next → A'.blk id = A.blk id) (hτ : ∀ t ∈ ks, ∀ v, τ' t = some v → RB A.next v)
    (h : I (keep ks τ') A) (hm : m (keep ks τ') A < m τ A) : loopK I m τ A K .normal τ' A' := by
  have e : A'.trunc A.next = A := by
    cases A with | mk n b =>
    simp only [Hp.trunc, Hp.mk.injEq, true_and]
    funext id
    split
    · rename_i h; exact hA id h
    · rename_i h; exact (hw id (by simpa using h)).symm
  refine ⟨keep ks τ', A, fun t v ht => ?_, .inr ⟨e.symm, fun id hid cs g e hb => .inl (by rw [← hA id hid]; exact hb), fun t v ht => ?_⟩, h, hm⟩
  · simp only [keep] at ht; split at ht
    · exact ht
    · cases ht
  · simp only [keep] at ht; split at ht
    · rename_i hk; exact hτ t hk v ht
    · cases ht
theorem k_loop_ret : loopK I m τ A K .ret τ' A' = K .ret τ' A' := (rfl)
theorem k_loop_exit {i : Nat} : loopK I m τ A K (.exit i) τ' A' = K (.exit i) τ' A' := (rfl)
end
theorem keep_of {ks : List Nat} {x : Nat} (h : (ks.contains x) = true) : keep ks τ x = τ x := by
  have : x ∈ ks := by simpa using h
  simp [keep, this]

/-! arithmetic -/
theorem wrapI {x : Int} (h : -9223372036854775808 ≤ x ∧ x ≤ 9223372036854775807) : IntKind.i64.wrap x = x := by rw [IntKind.wrap_i64]; omega

/-! rows of elements -/
/-- A slice whose elements' cells these are. -/
def Sl (A : Hp) (sz : Nat) (v : Value) (css : List (List Value)) : Prop :=
  (∀ c ∈ css, c.length = sz) ∧ ((v = .slice none 0 0 ∧ css = []) ∨ (∃ a g, v = .slice (some a) 0 0 ∧ css = [] ∧ a.spot = some g ∧ a.block < A.next ∧ A.blk a.block = none) ∨
    ∃ a n c g ds, v = .slice (some a) n c ∧ css.length = n ∧ a.spot = some g ∧ A.blk a.block = some (.row ds g sz) ∧ ∀ j x, css.flatten[j]? = some x → ds[a.off + j]? = some x)

theorem flatten_get {α : Type} {sz : Nat} : ∀ {css : List (List α)}, (∀ c ∈ css, c.length = sz) → ∀ {i j : Nat} {c : List α} {v : α}, css[i]? = some c → c[j]? = some v → css.flatten[i * sz + j]? = some v
  | [], _, i, j, c, v, h, _ => by simp at h
  | d :: ds, hl, i, j, c, v, h, hv => by
    have hd : d.length = sz := hl d (by simp)
    cases i with
    | zero =>
      simp only [List.getElem?_cons_zero, Option.some.injEq] at h
      subst h
      have : j < d.length := (List.getElem?_eq_some_iff.1 hv).1
      rw [List.flatten_cons, Nat.zero_mul, Nat.zero_add, List.getElem?_append_left this]; exact hv
    | succ i =>
      have := flatten_get (css := ds) (fun c hc => hl c (by simp [hc])) (by simpa using h) hv
      rw [List.flatten_cons, List.getElem?_append_right (by rw [hd, Nat.succ_mul]; omega), hd]
      rw [show (i + 1) * sz + j - sz = i * sz + j by rw [Nat.succ_mul]; omega]; exact this

theorem Sl.len {sz : Nat} {v : Value} {css : List (List Value)} (h : Sl A sz v css) : ∃ o c, v = .slice o css.length c := by
  rcases h.2 with ⟨rfl, rfl⟩ | ⟨a, g, rfl, rfl, _⟩ | ⟨a, n, c, g, ds, rfl, rfl, _⟩
  · exact ⟨none, 0, rfl⟩
  · exact ⟨some a, 0, rfl⟩
  · exact ⟨some a, c, rfl⟩
theorem Sl.at {sz n c : Nat} {o : Option Addr} {css : List (List Value)} (h : Sl A sz (.slice o n c) css) {i : Nat} (hi : i < css.length) :
    ∃ a, o = some a ∧ ∀ j x, (css[i])[j]? = some x → A.get G (aadd a (i * sz + j)) = some x := by
  rcases h.2 with ⟨h1, rfl⟩ | ⟨a, g, h1, rfl, _⟩ | ⟨a, n, c, g, ds, h1, hn, hg, hb, hr⟩
  · simp at hi
  · simp at hi
  · cases h1
    refine ⟨a, rfl, fun j x hj => ?_⟩
    have := hr _ _ (flatten_get h.1 (List.getElem?_eq_getElem hi) hj)
    simp only [Hp.get, aadd, hg, hb, if_true]
    exact this
theorem Sl.esz {sz n c : Nat} {a : Addr} {css : List (List Value)} (h : Sl A sz (.slice (some a) n c) css) : eszOK A a.block sz := by
  rcases h.2 with ⟨h1, rfl⟩ | ⟨a, g, h1, rfl, _, _, hb⟩ | ⟨a, n, c, g, ds, h1, hn, hg, hb, hr⟩
  · cases h1
  · cases h1
    intro cs g' e' hb'
    rw [hb] at hb'; cases hb'
  · cases h1
    intro cs g' e' hb'
    rw [hb] at hb'; cases hb'; rfl
/-- It lies as well in a heap that agrees on its block. -/
theorem Sl.keep {A' : Hp} {sz : Nat} {v : Value} {css : List (List Value)} (h : Sl A sz v css) (hn : A.next ≤ A'.next) (hA : ∀ a n c, v = .slice (some a) n c → A'.blk a.block = A.blk a.block) : Sl A' sz v css := by
  refine ⟨h.1, ?_⟩
  rcases h.2 with h1 | ⟨a, g, h1, h2, h3, h4, h5⟩ | ⟨a, n, c, g, ds, h1, hn, hg, hb, hr⟩
  · exact .inl h1
  · exact .inr (.inl ⟨a, g, h1, h2, h3, Nat.lt_of_lt_of_le h4 hn, by rw [hA a 0 0 h1]; exact h5⟩)
  · exact .inr (.inr ⟨a, n, c, g, ds, h1, hn, hg, by rw [hA a n c h1]; exact hb, hr⟩)

/-! reading a heap that has been written -/
theorem aadd_mk {b o k : Nat} {s : Option Nat} : aadd ⟨b, o, s⟩ k = ⟨b, o + k, s⟩ := rfl
theorem aadd_aadd {a : Addr} {i j : Nat} : aadd (aadd a i) j = aadd a (i + j) := by simp [aadd, Nat.add_assoc]
theorem get_push_new {cs : List Value} {e o i : Nat} (h : i = A.next) : (A.push (.row cs 0 e)).get G ⟨i, o, some 0⟩ = cs[o]? := by subst h; simp [Hp.get, Hp.push_blk]
theorem get_push_old {b : Blk} {a : Addr} (h : a.block < A.next) : (A.push b).get G a = A.get G a := by
  have : ¬ a.block = A.next := by omega
  simp [Hp.get, Hp.push_blk, this]
theorem get_put_same {cs : List Value} {id g e o i : Nat} (h : i = id) : (A.put id (.row cs g e)).get G ⟨i, o, some g⟩ = cs[o]? := by subst h; simp [Hp.get, Hp.put_blk]
theorem get_put_other {b : Blk} {id : Nat} {a : Addr} (h : (a.block = id) = False) : (A.put id b).get G a = A.get G a := by simp [Hp.get, Hp.put_blk, h]
theorem get_blk {cs : List Value} {id g e o : Nat} (h : A.blk id = some (.row cs g e)) : A.get G ⟨id, o, some g⟩ = cs[o]? := by simp [Hp.get, h]
theorem get_glob {b o : Nat} : A.get G ⟨b, o, none⟩ = (G b).bind (·[o]?) := rfl
end
end Go.Proofs.YtpaffoiiipgkeaaDoor.Ab
