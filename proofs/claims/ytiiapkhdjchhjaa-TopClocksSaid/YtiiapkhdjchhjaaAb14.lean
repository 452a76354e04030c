/- Regions of the abstract machine: the operations one behind the other; what they come to, step by step. -/
import Derived.Test.YtiiapkhdjchhjaaAb9
import Derived.Deep.LoopGhost
namespace Go.Proofs.Ytiiapkhdjchhjaa.Ab
open Go.RowKit
set_option linter.unusedVariables false
set_option linter.unusedSimpArgs false

section
variable (P : Program) (G : Gl)

/-- The operations of a region in the order of the text. 'flo': the floor of an operation at a heap. -/
def aops (flo : Oper → Hp → Nat) (ops : List Oper) : List Oper → Tm → Hp → (Tm → Hp → Prop) → Prop
  | [], τ, A, K => K τ A
  | o :: os, τ, A, K =>
    match o.guard with
    | none => aop P G (flo o A) o τ A fun v A' => aops flo ops os (updO τ o.dst v) A' K
    | some (j, want) => ∃ d, (ops[j]?).bind (·.dst) = some d ∧
        ((∃ b, τ d = some (.bool b) ∧ (b = want → aop P G (flo o A) o (upd τ d (.bool want)) A fun v A' => aops flo ops os (updO (upd τ d (.bool want)) o.dst v) A' K) ∧
          (b = !want → aops flo ops os (updO (upd τ d (.bool (!want))) o.dst undef) A K)) ∨
         (τ d = some undef ∧ aops flo ops os (updO τ o.dst undef) A K))
end

section
variable {P : Program} {G : Gl}

/-- A constant that leads nowhere. -/
def zcA : Value → Bool
  | .agg cs => cs.toList.all zc
  | .tuple cs => cs.toList.all zc
  | v => zc v

def okOperand : Operand → Bool
  | .const v => zcA v
  | _ => true

def okOper (n : Nat) (o : Oper) : Bool := (match o.dst with | some d => d < n | none => true) && o.op.operands.toList.all okOperand

theorem VR.of_zcA {μ : Mu} {A : Hp} {v : Value} (h : zcA v = true) : VR μ A v v := by
  cases v with
  | agg cs => exact .agg rfl fun i hi hi' => VR.of_zc (List.all_eq_true.1 h _ (by simp))
  | tuple cs => exact .tuple rfl fun i hi hi' => VR.of_zc (List.all_eq_true.1 h _ (by simp))
  | _ => exact VR.of_zc h

/-- Slots that agree. -/
structure TR (n : Nat) (μ : Mu) (A : Hp) (τ : Tm) (a : Act) : Prop where
  size : a.tmps.size = n
  defers : a.defers = []
  tmp : ∀ t v, τ t = some v → VR μ A v (a.tmps.getD t undef)

theorem TR.eval {n : Nat} {μ : Mu} {A : Hp} {τ : Tm} {a : Act} (h : TR n μ A τ a) {x : Operand} (hx : okOperand x = true) {u : Value} (hu : ev τ x = some u) : VR μ A u (a.eval x) := by
  cases x with
  | tmp t => exact h.tmp t u hu
  | const v => simp only [ev, Option.some.injEq] at hu; subst hu; exact VR.of_zcA hx
  | global g => simp only [ev, Option.some.injEq] at hu; subst hu; exact .ptr (.inl ⟨rfl, rfl⟩)
  | func f => simp only [ev, Option.some.injEq] at hu; subst hu; exact .func _ rfl (fun i hi => by simp at hi) rfl (fun i hi => by simp at hi)

theorem getD_set_self {a : Array Value} {d : Nat} (h : d < a.size) (v : Value) : (a.setIfInBounds d v).getD d undef = v := by
  simp [Array.getD_eq_getD_getElem?, h]
theorem getD_set_other {a : Array Value} {d t : Nat} (h : t ≠ d) (v : Value) : (a.setIfInBounds d v).getD t undef = a.getD t undef := by
  simp [Array.getD_eq_getD_getElem?, Array.getElem?_setIfInBounds_ne (Ne.symm h)]

theorem TR.put {n : Nat} {μ μ' : Mu} {A A' : Hp} {τ : Tm} {a : Act} (h : TR n μ A τ a) (E : Ext μ A μ' A') {d : Option Tmp} (hd : ∀ t, d = some t → t < n) {v v' : Value} (hv : VR μ' A' v v') :
    TR n μ' A' (updO τ d v) (a.put d v') := by
  cases d with
  | none => exact ⟨h.size, h.defers, fun t u hu => (h.tmp t u hu).mono E⟩
  | some d =>
    refine ⟨by simpa [Act.put] using h.size, h.defers, fun t u hu => ?_⟩
    simp only [updO, upd] at hu
    simp only [Act.put]
    split at hu
    · rename_i htd; subst htd
      cases hu
      rw [getD_set_self (by rw [h.size]; exact hd t rfl)]
      exact hv
    · rename_i htd
      rw [getD_set_other htd]
      exact (h.tmp t u hu).mono E

theorem VR.undef {μ : Mu} {A : Hp} : VR μ A undef undef := .tuple rfl fun i h _ => absurd h (by simp)

/-- Whether an operation is wanted, in the abstract. -/
def Wanted (ops : List Oper) (o : Oper) (τ : Tm) : Prop := ∀ j want, o.guard = some (j, want) → ∃ d, (ops[j]?).bind (·.dst) = some d ∧ τ d = some (.bool want)
def Unwanted (ops : List Oper) (o : Oper) (τ : Tm) : Prop := ∃ j want d u, o.guard = some (j, want) ∧ (ops[j]?).bind (·.dst) = some d ∧ τ d = some u ∧ (u = .bool (!want) ∨ u = Go.undef)

theorem wanted_of {ops : Array Oper} {o : Oper} {τ : Tm} (h : Wanted ops.toList o τ) {tm : Array Value} (hr : ∀ d b, τ d = some (.bool b) → tm.getD d Go.undef = .bool b) : Region.wanted o (yielded ops tm) = true := by
  unfold Region.wanted
  cases hg : o.guard with
  | none => rfl
  | some jw =>
    obtain ⟨j, want⟩ := jw
    obtain ⟨d, hd, ht⟩ := h j want hg
    have h1 := hr d want ht
    have h2 : tm[d]? = some (.bool want) := by
      rw [Array.getD_eq_getD_getElem?] at h1
      cases hq : tm[d]? with
      | none => rw [hq] at h1; cases h1
      | some q => rw [hq] at h1; simp only [Option.getD_some] at h1; rw [h1]
    have hd' : (ops[j]?).bind (·.dst) = some d := by rw [Array.getElem?_toList] at hd; exact hd
    simp [yielded, hd', h2]

theorem unwanted_of {ops : Array Oper} {o : Oper} {τ : Tm} (h : Unwanted ops.toList o τ) {tm : Array Value} (hr : ∀ d u, τ d = some u → ∃ μ A, VR μ A u (tm.getD d Go.undef)) : Region.wanted o (yielded ops tm) = false := by
  obtain ⟨j, want, d, u, hg, hd, ht, hu⟩ := h
  obtain ⟨μ, A, hv⟩ := hr d u ht
  have hd' : (ops[j]?).bind (·.dst) = some d := by rw [Array.getElem?_toList] at hd; exact hd
  unfold Region.wanted
  simp only [hg, yielded, hd', Option.bind_some]
  cases hq : tm[d]? with
  | none => simp
  | some q =>
    rw [Array.getD_eq_getD_getElem?, hq, Option.getD_some] at hv
    rcases hu with rfl | rfl
    · have := hv.bool_inv; subst this
      cases want <;> simp
    · obtain ⟨ds, rfl, _⟩ := VR.tuple_inv hv
      simp

variable (P G) in
/-- One step of the trace of a region. -/
def StepAt (ops : List Oper) (fl : Nat) (o : Oper) (S S' : Tm × Hp) : Prop :=
  (Wanted ops o S.1 ∧ ∃ v, OpOK P G o fl S.1 S.2 v S'.2 ∧ ((pureOp P o.op = true → S'.2 = S.2 ∧ ∀ (fl : Nat) (A : Hp), OpOK P G o fl S.1 A v A) ∧ Known P G o S.1 S.2 v S'.2) ∧ S'.1 = updO S.1 o.dst v) ∨
  (Unwanted ops o S.1 ∧ S'.2 = S.2 ∧ S'.1 = updO S.1 o.dst Go.undef)

theorem upd_same {τ : Tm} {d : Nat} {v : Value} (h : τ d = some v) : upd τ d v = τ := by
  funext u
  unfold upd
  split
  · rename_i hu; subst hu; exact h.symm
  · rfl

/-- The trace of a region. -/
theorem aops_trace {flo : Oper → Hp → Nat} {ops : List Oper} {K : Tm → Hp → Prop} : ∀ (os : List Oper) (τ : Tm) (A : Hp), (∀ o ∈ os, isNextO o.op = false) → aops P G flo ops os τ A K →
    ∃ S : Nat → Tm × Hp, S 0 = (τ, A) ∧ K (S os.length).1 (S os.length).2 ∧ ∀ (i : Nat) (o : Oper), os[i]? = some o → StepAt P G ops (flo o (S i).2) o (S i) (S (i + 1))
  | [], τ, A, _, h => ⟨fun _ => (τ, A), rfl, h, fun i o hi => by simp at hi⟩
  | o :: os, τ, A, hno, h => by
    have hn1 := hno o (by simp)
    have hn2 : ∀ o ∈ os, isNextO o.op = false := fun x hx => hno x (by simp [hx])
    have go : ∀ τ' A', aops P G flo ops os τ' A' K → StepAt P G ops (flo o A) o (τ, A) (τ', A') →
        ∃ S : Nat → Tm × Hp, S 0 = (τ, A) ∧ K (S (o :: os).length).1 (S (o :: os).length).2 ∧ ∀ (i : Nat) (o' : Oper), (o :: os)[i]? = some o' → StepAt P G ops (flo o' (S i).2) o' (S i) (S (i + 1)) := by
      intro τ' A' h' hs
      obtain ⟨S, h0, hK, hst⟩ := aops_trace os τ' A' hn2 h'
      refine ⟨fun k => match k with | 0 => (τ, A) | k + 1 => S k, rfl, hK, fun i o' hi => ?_⟩
      cases i with
      | zero =>
        simp only [List.getElem?_cons_zero, Option.some.injEq] at hi
        subst hi
        simp only [h0]
        exact hs
      | succ i => exact hst i o' (by simpa using hi)
    simp only [aops] at h
    cases hg : o.guard with
    | none =>
      simp only [hg] at h
      obtain ⟨v, A', h', hO, hp, hkn⟩ := aop_known hn1 h
      exact go _ _ h' (.inl ⟨fun j want hj => (by rw [hg] at hj; cases hj), v, hO, ⟨hp, hkn⟩, rfl⟩)
    | some jw =>
      obtain ⟨j, want⟩ := jw
      simp only [hg] at h
      obtain ⟨d, hd, h⟩ := h
      rcases h with ⟨b, hb, h1, h2⟩ | ⟨hb, h⟩
      · by_cases hbw : b = want
        · subst hbw
          have h1 := h1 rfl
          simp only [upd_same hb] at h1
          obtain ⟨v, A', h', hO, hp, hkn⟩ := aop_known hn1 h1
          exact go _ _ h' (.inl ⟨fun j' want' hj => (by rw [hg] at hj; cases hj; exact ⟨d, hd, hb⟩), v, hO, ⟨hp, hkn⟩, rfl⟩)
        · have hb2 : b = !want := by cases b <;> cases want <;> simp_all
          subst hb2
          have h2 := h2 rfl
          rw [upd_same hb] at h2
          exact go _ _ h2 (.inr ⟨⟨j, want, d, _, hg, hd, hb, .inl rfl⟩, rfl, rfl⟩)
      · exact go _ _ h (.inr ⟨⟨j, want, d, _, hg, hd, hb, .inr rfl⟩, rfl, rfl⟩)

theorem mem_ok {n : Nat} {o : Oper} (h : okOper n o = true) {x : Operand} (hx : x ∈ o.op.operands) : okOperand x = true := by
  unfold okOper at h
  rw [Bool.and_eq_true] at h
  exact List.all_eq_true.1 h.2 x (by simpa using hx)
theorem dst_ok {n : Nat} {o : Oper} (h : okOper n o = true) {t : Tmp} (ht : o.dst = some t) : t < n := by
  unfold okOper at h
  rw [Bool.and_eq_true] at h
  rw [ht] at h
  simpa using h.1

/-- One step, in the world. -/
theorem StepAt.wpOp {n fl : Nat} {ops : Array Oper} {i : Nat} {o : Oper} (hi : ops[i]? = some o) (hok : okOper n o = true) {S S' : Tm × Hp} (hs : StepAt P G ops.toList fl o S S') {μ : Mu} {a : Act} {w : World}
    (T : TR n μ S.2 S.1 a) (H : HR G μ fl S.2 w) (hfl : fl ≤ S.2.next) {K : Act → World → Prop} {Q : Exit → Act → World → Prop}
    (hk : ∀ μ' a' w', TR n μ' S'.2 S'.1 a' → HR G μ' fl S'.2 w' → Trans fl μ S.2 w μ' S'.2 w' → K a' w') : Go.wpOp P ops Q i K a w := by
  unfold Go.wpOp
  simp only [hi]
  rcases hs with ⟨hw, v, hO, _, hτ⟩ | ⟨hw, hA, hτ⟩
  · have hwant := wanted_of hw (tm := a.tmps) (fun d b hb => (T.tmp d _ hb).bool_inv)
    simp only [hwant, if_true]
    refine .inl (hO μ w a K Q H hfl (fun x hx u hu => T.eval (mem_ok hok hx) hu) fun v' w' μ' hv H' T' => hk μ' _ w' ?_ H' T')
    rw [hτ]
    exact T.put T'.ext (fun t ht => dst_ok hok ht) hv
  · have hwant := unwanted_of hw (tm := a.tmps) (fun d u hu => ⟨μ, S.2, T.tmp d u hu⟩)
    simp only [hwant, Bool.false_eq_true, if_false]
    refine hk μ _ w ?_ (hA ▸ H) (by rw [hA]; exact Trans.refl _ _ _ _)
    rw [hτ, hA]
    exact T.put (Ext.refl _ _) (fun t ht => dst_ok hok ht) VR.undef

/-- The first operation of a region. -/
theorem aops_step {flo : Oper → Hp → Nat} {ops : List Oper} {K : Tm → Hp → Prop} {o : Oper} {os : List Oper} {τ : Tm} {A : Hp} (h : aops P G flo ops (o :: os) τ A K) :
    (∃ τ' A', StepAt P G ops (flo o A) o (τ, A) (τ', A') ∧ aops P G flo ops os τ' A' K) ∨
      (isNextO o.op = true ∧ Wanted ops o τ ∧ aop P G (flo o A) o τ A fun v A' => aops P G flo ops os (updO τ o.dst v) A' K) := by
  simp only [aops] at h
  cases hg : o.guard with
  | none =>
    simp only [hg] at h
    cases hn : isNextO o.op with
    | true => exact .inr ⟨rfl, fun j want hj => (by rw [hg] at hj; cases hj), h⟩
    | false =>
      obtain ⟨v, A', h', hO, hp, hkn⟩ := aop_known hn h
      exact .inl ⟨updO τ o.dst v, A', .inl ⟨fun j want hj => (by rw [hg] at hj; cases hj), v, hO, ⟨hp, hkn⟩, rfl⟩, h'⟩
  | some jw =>
    obtain ⟨j, want⟩ := jw
    simp only [hg] at h
    obtain ⟨d, hd, h⟩ := h
    rcases h with ⟨b, hb, h1, h2⟩ | ⟨hb, h⟩
    · by_cases hbw : b = want
      · subst hbw
        have h1 := h1 rfl
        simp only [upd_same hb] at h1
        cases hn : isNextO o.op with
        | true => exact .inr ⟨rfl, fun j' want' hj => (by rw [hg] at hj; cases hj; exact ⟨d, hd, hb⟩), h1⟩
        | false =>
          obtain ⟨v, A', h', hO, hp, hkn⟩ := aop_known hn h1
          exact .inl ⟨updO τ o.dst v, A', .inl ⟨fun j' want' hj => (by rw [hg] at hj; cases hj; exact ⟨d, hd, hb⟩), v, hO, ⟨hp, hkn⟩, rfl⟩, h'⟩
      · have hb2 : b = !want := by cases b <;> cases want <;> simp_all
        subst hb2
        have h2 := h2 rfl
        rw [upd_same hb] at h2
        exact .inl ⟨updO τ o.dst undef, A, .inr ⟨⟨j, want, d, _, hg, hd, hb, .inl rfl⟩, rfl, rfl⟩, h2⟩
    · exact .inl ⟨updO τ o.dst undef, A, .inr ⟨⟨j, want, d, _, hg, hd, hb, .inr rfl⟩, rfl, rfl⟩, h⟩

/-- A region in the order of the text. -/
theorem seq_sound {n fl : Nat} {ops : Array Oper} (hok : ∀ (i : Nat) (o : Oper), ops[i]? = some o → okOper n o = true) {S : Nat → Tm × Hp} (hst : ∀ (i : Nat) (o : Oper), ops[i]? = some o → StepAt P G ops.toList fl o (S i) (S (i + 1)))
    {Q : Exit → Act → World → Prop} : ∀ (m k : Nat) (μ : Mu) (a : Act) (w : World), k + m = ops.size → TR n μ (S k).2 (S k).1 a → HR G μ fl (S k).2 w → fl ≤ (S k).2.next →
      (∀ μ' a' w', TR n μ' (S ops.size).2 (S ops.size).1 a' → HR G μ' fl (S ops.size).2 w' → Trans fl μ (S k).2 w μ' (S ops.size).2 w' → Q .normal a' w') → wpOps P ops Q (List.range' k m) a w
  | 0, k, μ, a, w, hkm, T, H, hfl, hQ => by
    have : k = ops.size := by omega
    subst this
    exact hQ μ a w T H (Trans.refl _ _ _ _)
  | m + 1, k, μ, a, w, hkm, T, H, hfl, hQ => by
    rw [List.range'_succ, wpOps_cons]
    have hk : k < ops.size := by omega
    have hi := Array.getElem?_eq_getElem hk
    refine (hst k _ hi).wpOp hi (hok k _ hi) T H hfl fun μ' a' w' T' H' Tr => ?_
    refine seq_sound hok hst m (k + 1) μ' a' w' (by omega) T' H' (Nat.le_trans hfl Tr.ext.next) fun μ2 a2 w2 T2 H2 Tr2 => hQ μ2 a2 w2 T2 H2 (Tr.trans Tr2)

end
end Go.Proofs.Ytiiapkhdjchhjaa.Ab

/- Regions that draw their order: whatever order is drawn, they come to what the order of the text comes to. -/
namespace Go.Proofs.Ytiiapkhdjchhjaa.Ab
open Go.RowKit
set_option linter.unusedVariables false
set_option linter.unusedSimpArgs false

section
variable {P : Program} {G : Gl}

/-- One heap holds all of another's blocks as they are. -/
structure Sub (A B : Hp) : Prop where
  next : A.next ≤ B.next
  blk : ∀ id, id < A.next → B.blk id = A.blk id

theorem Sub.refl (A : Hp) : Sub A A := ⟨Nat.le_refl _, fun _ _ => rfl⟩
theorem Sub.trans {A B C : Hp} (h : Sub A B) (k : Sub B C) : Sub A C := ⟨Nat.le_trans h.next k.next, fun id hi => (k.blk id (Nat.lt_of_lt_of_le hi h.next)).trans (h.blk id hi)⟩

theorem Sub.ext {A B : Hp} (h : Sub A B) {μ ν : Mu} (hm : ∀ id, id < A.next → ∀ p, μ id = some p → ν id = some p) : Ext μ A ν B :=
  ⟨h.next, fun id hi cs g e hb => ⟨cs, g, e, (h.blk id hi) ▸ hb, .inl ⟨rfl, rfl, hm id hi⟩⟩, fun id hi k hb ho => ⟨⟨k, (h.blk id hi) ▸ hb, ho⟩, hm id hi⟩⟩

/-- Only so many blocks have a place. -/
def Low (μ : Mu) (n : Nat) : Prop := ∀ id, n ≤ id → μ id = none
def Mu.cut (μ : Mu) (n : Nat) : Mu := fun id => if id < n then μ id else none
theorem Mu.cut_low (μ : Mu) (n : Nat) : Low (μ.cut n) n := fun id hi => by simp only [Mu.cut, if_neg (show ¬ id < n by omega)]
theorem Mu.cut_lt (μ : Mu) {n id : Nat} (h : id < n) : μ.cut n id = μ id := by simp only [Mu.cut, if_pos h]

theorem HR.low {fl : Nat} {μ : Mu} {A : Hp} {w : World} (H : HR G μ fl A w) : HR G (μ.cut A.next) fl A w := by
  have lt : ∀ {id : Nat}, A.blk id ≠ none → id < A.next := fun {id} h => by
    rcases Nat.lt_or_ge id A.next with h' | h'
    · exact h'
    · exact absurd (H.wf id h') h
  have E : Ext μ A (μ.cut A.next) A := (Sub.refl A).ext fun id hi p hp => by rw [Mu.cut_lt _ hi]; exact hp
  refine ⟨H.wf, H.refs, fun id cs g e b o S hb hm => ?_, fun id cs g e b o S hf hb hm => ?_, fun id id' b o S b' o' S' hne hf hb hb' hm hm' => ?_, H.glob, fun g cs id b o S hg hf hb hm => ?_, H.orefs, fun id k b o S hb ho hm => ?_⟩
  · rw [Mu.cut_lt _ (lt (by rw [hb]; simp))] at hm
    obtain ⟨c, t, fr, h1, h2, h3, h4⟩ := H.row id cs g e b o S hb hm
    exact ⟨c, t, fr, h1, h2, h3, fun j v hj => by obtain ⟨v', h5, h6⟩ := h4 j v hj; exact ⟨v', h5, h6.mono E⟩⟩
  · rw [Mu.cut_lt _ (lt (by rw [hb]; simp))] at hm
    exact H.free id cs g e b o S hf hb hm
  · rw [Mu.cut_lt _ (lt hb)] at hm
    rw [Mu.cut_lt _ (lt hb')] at hm'
    exact H.apart id id' b o S b' o' S' hne hf hb hb' hm hm'
  · rw [Mu.cut_lt _ (lt hb)] at hm
    exact H.globApart g cs id b o S hg hf hb hm
  · rw [Mu.cut_lt _ (lt (by rw [hb]; simp))] at hm
    obtain ⟨ob, h1, h2⟩ := H.obj id k b o S hb ho hm
    exact ⟨ob, h1, h2.mono E⟩

/-- A heap that holds more blocks, none of which has a place yet. -/
theorem HR.up {fl : Nat} {μ : Mu} {A B : Hp} {w : World} (H : HR G μ fl A w) (hl : Low μ A.next) (h : Sub A B) (hwf : ∀ id, B.next ≤ id → B.blk id = none)
    (hrefs : ∀ id cs g e, B.blk id = some (.row cs g e) → ∀ v ∈ cs, RB B.next v) (horefs : ∀ id k, B.blk id = some k → k.RBs B.next) : HR G μ fl B w := by
  have lt : ∀ {id : Nat} {p : Pl}, μ id = some p → id < A.next := fun {id p} h => by
    rcases Nat.lt_or_ge id A.next with h' | h'
    · exact h'
    · rw [hl id h'] at h; cases h
  have E : Ext μ A μ B := h.ext fun _ _ _ hp => hp
  refine ⟨hwf, hrefs, fun id cs g e b o S hb hm => ?_, fun id cs g e b o S hf hb hm => ?_, fun id id' b o S b' o' S' hne hf hb hb' hm hm' => ?_, H.glob, fun g cs id b o S hg hf hb hm => ?_, horefs, fun id k b o S hb ho hm => ?_⟩
  · rw [h.blk id (lt hm)] at hb
    obtain ⟨c, t, fr, h1, h2, h3, h4⟩ := H.row id cs g e b o S hb hm
    exact ⟨c, t, fr, h1, h2, h3, fun j v hj => by obtain ⟨v', h5, h6⟩ := h4 j v hj; exact ⟨v', h5, h6.mono E⟩⟩
  · rw [h.blk id (lt hm)] at hb
    exact H.free id cs g e b o S hf hb hm
  · rw [h.blk id (lt hm)] at hb
    rw [h.blk id' (lt hm')] at hb'
    exact H.apart id id' b o S b' o' S' hne hf hb hb' hm hm'
  · rw [h.blk id (lt hm)] at hb
    exact H.globApart g cs id b o S hg hf hb hm
  · rw [h.blk id (lt hm)] at hb
    obtain ⟨ob, h1, h2⟩ := H.obj id k b o S hb ho hm
    exact ⟨ob, h1, h2.mono E⟩

theorem Trans.cutUp {fl : Nat} {μ μ' : Mu} {A B C : Hp} {w w' : World} (T : Trans fl μ A w μ' B w') (hfl : fl ≤ A.next) (h : Sub B C) : Trans fl μ A w (μ'.cut B.next) C w' := by
  have hAB := T.ext.next
  refine ⟨T.os, T.tape, T.output, T.size, T.ext.trans (h.ext fun id hi p hp => by rw [Mu.cut_lt _ hi]; exact hp), fun id hi => ?_, fun id hi hm => ?_, T.frame, fun b ⟨id, o, S, hf, hb, hm⟩ => ?_⟩
  · obtain ⟨h1, h2⟩ := T.low id hi
    exact ⟨(h.blk id (by omega)).trans h1, by rw [Mu.cut_lt _ (by omega)]; exact h2⟩
  · rw [Mu.cut_lt _ (by omega)]; exact T.dom id hi hm
  · by_cases hlt : id < B.next
    · rw [Mu.cut_lt _ hlt] at hm
      rw [h.blk id hlt] at hb
      exact T.own b ⟨id, o, S, hf, hb, hm⟩
    · rw [Mu.cut_low _ _ id (by omega)] at hm; cases hm

/-- The elder heap, at the places that it has. -/
theorem HR.down {fl : Nat} {μ : Mu} {A B : Hp} {w : World} (H : HR G μ fl B w) (h : Sub A B) (hwf : ∀ id, A.next ≤ id → A.blk id = none)
    (hrefs : ∀ id cs g e, A.blk id = some (.row cs g e) → ∀ v ∈ cs, RB A.next v) (horefs : ∀ id k, A.blk id = some k → k.RBs A.next) : HR G (μ.cut A.next) fl A w := by
  have lt : ∀ {id : Nat} {p : Pl}, μ.cut A.next id = some p → id < A.next := fun {id p} h => by
    rcases Nat.lt_or_ge id A.next with h' | h'
    · exact h'
    · rw [Mu.cut_low _ _ id h'] at h; cases h
  refine ⟨hwf, hrefs, fun id cs g e b o S hb hm => ?_, fun id cs g e b o S hf hb hm => ?_, fun id id' b o S b' o' S' hne hf hb hb' hm hm' => ?_, H.glob, fun g cs id b o S hg hf hb hm => ?_, horefs, fun id k b o S hb ho hm => ?_⟩
  · have hl := lt hm
    rw [Mu.cut_lt _ hl] at hm
    obtain ⟨c, t, fr, h1, h2, h3, h4⟩ := H.row id cs g e b o S ((h.blk id hl).trans hb) hm
    refine ⟨c, t, fr, h1, h2, h3, fun j v hj => ?_⟩
    obtain ⟨v', h5, h6⟩ := h4 j v hj
    exact ⟨v', h5, h6.down (B := A) (fun i hi => h.blk i hi) (fun i hi => Mu.cut_lt _ hi) (hrefs id cs g e hb v (List.mem_of_getElem? hj))⟩
  · have hl := lt hm
    rw [Mu.cut_lt _ hl] at hm
    exact H.free id cs g e b o S hf ((h.blk id hl).trans hb) hm
  · have hl := lt hm
    have hl' := lt hm'
    rw [Mu.cut_lt _ hl] at hm
    rw [Mu.cut_lt _ hl'] at hm'
    exact H.apart id id' b o S b' o' S' hne hf (by rw [h.blk id hl]; exact hb) (by rw [h.blk id' hl']; exact hb') hm hm'
  · have hl := lt hm
    rw [Mu.cut_lt _ hl] at hm
    exact H.globApart g cs id b o S hg hf (by rw [h.blk id hl]; exact hb) hm
  · have hl := lt hm
    rw [Mu.cut_lt _ hl] at hm
    obtain ⟨ob, h1, h2⟩ := H.obj id k b o S ((h.blk id hl).trans hb) ho hm
    exact ⟨ob, h1, h2.down (B := A) (fun i hi => h.blk i hi) (fun i hi => Mu.cut_lt _ hi) (horefs id k hb)⟩

/-- What an operation that touches old blocks not at all did at its own heap, told at a later heap. -/
theorem HR.merge {fl : Nat} {μ μ'' : Mu} {A A' B : Hp} {w w' : World} (H : HR G μ fl B w) (hfl : fl ≤ A.next) (hAA : A.next ≤ A'.next) (hA : Sub A B) (hA' : Sub A' B) (hwf : ∀ id, A.next ≤ id → A.blk id = none)
    (hfresh : ∀ id, A.next ≤ id → id < A'.next → μ id = none) (H2 : HR G μ'' A.next A' w') (T2 : Trans A.next (μ.cut A.next) A w μ'' A' w') :
    ∃ ν : Mu, (∀ id, ¬ (A.next ≤ id ∧ id < A'.next) → ν id = μ id) ∧ (∀ id, A.next ≤ id → id < A'.next → ν id = μ'' id) ∧ HR G ν fl B w' ∧ Ext μ B ν B ∧ Ext μ'' A' ν B ∧
      ∀ {μ0 : Mu} {A0 : Hp} {w0 : World}, A0.next ≤ A.next → fl ≤ A0.next → Trans fl μ0 A0 w0 μ B w → Trans fl μ0 A0 w0 ν B w' := by
  have none_own : ∀ b, ¬ Own (μ.cut A.next) A.next A b := fun b ⟨id, _, _, hi, hb, _⟩ => hb (hwf id hi)
  have hsame : ∀ b, b < w.heap.size → w'.heap[b]? = w.heap[b]? := fun b hb => T2.frame b hb (none_own b)
  have hfro : ∀ b j, b < w.heap.size → w'.frozen? ⟨b, j, none⟩ = w.frozen? ⟨b, j, none⟩ := fun b j hb => by simp only [World.frozen?, hsame b hb]
  let ν : Mu := fun id => if A.next ≤ id ∧ id < A'.next then μ'' id else μ id
  have vo : ∀ id, ¬ (A.next ≤ id ∧ id < A'.next) → ν id = μ id := fun id h => if_neg h
  have vn : ∀ id, A.next ≤ id → id < A'.next → ν id = μ'' id := fun id h h' => if_pos ⟨h, h'⟩
  have E1 : Ext μ B ν B := (Sub.refl B).ext fun id hi p hp => by
    rw [vo id (fun h => by rw [hfresh id h.1 h.2] at hp; cases hp)]; exact hp
  have E2 : Ext μ'' A' ν B := hA'.ext fun id hi p hp => by
    by_cases h : A.next ≤ id
    · rw [vn id h hi]; exact hp
    · rw [vo id (fun h' => h h'.1)]
      have := (T2.low id (by omega)).2
      rw [Mu.cut_lt _ (by omega)] at this
      rw [← this]; exact hp
  have newb : ∀ {id b o S : Nat}, A.next ≤ id → A'.blk id ≠ none → μ'' id = some (b, o, S) → w.heap.size ≤ b := fun {id b o S} h hb hm => by
    rcases T2.own b ⟨id, o, S, h, hb, hm⟩ with h' | h'
    · exact absurd h' (none_own b)
    · exact h'
  refine ⟨ν, vo, vn, ⟨H.wf, H.refs, fun id cs g e b o S hb hm => ?_, fun id cs g e b o S hf hb hm j hj => ?_, fun id id' b o S b' o' S' hne hf hb hb' hm hm' => ?_, H2.glob, fun g cs id b o S hg hf hb hm => ?_, H.orefs, fun id k b o S hb ho hm => ?_⟩, E1, E2, ?_⟩
  · by_cases h : A.next ≤ id ∧ id < A'.next
    · rw [vn id h.1 h.2] at hm
      rw [hA'.blk id h.2] at hb
      obtain ⟨c, t, fr, h1, h2, h3, h4⟩ := H2.row id cs g e b o S hb hm
      exact ⟨c, t, fr, h1, h2, h3, fun j v hj => by obtain ⟨v', h5, h6⟩ := h4 j v hj; exact ⟨v', h5, h6.mono E2⟩⟩
    · rw [vo id h] at hm
      obtain ⟨c, t, fr, h1, h2, h3, h4⟩ := H.row id cs g e b o S hb hm
      exact ⟨c, t, fr, (hsame b (Array.getElem?_eq_some_iff.1 h1).1).trans h1, h2, h3, fun j v hj => by obtain ⟨v', h5, h6⟩ := h4 j v hj; exact ⟨v', h5, h6.mono E1⟩⟩
  · by_cases h : A.next ≤ id ∧ id < A'.next
    · rw [vn id h.1 h.2] at hm
      rw [hA'.blk id h.2] at hb
      exact H2.free id cs g e b o S h.1 hb hm j hj
    · rw [vo id h] at hm
      rw [hfro b j (live_lt H (by rw [hb]; simp) hm)]
      exact H.free id cs g e b o S hf hb hm j hj
  · by_cases h : A.next ≤ id ∧ id < A'.next
    · rw [vn id h.1 h.2] at hm
      rw [hA'.blk id h.2] at hb
      by_cases h' : A.next ≤ id' ∧ id' < A'.next
      · rw [vn id' h'.1 h'.2] at hm'
        rw [hA'.blk id' h'.2] at hb'
        exact H2.apart id id' b o S b' o' S' hne h.1 hb hb' hm hm'
      · rw [vo id' h'] at hm'
        have h1 := live_lt H hb' hm'
        have h2 := newb h.1 hb hm
        omega
    · rw [vo id h] at hm
      by_cases h' : A.next ≤ id' ∧ id' < A'.next
      · rw [vn id' h'.1 h'.2] at hm'
        rw [hA'.blk id' h'.2] at hb'
        have h1 := live_lt H hb hm
        have h2 := newb h'.1 hb' hm'
        omega
      · rw [vo id' h'] at hm'
        exact H.apart id id' b o S b' o' S' hne hf hb hb' hm hm'
  · by_cases h : A.next ≤ id ∧ id < A'.next
    · rw [vn id h.1 h.2] at hm
      rw [hA'.blk id h.2] at hb
      exact H2.globApart g cs id b o S hg h.1 hb hm
    · rw [vo id h] at hm
      exact H.globApart g cs id b o S hg hf hb hm
  · by_cases h : A.next ≤ id ∧ id < A'.next
    · rw [vn id h.1 h.2] at hm
      rw [hA'.blk id h.2] at hb
      obtain ⟨ob, h1, h2⟩ := H2.obj id k b o S hb ho hm
      exact ⟨ob, h1, h2.mono E2⟩
    · rw [vo id h] at hm
      obtain ⟨ob, h1, h2⟩ := H.obj id k b o S hb ho hm
      exact ⟨ob, (hsame b (Array.getElem?_eq_some_iff.1 h1).1).trans h1, h2.mono E1⟩
  · intro μ0 A0 w0 h0 hf0 T
    refine ⟨T2.os.trans T.os, T2.tape.trans T.tape, T2.output.trans T.output, Nat.le_trans T.size T2.size, T.ext.trans E1, fun id hi => ⟨(T.low id hi).1, ?_⟩, fun id hi hm => ?_, fun b hb ho => ?_, fun b ⟨id, o, S, hf, hb, hm⟩ => ?_⟩
    · rw [vo id (by omega)]; exact (T.low id hi).2
    · rw [vo id (by omega)]; exact T.dom id hi hm
    · rw [hsame b (Nat.lt_of_lt_of_le hb T.size)]; exact T.frame b hb ho
    · by_cases h : A.next ≤ id ∧ id < A'.next
      · rw [vn id h.1 h.2] at hm
        rw [hA'.blk id h.2] at hb
        exact .inr (Nat.le_trans T.size (newb h.1 hb hm))
      · rw [vo id h] at hm
        exact T.own b ⟨id, o, S, hf, hb, hm⟩

theorem Oper.wp_exists {o : Oper} {a : Act} {w : World} {next : Act → World → Prop} (h : o.wp P a w next fun _ _ _ => False) : ∃ a' w', next a' w' := by
  unfold Oper.wp at h
  generalize (execOp a.eval o).run P w = r at h
  cases r with
  | ok n w' =>
    cases n <;> simp only [Oper.upon] at h
    case value v => exact ⟨_, _, h⟩
    case skip => exact ⟨_, _, h⟩
    case defer d => exact ⟨_, _, h⟩
    case enter f args =>
      obtain ⟨e, w2, fr, hR, _⟩ := h []
      cases e with
      | returned v => exact ⟨_, _, hR⟩
      | panicked c => exact hR.elim
      | outgrown => obtain ⟨_, _, hx⟩ := hR; exact hx.elim
    case row row args =>
      obtain ⟨v, w2, hR, _⟩ := h default []
      exact ⟨_, _, hR⟩
  | halt x w' =>
    cases x <;> simp only [Oper.upon] at h

theorem wpOp_exists {ops : Array Oper} {i : Nat} {a : Act} {w : World} {K : Act → World → Prop} (h : Go.wpOp P ops (fun _ _ _ => False) i K a w) : ∃ a' w', K a' w' := by
  unfold Go.wpOp at h
  split at h
  · exact ⟨_, _, h⟩
  · split at h
    · rcases h with h | ⟨_, _, _, h⟩
      · exact Oper.wp_exists h
      · exact h.elim
    · exact ⟨_, _, h⟩

/-- One step in the order of the text, under either floor. -/
theorem StepAt.next {n fl f : Nat} {ops : Array Oper} {i : Nat} {o : Oper} (hi : ops[i]? = some o) (hok : okOper n o = true) {S S' : Tm × Hp} (hs : StepAt P G ops.toList f o S S') (hf : f = fl ∨ f = S.2.next) {μ : Mu} {a : Act} {w : World}
    (T : TR n μ S.2 S.1 a) (H : HR G μ fl S.2 w) (hfl : fl ≤ S.2.next) :
    ∃ μ' a' w', TR n μ' S'.2 S'.1 a' ∧ HR G μ' fl S'.2 w' ∧ S.2.next ≤ S'.2.next ∧ (f = S.2.next → Sub S.2 S'.2) := by
  rcases hf with rfl | rfl
  · obtain ⟨a', w', μ', h1, h2, h3⟩ := wpOp_exists (hs.wpOp (Q := fun _ _ _ => False) hi hok T H hfl (K := fun a' w' => ∃ μ', TR n μ' S'.2 S'.1 a' ∧ HR G μ' f S'.2 w' ∧ Trans f μ S.2 w μ' S'.2 w') fun μ' a' w' h1 h2 h3 => ⟨μ', h1, h2, h3⟩)
    exact ⟨μ', a', w', h1, h2, h3.ext.next, fun e => ⟨h3.ext.next, fun id hid => (h3.low id (by omega)).1⟩⟩
  · obtain ⟨a', w', μ', h1, h2, h3⟩ := wpOp_exists (hs.wpOp (Q := fun _ _ _ => False) hi hok T (H.raise hfl) (Nat.le_refl _) (K := fun a' w' => ∃ μ', TR n μ' S'.2 S'.1 a' ∧ HR G μ' S.2.next S'.2 w' ∧ Trans S.2.next μ S.2 w μ' S'.2 w') fun μ' a' w' h1 h2 h3 => ⟨μ', h1, h2, h3⟩)
    exact ⟨μ', a', w', h1, HR.lift H hfl h3 h2, h3.ext.next, fun _ => ⟨h3.ext.next, fun id hid => (h3.low id hid).1⟩⟩

/-- A step leaves what is below the floor. -/
theorem StepAt.nextLow {n fl f : Nat} {ops : Array Oper} {i : Nat} {o : Oper} (hi : ops[i]? = some o) (hok : okOper n o = true) {S S' : Tm × Hp} (hs : StepAt P G ops.toList f o S S') (hf : f = fl ∨ f = S.2.next) {μ : Mu} {a : Act} {w : World}
    (T : TR n μ S.2 S.1 a) (H : HR G μ fl S.2 w) (hfl : fl ≤ S.2.next) : ∀ id, id < fl → S'.2.blk id = S.2.blk id := by
  rcases hf with rfl | rfl
  · obtain ⟨a', w', μ', h1, h2, h3⟩ := wpOp_exists (hs.wpOp (Q := fun _ _ _ => False) hi hok T H hfl (K := fun a' w' => ∃ μ', TR n μ' S'.2 S'.1 a' ∧ HR G μ' f S'.2 w' ∧ Trans f μ S.2 w μ' S'.2 w') fun μ' a' w' h1 h2 h3 => ⟨μ', h1, h2, h3⟩)
    exact fun id hid => (h3.low id hid).1
  · obtain ⟨a', w', μ', h1, h2, h3⟩ := wpOp_exists (hs.wpOp (Q := fun _ _ _ => False) hi hok T (H.raise hfl) (Nat.le_refl _) (K := fun a' w' => ∃ μ', TR n μ' S'.2 S'.1 a' ∧ HR G μ' S.2.next S'.2 w' ∧ Trans S.2.next μ S.2 w μ' S'.2 w') fun μ' a' w' h1 h2 h3 => ⟨μ', h1, h2, h3⟩)
    exact fun id hid => (h3.low id (by omega)).1

end
end Go.Proofs.Ytiiapkhdjchhjaa.Ab

/- Regions that draw their order: the theorem. -/
namespace Go.Proofs.Ytiiapkhdjchhjaa.Ab
open Go.RowKit
set_option linter.unusedVariables false
set_option linter.unusedSimpArgs false

section
variable {P : Program} {G : Gl}

def Closed (ops : Array Oper) (L : Nat → Bool) : Prop := ∀ (j : Nat) (o : Oper), ops[j]? = some o → L j = true → ∀ e ∈ o.after, Region.binds .any e = true → L e.on = true
/-- Wherever j has come up, i has. -/
def Ord (ops : Array Oper) (i j : Nat) : Prop := ∀ L : Nat → Bool, Closed ops L → L j = true → L i = true

theorem look_op {ops : Array Oper} {o : Oper} {t : Tmp} (h : Operand.tmp t ∈ o.op.operands) : t ∈ o.looksAt ops :=
  List.mem_append_left _ (List.mem_filterMap.2 ⟨.tmp t, by simpa using h, rfl⟩)
theorem look_guard {ops : Array Oper} {o : Oper} {j : Nat} {want : Bool} {d : Tmp} (hg : o.guard = some (j, want)) (hd : (ops[j]?).bind (·.dst) = some d) : d ∈ o.looksAt ops :=
  List.mem_append_right _ (by simp [hg, hd])

theorem wanted_of' {ops : Array Oper} {o : Oper} {τ : Tm} (h : Wanted ops.toList o τ) {tm : Array Value} (hr : ∀ d, d ∈ o.looksAt ops → ∀ u, τ d = some u → ∃ μ A, VR μ A u (tm.getD d Go.undef)) : Region.wanted o (yielded ops tm) = true := by
  unfold Region.wanted
  cases hg : o.guard with
  | none => rfl
  | some jw =>
    obtain ⟨j, want⟩ := jw
    obtain ⟨d, hd, ht⟩ := h j want hg
    have hd' : (ops[j]?).bind (·.dst) = some d := by rw [Array.getElem?_toList] at hd; exact hd
    obtain ⟨μ, A, hv⟩ := hr d (look_guard hg hd') _ ht
    have h1 := hv.bool_inv
    have h2 : tm[d]? = some (.bool want) := by
      rw [Array.getD_eq_getD_getElem?] at h1
      cases hq : tm[d]? with
      | none => rw [hq] at h1; cases h1
      | some q => rw [hq] at h1; simp only [Option.getD_some] at h1; rw [h1]
    simp [yielded, hd', h2]

theorem unwanted_of' {ops : Array Oper} {o : Oper} {τ : Tm} (h : Unwanted ops.toList o τ) {tm : Array Value} (hr : ∀ d, d ∈ o.looksAt ops → ∀ u, τ d = some u → ∃ μ A, VR μ A u (tm.getD d Go.undef)) : Region.wanted o (yielded ops tm) = false := by
  obtain ⟨j, want, d, u, hg, hd, ht, hu⟩ := h
  have hd' : (ops[j]?).bind (·.dst) = some d := by rw [Array.getElem?_toList] at hd; exact hd
  obtain ⟨μ, A, hv⟩ := hr d (look_guard hg hd') u ht
  unfold Region.wanted
  simp only [hg, yielded, hd', Option.bind_some]
  cases hq : tm[d]? with
  | none => simp
  | some q =>
    rw [Array.getD_eq_getD_getElem?, hq, Option.getD_some] at hv
    rcases hu with rfl | rfl
    · have := hv.bool_inv; subst this
      cases want <;> simp
    · obtain ⟨ds, rfl, _⟩ := VR.tuple_inv hv
      simp

/-- A load before a store in the text, in another block: nothing binds them. -/
def Free1 (isW : Oper → Bool) (S : Nat → Tm × Hp) (x y : Oper) (i j : Nat) : Prop :=
  isW x = false ∧ isW y = true ∧ ∃ xl xs, isLd x = some xl ∧ isSt y = some xs ∧ ∀ p q, ev (S i).1 xl = some (.pointer (some p)) → ev (S j).1 xs = some (.pointer (some q)) → p.block ≠ q.block
/-- A load below the floor. -/
def LowLd (fl : Nat) (S : Nat → Tm × Hp) (x : Oper) (i : Nat) : Prop := ∃ xl, isLd x = some xl ∧ ∀ p, ev (S i).1 xl = some (.pointer (some p)) → p.block < fl
/-- A load that nothing binds. -/
def Free (isW : Oper → Bool) (fl : Nat) (S : Nat → Tm × Hp) (x y : Oper) (i j : Nat) : Prop :=
  Free1 isW S x y i j ∨ (isW x = false ∧ isW y = true ∧ LowLd fl S x i) ∨ (isW x = true ∧ isW y = false ∧ LowLd fl S y j)

variable (P G) in
/-- What a drawn region is given with. -/
structure Drawn (ops : Array Oper) (n fl : Nat) (isW : Oper → Bool) (S : Nat → Tm × Hp) : Prop where
  ok : ∀ (i : Nat) (o : Oper), ops[i]? = some o → okOper n o = true
  st : ∀ (i : Nat) (o : Oper), ops[i]? = some o → StepAt P G ops.toList (if isW o then fl else (S i).2.next) o (S i) (S (i + 1))
  down : ∀ (i : Nat) (o : Oper), ops[i]? = some o → ∀ e ∈ o.after, Region.binds .any e = true → e.on < i
  ordT : ∀ (i j : Nat) (x y : Oper), i < j → ops[i]? = some x → ops[j]? = some y → x.apart ops y = false → Ord ops i j
  ordW : ∀ (i j : Nat) (x y : Oper), i < j → ops[i]? = some x → ops[j]? = some y → (isW x || isW y) = true → pureOp P x.op = false → pureOp P y.op = false → Ord ops i j ∨ Free isW fl S x y i j
  wp : ∀ o, isW o = true → pureOp P o.op = false

variable {ops : Array Oper} {n fl : Nat} {isW : Oper → Bool} {S : Nat → Tm × Hp}

theorem Drawn.ordL (D : Drawn P G ops n fl isW S) {i j : Nat} {x y : Oper} (hij : i < j) (hx : ops[i]? = some x) (hy : ops[j]? = some y) (h : isW x = true) (h2 : isW y = true) (p1 : pureOp P x.op = false) (p2 : pureOp P y.op = false) : Ord ops i j := by
  rcases D.ordW i j x y hij hx hy (by simp [h]) p1 p2 with h' | h' | h' | h'
  · exact h'
  · have := h'.1; rw [h] at this; cases this
  · have := h'.1; rw [h] at this; cases this
  · have := h'.2.1; rw [h2] at this; cases this

theorem step_dst {f : Nat} {o : Oper} {A B : Tm × Hp} (h : StepAt P G ops.toList f o A B) {t : Nat} (ht : o.dst ≠ some t) : B.1 t = A.1 t := by
  have : ∀ v, updO A.1 o.dst v t = A.1 t := fun v => by
    cases hd : o.dst with
    | none => rfl
    | some d =>
      have hne : t ≠ d := fun e => ht (by rw [hd, e])
      simp only [updO, upd, if_neg hne]
  rcases h with ⟨_, v, _, _, h⟩ | ⟨_, _, h⟩
  · rw [h]; exact this v
  · rw [h]; exact this _

theorem Drawn.stable (D : Drawn P G ops n fl isW S) (t j : Nat) : ∀ k, j ≤ k → k ≤ ops.size → (∀ j', j ≤ j' → j' < k → ∀ o, ops[j']? = some o → o.dst ≠ some t) → (S k).1 t = (S j).1 t := by
  intro k
  induction k with
  | zero => intro h _ _; rw [show j = 0 by omega]
  | succ k ih =>
    intro h1 h2 h3
    by_cases hj : j = k + 1
    · rw [hj]
    · rw [← ih (by omega) (by omega) fun j' a b => h3 j' a (by omega)]
      have hk : k < ops.size := by omega
      exact step_dst (D.st k _ (Array.getElem?_eq_getElem hk)) (h3 k (by omega) (by omega) _ (Array.getElem?_eq_getElem hk))

theorem last_writer (ops : Array Oper) (t : Nat) : ∀ k : Nat, (∀ j : Nat, j < k → ∀ o : Oper, ops[j]? = some o → o.dst ≠ some t) ∨ ∃ (j : Nat) (o : Oper), j < k ∧ ops[j]? = some o ∧ o.dst = some t ∧ ∀ j' : Nat, j < j' → j' < k → ∀ o' : Oper, ops[j']? = some o' → o'.dst ≠ some t := by
  intro k
  induction k with
  | zero => exact .inl fun j h => by omega
  | succ k ih =>
    by_cases hk : ∃ o, ops[k]? = some o ∧ o.dst = some t
    · obtain ⟨o, h1, h2⟩ := hk
      exact .inr ⟨k, o, by omega, h1, h2, fun j' a b => by omega⟩
    · have hk' : ∀ o, ops[k]? = some o → o.dst ≠ some t := fun o h1 h2 => hk ⟨o, h1, h2⟩
      rcases ih with h | ⟨j, o, a, b, c, d⟩
      · exact .inl fun j hj o ho => by
          by_cases h' : j = k
          · subst h'; exact hk' o ho
          · exact h j (by omega) o ho
      · exact .inr ⟨j, o, by omega, b, c, fun j' x y o' ho' => by
          by_cases h' : j' = k
          · subst h'; exact hk' o' ho'
          · exact d j' x (by omega) o' ho'⟩

theorem next_w (ops : Array Oper) (isW : Oper → Bool) : ∀ m k, k + m = ops.size → ∃ r, k ≤ r ∧ r ≤ ops.size ∧ (∀ j, k ≤ j → j < r → ∀ o, ops[j]? = some o → isW o = false) ∧ (r < ops.size → ∃ o, ops[r]? = some o ∧ isW o = true) := by
  intro m
  induction m with
  | zero => intro k hk; exact ⟨k, Nat.le_refl _, by omega, fun j a b => by omega, fun h => by omega⟩
  | succ m ih =>
    intro k hk
    have hlt : k < ops.size := by omega
    cases hw : isW ops[k] with
    | true => exact ⟨k, Nat.le_refl _, by omega, fun j a b => by omega, fun _ => ⟨_, Array.getElem?_eq_getElem hlt, hw⟩⟩
    | false =>
      obtain ⟨r, h1, h2, h3, h4⟩ := ih (k + 1) (by omega)
      refine ⟨r, by omega, h2, fun j a b o ho => ?_, h4⟩
      by_cases hjk : j = k
      · subst hjk; rw [Array.getElem?_eq_getElem hlt] at ho; cases ho; exact hw
      · exact h3 j (by omega) b o ho

/-- The heaps of the text's order, all of them possible. -/
theorem Drawn.facts (D : Drawn P G ops n fl isW S) {μ0 : Mu} {a0 : Act} {w0 : World} (T0 : TR n μ0 (S 0).2 (S 0).1 a0) (H0 : HR G μ0 fl (S 0).2 w0) (h0 : fl ≤ (S 0).2.next) :
    ∀ i, i ≤ ops.size → (∃ μ a w, TR n μ (S i).2 (S i).1 a ∧ HR G μ fl (S i).2 w) ∧ fl ≤ (S i).2.next := by
  intro i
  induction i with
  | zero => exact fun _ => ⟨⟨μ0, a0, w0, T0, H0⟩, h0⟩
  | succ i ih =>
    intro hi
    obtain ⟨⟨μ, a, w, T, H⟩, hfl⟩ := ih (by omega)
    have hlt : i < ops.size := by omega
    have ho := Array.getElem?_eq_getElem hlt
    obtain ⟨μ', a', w', T', H', hn, _⟩ := (D.st i _ ho).next (fl := fl) ho (D.ok i _ ho) (by cases isW ops[i] <;> simp) T H hfl
    exact ⟨⟨μ', a', w', T', H'⟩, by omega⟩

theorem Drawn.steps (D : Drawn P G ops n fl isW S) {μ0 : Mu} {a0 : Act} {w0 : World} (T0 : TR n μ0 (S 0).2 (S 0).1 a0) (H0 : HR G μ0 fl (S 0).2 w0) (h0 : fl ≤ (S 0).2.next) {i : Nat} {o : Oper} (ho : ops[i]? = some o) :
    (S i).2.next ≤ (S (i + 1)).2.next ∧ (isW o = false → Sub (S i).2 (S (i + 1)).2) := by
  have hlt := (Array.getElem?_eq_some_iff.1 ho).1
  obtain ⟨⟨μ, a, w, T, H⟩, hfl⟩ := D.facts T0 H0 h0 i (by omega)
  obtain ⟨μ', a', w', T', H', hn, hs⟩ := (D.st i _ ho).next (fl := fl) ho (D.ok i _ ho) (by cases isW o <;> simp) T H hfl
  exact ⟨hn, fun hw => hs (by simp [hw])⟩

theorem Drawn.keepLow (D : Drawn P G ops n fl isW S) {μ0 : Mu} {a0 : Act} {w0 : World} (T0 : TR n μ0 (S 0).2 (S 0).1 a0) (H0 : HR G μ0 fl (S 0).2 w0) (h0 : fl ≤ (S 0).2.next) : ∀ k, k ≤ ops.size → ∀ id, id < fl → (S k).2.blk id = (S 0).2.blk id := by
  intro k
  induction k with
  | zero => exact fun _ _ _ => rfl
  | succ k ih =>
    intro hk id hid
    have hlt : k < ops.size := by omega
    obtain ⟨⟨μ, a, w, T, H⟩, hfl⟩ := D.facts T0 H0 h0 k (by omega)
    have ho := Array.getElem?_eq_getElem hlt
    rw [(D.st k _ ho).nextLow (fl := fl) ho (D.ok k _ ho) (by cases isW ops[k] <;> simp) T H hfl id hid]
    exact ih (by omega) id hid

theorem Drawn.sub (D : Drawn P G ops n fl isW S) {μ0 : Mu} {a0 : Act} {w0 : World} (T0 : TR n μ0 (S 0).2 (S 0).1 a0) (H0 : HR G μ0 fl (S 0).2 w0) (h0 : fl ≤ (S 0).2.next) (i : Nat) :
    ∀ k, i ≤ k → k ≤ ops.size → (∀ j, i ≤ j → j < k → ∀ o, ops[j]? = some o → isW o = false) → Sub (S i).2 (S k).2 := by
  intro k
  induction k with
  | zero => intro h _ _; rw [show i = 0 by omega]; exact Sub.refl _
  | succ k ih =>
    intro h1 h2 h3
    by_cases hik : i = k + 1
    · rw [hik]; exact Sub.refl _
    · have hk : k < ops.size := by omega
      have ho := Array.getElem?_eq_getElem hk
      exact (ih (by omega) (by omega) fun j a b => h3 j a (by omega)).trans ((D.steps T0 H0 h0 ho).2 (h3 k (by omega) (by omega) _ ho))

theorem Drawn.nextLe (D : Drawn P G ops n fl isW S) {μ0 : Mu} {a0 : Act} {w0 : World} (T0 : TR n μ0 (S 0).2 (S 0).1 a0) (H0 : HR G μ0 fl (S 0).2 w0) (h0 : fl ≤ (S 0).2.next) (i : Nat) :
    ∀ k, i ≤ k → k ≤ ops.size → (S i).2.next ≤ (S k).2.next := by
  intro k
  induction k with
  | zero => intro h _; rw [show i = 0 by omega]; exact Nat.le_refl _
  | succ k ih =>
    intro h1 h2
    by_cases hik : i = k + 1
    · rw [hik]; exact Nat.le_refl _
    · have hk : k < ops.size := by omega
      exact Nat.le_trans (ih (by omega) (by omega)) (D.steps T0 H0 h0 (Array.getElem?_eq_getElem hk)).1

/-- Where a drawn region stands. -/
structure Stand (G : Gl) (ops : Array Oper) (n fl : Nat) (isW : Oper → Bool) (S : Nat → Tm × Hp) (μ0 : Mu) (w0 : World) (L : Nat → Bool) (a : Act) (w : World) (μ : Mu) (r : Nat) : Prop where
  closed : Closed ops L
  rN : r ≤ ops.size
  wdone : ∀ (j : Nat) (o : Oper), j < r → ops[j]? = some o → isW o = true → L j = true
  wnext : r < ops.size → L r = false ∧ ∃ o, ops[r]? = some o ∧ isW o = true
  hr : HR G μ fl (S r).2 w
  low : Low μ (S r).2.next
  fresh : ∀ i, i < r → L i = false → ∀ id, (S i).2.next ≤ id → id < (S (i + 1)).2.next → μ id = none
  size : a.tmps.size = n
  defers : a.defers = []
  t0 : ∀ t, (∀ (j : Nat) (o : Oper), ops[j]? = some o → L j = true → o.dst ≠ some t) → ∀ v, (S 0).1 t = some v → VR μ (S r).2 v (a.tmps.getD t Go.undef)
  t1 : ∀ t (j : Nat) (o : Oper), ops[j]? = some o → L j = true → o.dst = some t → (∀ (j' : Nat) (o' : Oper), ops[j']? = some o' → L j' = true → j < j' → o'.dst ≠ some t) →
    ∀ v, (S (j + 1)).1 t = some v → VR μ (S r).2 v (a.tmps.getD t Go.undef)
  tr : Trans fl μ0 (S 0).2 w0 μ (S r).2 w

variable {μ0 : Mu} {w0 : World} {L : Nat → Bool} {a : Act} {w : World} {μ : Mu} {r : Nat}

/-- With one operation more. -/
def more (L : Nat → Bool) (i : Nat) : Nat → Bool := fun j => L j || j == i

theorem more_closed (h : Closed ops L) {i : Nat} {o : Oper} (ho : ops[i]? = some o) (hr : ∀ e ∈ o.after, Region.binds .any e = true → L e.on = true) : Closed ops (more L i) := by
  intro j o' ho' hj e he hb
  simp only [more, Bool.or_eq_true, beq_iff_eq] at hj ⊢
  rcases hj with hj | rfl
  · exact .inl (h j o' ho' hj e he hb)
  · rw [ho] at ho'; cases ho'
    exact .inl (hr e he hb)

theorem Stand.before (C : Closed ops L) {i : Nat} {o : Oper} (ho : ops[i]? = some o) (hr : ∀ e ∈ o.after, Region.binds .any e = true → L e.on = true) {j : Nat} (hne : j ≠ i) (h : Ord ops j i) : L j = true := by
  have := h (more L i) (more_closed C ho hr) (by simp [more])
  simpa [more, hne] using this

theorem apart_dst {x y : Oper} {t : Tmp} (hx : x.dst = some t) (hy : t ∈ y.looksAt ops ∨ y.dst = some t) : x.apart ops y = false ∧ y.apart ops x = false := by
  constructor
  · cases h : x.apart ops y with
    | false => rfl
    | true =>
      obtain ⟨h1, h2, h3⟩ := Oper.apart_spec h
      rcases hy with hy | hy
      · exact absurd hy (h1 t hx)
      · exact absurd hy (h2 t hx)
  · cases h : y.apart ops x with
    | false => rfl
    | true =>
      obtain ⟨h1, h2, h3⟩ := Oper.apart_spec h
      rcases hy with hy | hy
      · exact absurd hy (h3 t hx)
      · exact absurd hx (h2 t hy)

/-- What an operation that may come up reads is what it reads in the order of the text. -/
theorem Stand.read (D : Drawn P G ops n fl isW S) (J : Stand G ops n fl isW S μ0 w0 L a w μ r) {i : Nat} {o : Oper} (ho : ops[i]? = some o) (hLi : L i = false)
    (hrd : ∀ e ∈ o.after, Region.binds .any e = true → L e.on = true) {t : Tmp} (ht : t ∈ o.looksAt ops) {v : Value} (hv : (S i).1 t = some v) : VR μ (S r).2 v (a.tmps.getD t Go.undef) := by
  have hlt := (Array.getElem?_eq_some_iff.1 ho).1
  have later : ∀ (j' : Nat) (o' : Oper), ops[j']? = some o' → L j' = true → o'.dst = some t → j' < i := fun j' o' ho' hL' hd' => by
    rcases Nat.lt_trichotomy j' i with h | h | h
    · exact h
    · subst h; rw [hLi] at hL'; cases hL'
    · have := D.ordT i j' o o' h ho ho' (apart_dst hd' (.inl ht)).2 L J.closed hL'
      rw [hLi] at this; cases this
  rcases last_writer ops t i with h | ⟨j, oj, hj, hoj, hdj, hlast⟩
  · refine J.t0 t (fun j' o' ho' hL' hd' => h j' (later j' o' ho' hL' hd') o' ho' hd') v ?_
    rw [← D.stable t 0 i (Nat.zero_le _) (by omega) fun j' _ b o' ho' => h j' b o' ho']
    exact hv
  · have hLj := Stand.before J.closed ho hrd (by omega) (D.ordT j i oj o hj hoj ho (apart_dst hdj (.inl ht)).1)
    refine J.t1 t j oj hoj hLj hdj (fun j' o' ho' hL' hjj hd' => hlast j' hjj (later j' o' ho' hL' hd') o' ho' hd') v ?_
    rw [← D.stable t (j + 1) i (by omega) (by omega) fun j' x y o' ho' => hlast j' (by omega) y o' ho']
    exact hv

/-- The slots behind one operation more. -/
theorem Stand.slots (D : Drawn P G ops n fl isW S) (J : Stand G ops n fl isW S μ0 w0 L a w μ r) {i : Nat} {o : Oper} (ho : ops[i]? = some o) (hLi : L i = false)
    {μ' : Mu} {r' : Nat} (E : Ext μ (S r).2 μ' (S r').2) {v v' : Value} (hS : (S (i + 1)).1 = updO (S i).1 o.dst v) (hv : VR μ' (S r').2 v v') :
    (∀ t, (∀ (j : Nat) (o' : Oper), ops[j]? = some o' → more L i j = true → o'.dst ≠ some t) → ∀ u, (S 0).1 t = some u → VR μ' (S r').2 u ((a.put o.dst v').tmps.getD t Go.undef)) ∧
    (∀ t (j : Nat) (oj : Oper), ops[j]? = some oj → more L i j = true → oj.dst = some t → (∀ (j' : Nat) (o' : Oper), ops[j']? = some o' → more L i j' = true → j < j' → o'.dst ≠ some t) →
      ∀ u, (S (j + 1)).1 t = some u → VR μ' (S r').2 u ((a.put o.dst v').tmps.getD t Go.undef)) := by
  have same : ∀ t, o.dst ≠ some t → (a.put o.dst v').tmps.getD t Go.undef = a.tmps.getD t Go.undef := fun t ht => by
    cases hd : o.dst with
    | none => rfl
    | some d => exact getD_set_other (fun e => ht (by rw [hd, e])) v'
  have mL : ∀ {j : Nat}, L j = true → more L i j = true := fun {j} h => by simp [more, h]
  have mi : more L i i = true := by simp [more]
  refine ⟨fun t ht u hu => ?_, fun t j oj hoj hj hd hlast u hu => ?_⟩
  · rw [same t (ht i o ho mi)]
    exact (J.t0 t (fun j o' ho' hL => ht j o' ho' (mL hL)) u hu).mono E
  · by_cases hji : j = i
    · subst hji
      rw [ho] at hoj; cases hoj
      rw [hS, hd] at hu
      simp only [updO, upd, if_true, Option.some.injEq] at hu
      subst hu
      rw [hd]
      simp only [Act.put]
      rw [getD_set_self (by rw [J.size]; exact dst_ok (D.ok j o ho) hd)]
      exact hv
    · have hLj : L j = true := by simpa [more, hji] using hj
      have hdi : o.dst ≠ some t := fun hdi => by
        have hap := apart_dst (ops := ops) (y := o) hd (.inr hdi)
        rcases Nat.lt_or_ge i j with h | h
        · have := D.ordT i j o oj h ho hoj hap.2 L J.closed hLj
          rw [hLi] at this; cases this
        · exact hlast i o ho mi (by omega) hdi
      rw [same t hdi]
      exact (J.t1 t j oj hoj hLj hd (fun j' o' ho' hL' hlt => hlast j' o' ho' (mL hL') hlt) u hu).mono E


theorem step_skip_heap {f : Nat} {o : Oper} {A B : Tm × Hp} (h : StepAt P G ops.toList f o A B) (hp : pureOp P o.op = true) : B.2 = A.2 := by
  rcases h with ⟨_, v, _, hp', _⟩ | ⟨_, h, _⟩
  · exact (hp'.1 hp).1
  · exact h

theorem step_load_heap {f : Nat} {o : Oper} {A B : Tm × Hp} (h : StepAt P G ops.toList f o A B) {x : Operand} (hl : isLd o = some x) : B.2 = A.2 := by
  rcases h with ⟨_, v, _, hp', _⟩ | ⟨_, h, _⟩
  · exact (hp'.2.load x hl).1
  · exact h

/-- One operation comes up. -/
theorem Stand.step (D : Drawn P G ops n fl isW S) {a0 : Act} (T0 : TR n μ0 (S 0).2 (S 0).1 a0) (H0 : HR G μ0 fl (S 0).2 w0) (h0 : fl ≤ (S 0).2.next)
    (J : Stand G ops n fl isW S μ0 w0 L a w μ r) {i : Nat} {o : Oper} (ho : ops[i]? = some o) (hLi : L i = false) (hrd : ∀ e ∈ o.after, Region.binds .any e = true → L e.on = true)
    {K : Act → World → Prop} {Q : Exit → Act → World → Prop} (hk : ∀ a' w' μ' r', Stand G ops n fl isW S μ0 w0 (more L i) a' w' μ' r' → K a' w') : Go.wpOp P ops Q i K a w := by
  have hlt := (Array.getElem?_eq_some_iff.1 ho).1
  have hrN := J.rN
  have C' := more_closed J.closed ho hrd
  have mL : ∀ {j : Nat}, L j = true → more L i j = true := fun {j} h => by simp [more, h]
  have mN : ∀ {j : Nat}, more L i j = false → L j = false ∧ j ≠ i := fun {j} h => by simpa [more] using h
  have flr : ∀ k, k ≤ ops.size → fl ≤ (S k).2.next := fun k hk => (D.facts T0 H0 h0 k hk).2
  have wf : ∀ k, k ≤ ops.size → ∀ id, (S k).2.next ≤ id → (S k).2.blk id = none := fun k hk => by
    obtain ⟨⟨_, _, _, _, H⟩, _⟩ := D.facts T0 H0 h0 k hk; exact H.wf
  have rf : ∀ k, k ≤ ops.size → ∀ id cs g e, (S k).2.blk id = some (.row cs g e) → ∀ v ∈ cs, RB (S k).2.next v := fun k hk => by
    obtain ⟨⟨_, _, _, _, H⟩, _⟩ := D.facts T0 H0 h0 k hk; exact H.refs
  have ro : ∀ k, k ≤ ops.size → ∀ id q, (S k).2.blk id = some q → q.RBs (S k).2.next := fun k hk => by
    obtain ⟨⟨_, _, _, _, H⟩, _⟩ := D.facts T0 H0 h0 k hk; exact H.orefs
  have reads : ∀ d, d ∈ o.looksAt ops → ∀ u, (S i).1 d = some u → ∃ μ A, VR μ A u (a.tmps.getD d Go.undef) := fun d hd u hu => ⟨_, _, J.read D ho hLi hrd hd hu⟩
  have opr : ∀ x ∈ o.op.operands, ∀ u, ev (S i).1 x = some u → VR μ (S r).2 u (a.eval x) := fun x hx u hu => by
    have hok := mem_ok (D.ok i o ho) hx
    cases x with
    | tmp t => exact J.read D ho hLi hrd (look_op hx) hu
    | const v => simp only [ev, Option.some.injEq] at hu; subst hu; exact VR.of_zcA hok
    | global g => simp only [ev, Option.some.injEq] at hu; subst hu; exact .ptr (.inl ⟨rfl, rfl⟩)
    | func f => simp only [ev, Option.some.injEq] at hu; subst hu; exact .func _ rfl (fun i hi => by simp at hi) rfl (fun i hi => by simp at hi)
  -- an operation that leaves the heap alone
  have quiet : isW o = false → (S (i + 1)).2 = (S i).2 → ∀ v v', (S (i + 1)).1 = updO (S i).1 o.dst v → VR μ (S r).2 v v' → K (a.put o.dst v') w := by
    intro hw hh v v' hS hv
    obtain ⟨s0, s1⟩ := J.slots (μ' := μ) (r' := r) D ho hLi (Ext.refl _ _) hS hv
    refine hk _ _ μ r ⟨C', J.rN, fun j oj a1 a2 a3 => mL (J.wdone j oj a1 a2 a3), fun hr => ?_, J.hr, J.low, fun j a1 a2 => J.fresh j a1 (mN a2).1, ?_, ?_, s0, s1, J.tr⟩
    · obtain ⟨b1, or, b2, b3⟩ := J.wnext hr
      refine ⟨?_, or, b2, b3⟩
      have : r ≠ i := fun e => by subst e; rw [ho] at b2; cases b2; rw [hw] at b3; cases b3
      simp [more, b1, this]
    · cases o.dst <;> simpa [Act.put] using J.size
    · cases o.dst <;> simpa [Act.put] using J.defers
  -- an operation behind which the next write is another one
  have write : isW o = true → i = r ∧ ∀ (μ2 : Mu) (w2 : World) (v v' : Value), (S (i + 1)).1 = updO (S i).1 o.dst v → HR G μ2 fl (S (r + 1)).2 w2 → Trans fl μ (S r).2 w μ2 (S (r + 1)).2 w2 → VR μ2 (S (r + 1)).2 v v' → K (a.put o.dst v') w2 := by
    intro hw
    have hir : i = r := by
      rcases Nat.lt_trichotomy i r with h | h | h
      · have := J.wdone i o h ho hw; rw [hLi] at this; cases this
      · exact h
      · obtain ⟨b1, or, b2, b3⟩ := J.wnext (by omega)
        have := Stand.before J.closed ho hrd (by omega) (D.ordL h b2 ho b3 hw (D.wp _ b3) (D.wp _ hw))
        rw [b1] at this; cases this
    refine ⟨hir, fun μ2 w2 v v' hS H2 T2 hv => ?_⟩
    subst hir
    obtain ⟨r', q1, q2, q3, q4⟩ := next_w ops isW (ops.size - (i + 1)) (i + 1) (by omega)
    have hsub := D.sub T0 H0 h0 (i + 1) r' q1 q2 q3
    have E : Ext μ (S i).2 (μ2.cut (S (i + 1)).2.next) (S r').2 := T2.ext.trans (hsub.ext fun id hi p hp => by rw [Mu.cut_lt _ hi]; exact hp)
    have hv' : VR (μ2.cut (S (i + 1)).2.next) (S r').2 v v' := hv.mono (hsub.ext fun id hi p hp => by rw [Mu.cut_lt _ hi]; exact hp)
    obtain ⟨s0, s1⟩ := J.slots (μ' := μ2.cut (S (i + 1)).2.next) (r' := r') D ho hLi E hS hv'
    have T3 := J.tr.trans T2
    refine hk _ _ (μ2.cut (S (i + 1)).2.next) r' ⟨C', q2, fun j oj a1 a2 a3 => ?_, fun hr => ?_, ?_, ?_, fun j a1 a2 id b1 b2 => ?_, ?_, ?_, s0, s1, T3.cutUp h0 hsub⟩
    · rcases Nat.lt_trichotomy j i with h | h | h
      · exact mL (J.wdone j oj h a2 a3)
      · subst h; simp [more]
      · have := q3 j (by omega) a1 oj a2; rw [a3] at this; cases this
    · obtain ⟨or, b2, b3⟩ := q4 hr
      refine ⟨?_, or, b2, b3⟩
      have hne : r' ≠ i := by omega
      cases hL : L r' with
      | false => simp [more, hL, hne]
      | true =>
        have := D.ordL (by omega) ho b2 hw b3 (D.wp _ hw) (D.wp _ b3) L J.closed hL
        rw [hLi] at this; cases this
    · exact H2.low.up (Mu.cut_low _ _) hsub (wf r' q2) (rf r' q2) (ro r' q2)
    · intro id hid; exact Mu.cut_low _ _ id (by have := hsub.next; omega)
    · obtain ⟨a3, a4⟩ := mN a2
      have hjN : j < ops.size := by omega
      have hoj := Array.getElem?_eq_getElem hjN
      rcases Nat.lt_or_ge j i with h | h
      · -- it has to be one that makes nothing
        cases hp : pureOp P ops[j].op with
        | true => have := step_skip_heap (D.st j _ hoj) hp; rw [this] at b2; omega
        | false =>
          rcases D.ordW j i _ o h hoj ho (by simp [hw]) hp (D.wp _ hw) with h' | h' | h' | h'
          · have := Stand.before J.closed ho hrd (by omega) h'
            rw [a3] at this; cases this
          · obtain ⟨_, _, xl, _, hxl, _⟩ := h'
            have := step_load_heap (D.st j _ hoj) hxl; rw [this] at b2; omega
          · obtain ⟨_, _, xl, hxl, _⟩ := h'
            have := step_load_heap (D.st j _ hoj) hxl; rw [this] at b2; omega
          · have := h'.2.1; rw [hw] at this; cases this
      · have := D.nextLe T0 H0 h0 (i + 1) j (by omega) (by omega)
        exact Mu.cut_low _ _ id (by omega)
    · cases o.dst <;> simpa [Act.put] using J.size
    · cases o.dst <;> simpa [Act.put] using J.defers
  -- an operation that reads at the heap where the region stands what it reads in the order of the text
  have still : ∀ v, isW o = false → (S (i + 1)).1 = updO (S i).1 o.dst v → OpOK P G o fl (S i).1 (S r).2 v (S r).2 → o.wp P a w K Q := by
    intro v hnw hτ hO2
    refine hO2 μ w a K Q J.hr (flr r J.rN) opr fun v' w' μ' hv' H' T' => ?_
    have E : Ext μ (S r).2 (μ'.cut (S r).2.next) (S r).2 := T'.ext.trans ((Sub.refl _).ext fun id hi p hp => by rw [Mu.cut_lt _ hi]; exact hp)
    have hv2 : VR (μ'.cut (S r).2.next) (S r).2 v v' := hv'.mono ((Sub.refl _).ext fun id hi p hp => by rw [Mu.cut_lt _ hi]; exact hp)
    obtain ⟨s0, s1⟩ := J.slots (μ' := μ'.cut (S r).2.next) (r' := r) D ho hLi E hτ hv2
    refine hk _ _ (μ'.cut (S r).2.next) r ⟨C', J.rN, fun j oj a1 a2 a3 => mL (J.wdone j oj a1 a2 a3), fun hr => ?_, H'.low, Mu.cut_low _ _, fun j a1 a2 id b1 b2 => ?_, ?_, ?_, s0, s1, (J.tr.trans T').cutUp h0 (Sub.refl _)⟩
    · obtain ⟨b1, or, b2, b3⟩ := J.wnext hr
      refine ⟨?_, or, b2, b3⟩
      have : r ≠ i := fun e => by subst e; rw [ho] at b2; cases b2; rw [hnw] at b3; cases b3
      simp [more, b1, this]
    · have hle := D.nextLe T0 H0 h0 (j + 1) r (by omega) J.rN
      rw [Mu.cut_lt _ (by omega)]
      exact T'.dom id (by omega) (J.fresh j a1 (mN a2).1 id b1 b2)
    · cases o.dst <;> simpa [Act.put] using J.size
    · cases o.dst <;> simpa [Act.put] using J.defers
  unfold Go.wpOp
  simp only [ho]
  rcases D.st i o ho with ⟨hw, v, hO, hpure, hτ⟩ | ⟨hw, hA, hτ⟩
  · have hwant := wanted_of' hw (tm := a.tmps) reads
    simp only [hwant, if_true]
    refine .inl ?_
    cases hp : pureOp P o.op with
    | true =>
      have hnw : isW o = false := by
        cases h : isW o with
        | false => rfl
        | true => have := D.wp _ h; rw [hp] at this; cases this
      obtain ⟨hh, hO2⟩ := hpure.1 hp
      exact still v hnw hτ (hO2 fl (S r).2)
    | false =>
      cases hwo : isW o with
      | true =>
        obtain ⟨rfl, hgo⟩ := write hwo
        rw [if_pos hwo] at hO
        exact hO μ w a K Q J.hr (flr i J.rN) opr fun v' w' μ' hv' H' T' => hgo μ' w' v v' hτ H' T' hv'
      | false =>
        rw [if_neg (by simp [hwo])] at hO
        by_cases hlow : LowLd fl S o i
        · obtain ⟨xl, hld, hl⟩ := hlow
          refine still v hwo hτ ?_
          obtain ⟨_, hall | ⟨p, hpv, hpb, hall⟩⟩ := hpure.2.load xl hld
          · exact hall fl (S r).2
          · exact hall fl (S r).2 ((D.keepLow T0 H0 h0 r J.rN _ (hl p hpv)).trans (D.keepLow T0 H0 h0 i (by omega) _ (hl p hpv)).symm)
        have hir : i < r := by
          rcases Nat.lt_trichotomy i r with h | h | h
          · exact h
          · subst h
            obtain ⟨_, or, b2, b3⟩ := J.wnext hlt
            rw [ho] at b2; cases b2; rw [hwo] at b3; cases b3
          · obtain ⟨b1, or, b2, b3⟩ := J.wnext (by omega)
            rcases D.ordW r i or o h b2 ho (by simp [b3]) (D.wp _ b3) hp with h' | h' | h' | h'
            · have := Stand.before J.closed ho hrd (by omega) h'
              rw [b1] at this; cases this
            · have := h'.1; rw [b3] at this; cases this
            · have := h'.1; rw [b3] at this; cases this
            · exact absurd h'.2.2 hlow
        cases hld : isLd o with
        | some xl =>
          refine still v hwo hτ ?_
          obtain ⟨_, hall | ⟨p, hpv, hpb, hall⟩⟩ := hpure.2.load xl hld
          · exact hall fl (S r).2
          refine hall fl (S r).2 ?_
          have key : ∀ k, i ≤ k → k ≤ r → (S k).2.blk p.block = (S i).2.blk p.block ∧ p.block < (S k).2.next := by
            intro k
            induction k with
            | zero =>
              intro h1 _
              obtain rfl : i = 0 := by omega
              refine ⟨rfl, ?_⟩
              rcases Nat.lt_or_ge p.block (S 0).2.next with h | h
              · exact h
              · exact absurd (wf 0 (Nat.zero_le _) _ h) hpb
            | succ k ih =>
              intro h1 h2
              by_cases hik : i = k + 1
              · subst hik
                refine ⟨rfl, ?_⟩
                rcases Nat.lt_or_ge p.block (S (k + 1)).2.next with h | h
                · exact h
                · exact absurd (wf (k + 1) (by omega) _ h) hpb
              obtain ⟨e1, e2⟩ := ih (by omega) (by omega)
              have hk : k < ops.size := by omega
              have hok := Array.getElem?_eq_getElem hk
              have hst := D.steps T0 H0 h0 hok
              refine ⟨?_, Nat.lt_of_lt_of_le e2 hst.1⟩
              rw [← e1]
              cases hwk : isW ops[k] with
              | false => exact (hst.2 hwk).blk _ e2
              | true =>
                have hne : k ≠ i := fun e => by subst e; rw [ho] at hok; cases hok; rw [hwo] at hwk; cases hwk
                have hLk := J.wdone k _ (by omega) hok hwk
                rcases D.ordW i k o _ (by omega) ho hok (by simp [hwk]) hp (D.wp _ hwk) with h' | h' | h' | h'
                rotate_left 2
                · exact absurd h'.2.2 hlow
                · have := h'.1; rw [hwo] at this; cases this
                · have := h' L J.closed hLk
                  rw [hLi] at this; cases this
                · obtain ⟨_, _, xl', xs, hxl, hxs, hpq⟩ := h'
                  rw [hld] at hxl; cases hxl
                  rcases D.st k _ hok with ⟨_, _, _, hkn, _⟩ | ⟨_, hsame, _⟩
                  · obtain ⟨q, hq, hb⟩ := hkn.2.store xs hxs
                    exact hb _ (hpq p q hpv hq)
                  · rw [hsame]
          exact (key r (by omega) (Nat.le_refl _)).1
        | none =>
        have nw : ∀ j, i ≤ j → j < r → ∀ oj, ops[j]? = some oj → isW oj = false := fun j a1 a2 oj hoj => by
          cases h : isW oj with
          | false => rfl
          | true =>
            have hne : j ≠ i := fun e => by subst e; rw [ho] at hoj; cases hoj; rw [hwo] at h; cases h
            have hLj := J.wdone j oj a2 hoj h
            rcases D.ordW i j o oj (by omega) ho hoj (by simp [h]) hp (D.wp _ h) with h' | h' | h' | h'
            rotate_left 2
            · exact absurd h'.2.2 hlow
            · have := h'.1; rw [hwo] at this; cases this
            · have := h' L J.closed hLj
              rw [hLi] at this; cases this
            · obtain ⟨_, _, xl, _, hxl, _⟩ := h'
              rw [hld] at hxl; cases hxl
        have hsub := D.sub T0 H0 h0 i r (by omega) J.rN nw
        have hsub' := D.sub T0 H0 h0 (i + 1) r (by omega) J.rN fun j a1 a2 => nw j (by omega) a2
        have hnx := (D.steps T0 H0 h0 ho).1
        have Hd := (J.hr.raise (flr i (by omega))).down hsub (wf i (by omega)) (rf i (by omega)) (ro i (by omega))
        obtain ⟨⟨μs, as_, ws, Ts, Hs⟩, _⟩ := D.facts T0 H0 h0 i (by omega)
        have opd : ∀ x ∈ o.op.operands, ∀ u, ev (S i).1 x = some u → VR (μ.cut (S i).2.next) (S i).2 u (a.eval x) := fun x hx u hu => by
          refine (opr x hx u hu).down (fun id hi => hsub.blk id hi) (fun id hi => Mu.cut_lt _ hi) ?_
          exact (Ts.eval (mem_ok (D.ok i o ho) hx) hu).rb
        refine hO (μ.cut (S i).2.next) w a K Q Hd (Nat.le_refl _) opd fun v' w' μ'' hv' H' T' => ?_
        obtain ⟨ν, vo, vn, HN, E1, E2, TN⟩ := HR.merge J.hr (flr i (by omega)) hnx hsub hsub' (wf i (by omega)) (J.fresh i hir hLi) H' T'
        obtain ⟨s0, s1⟩ := J.slots (μ' := ν) (r' := r) D ho hLi E1 hτ (hv'.mono E2)
        refine hk _ _ ν r ⟨C', J.rN, fun j oj a1 a2 a3 => mL (J.wdone j oj a1 a2 a3), fun hr => ?_, HN, fun id hid => ?_, fun j a1 a2 id b1 b2 => ?_, ?_, ?_, s0, s1, TN (D.nextLe T0 H0 h0 0 i (Nat.zero_le _) (by omega)) h0 J.tr⟩
        · obtain ⟨b1, or, b2, b3⟩ := J.wnext hr
          refine ⟨?_, or, b2, b3⟩
          have : r ≠ i := by omega
          simp [more, b1, this]
        · have hn' := hsub'.next
          rw [vo id (fun h => by have := h.2; omega)]; exact J.low id hid
        · obtain ⟨a3, a4⟩ := mN a2
          rw [vo id (fun h => by
            rcases Nat.lt_or_ge j i with h' | h'
            · have := D.nextLe T0 H0 h0 (j + 1) i (by omega) (by omega); omega
            · have := D.nextLe T0 H0 h0 (i + 1) j (by omega) (by omega); omega)]
          exact J.fresh j a1 a3 id b1 b2
        · cases o.dst <;> simpa [Act.put] using J.size
        · cases o.dst <;> simpa [Act.put] using J.defers
  · have hwant := unwanted_of' hw (tm := a.tmps) reads
    simp only [hwant, Bool.false_eq_true, if_false]
    cases hwo : isW o with
    | true =>
      obtain ⟨rfl, hgo⟩ := write hwo
      have e : (S (i + 1)).2 = (S i).2 := hA
      exact hgo μ w _ _ hτ (by rw [e]; exact J.hr) (by rw [e]; exact Trans.refl _ _ _ _) VR.undef
    | false => exact quiet hwo hA _ _ hτ VR.undef


theorem ready_spec {listed : Array Bool} {i : Nat} (h : i ∈ Region.ready .any ops listed) : listed.getD i true = false ∧ ∃ o, ops[i]? = some o ∧ ∀ e ∈ o.after, Region.binds .any e = true → listed.getD e.on false = true :=
  mem_ready.1 h

/-- Whatever order is drawn. -/
theorem draw_any (D : Drawn P G ops n fl isW S) {a0 : Act} (T0 : TR n μ0 (S 0).2 (S 0).1 a0) (H0 : HR G μ0 fl (S 0).2 w0) (h0 : fl ≤ (S 0).2.next) {Q : Exit → Act → World → Prop}
    (hQ : ∀ μ' a' w', TR n μ' (S ops.size).2 (S ops.size).1 a' → HR G μ' fl (S ops.size).2 w' → Trans fl μ0 (S 0).2 w0 μ' (S ops.size).2 w' → Q .normal a' w') :
    ∀ (fuel : Nat) (listed : Array Bool) (a : Act) (w : World) (μ : Mu) (r : Nat), listed.size = ops.size → ((List.range ops.size).filter fun j => !listed.getD j false).length ≤ fuel →
      Stand G ops n fl isW S μ0 w0 (fun j => listed.getD j false) a w μ r → wpAny P .any ops Q fuel listed a w := by
  have fin : ∀ (listed : Array Bool) (a : Act) (w : World) (μ : Mu) (r : Nat), Stand G ops n fl isW S μ0 w0 (fun j => listed.getD j false) a w μ r → (∀ j, j < ops.size → listed.getD j false = true) → Q .normal a w := by
    intro listed a w μ r J hall
    have hr : r = ops.size := by
      rcases Nat.lt_or_ge r ops.size with h | h
      · have := (J.wnext h).1; rw [hall r h] at this; cases this
      · have := J.rN; omega
    subst hr
    refine hQ μ a w ⟨J.size, J.defers, fun t v hv => ?_⟩ J.hr J.tr
    rcases last_writer ops t ops.size with h | ⟨j, oj, hj, hoj, hdj, hlast⟩
    · refine J.t0 t (fun j o ho _ => h j (Array.getElem?_eq_some_iff.1 ho).1 o ho) v ?_
      rw [← D.stable t 0 ops.size (Nat.zero_le _) (Nat.le_refl _) fun j' _ b o' ho' => h j' b o' ho']
      exact hv
    · refine J.t1 t j oj hoj (hall j hj) hdj (fun j' o' ho' _ hlt => hlast j' hlt (Array.getElem?_eq_some_iff.1 ho').1 o' ho') v ?_
      rw [← D.stable t (j + 1) ops.size (by omega) (Nat.le_refl _) fun j' x y o' ho' => hlast j' (by omega) y o' ho']
      exact hv
  have nothing : ∀ (listed : Array Bool), listed.size = ops.size → Region.ready .any ops listed = [] → ∀ j, j < ops.size → listed.getD j false = true := by
    intro listed hsz hnil j
    induction j using Nat.strongRecOn with
    | _ j ih =>
      intro hj
      cases hl : listed.getD j false with
      | true => rfl
      | false =>
        have ho := Array.getElem?_eq_getElem hj
        have : j ∈ Region.ready .any ops listed := mem_ready.2 ⟨by
          have hjl : j < listed.size := by omega
          rw [Array.getD_eq_getD_getElem?, Array.getElem?_eq_getElem hjl, Option.getD_some] at hl ⊢
          exact hl, _, ho, fun e he hb => ih e.on (D.down j _ ho e he hb) (by have := D.down j _ ho e he hb; omega)⟩
        rw [hnil] at this; cases this
  intro fuel
  induction fuel with
  | zero =>
    intro listed a w μ r hsz hf J
    have hall : ∀ j, j < ops.size → listed.getD j false = true := fun j hj => by
      have he : (List.range ops.size).filter (fun j => !listed.getD j false) = [] := List.eq_nil_of_length_eq_zero (by omega)
      have := List.filter_eq_nil_iff.1 he j (List.mem_range.2 hj)
      simpa using this
    refine ⟨?_, fin listed a w μ r J hall⟩
    cases hr : Region.ready .any ops listed with
    | nil => rfl
    | cons i rest =>
      obtain ⟨h1, o, ho, _⟩ := ready_spec (ops := ops) (listed := listed) (i := i) (by rw [hr]; simp)
      have hi := (Array.getElem?_eq_some_iff.1 ho).1
      have h2 := hall i hi
      rw [Array.getD_eq_getD_getElem?, Array.getElem?_eq_getElem (show i < listed.size by omega), Option.getD_some] at h1 h2
      rw [h1] at h2; cases h2
  | succ fuel ih =>
    intro listed a w μ r hsz hf J
    refine ⟨fun hnil => fin listed a w μ r J (nothing listed hsz hnil), fun i hi => ?_⟩
    obtain ⟨h1, o, ho, hrd⟩ := ready_spec (ops := ops) hi
    have hlt := (Array.getElem?_eq_some_iff.1 ho).1
    have hLi : listed.getD i false = false := by
      rw [Array.getD_eq_getD_getElem?, Array.getElem?_eq_getElem (show i < listed.size by omega), Option.getD_some] at h1 ⊢
      exact h1
    have hmore : more (fun j => listed.getD j false) i = fun j => (listed.setIfInBounds i true).getD j false := by
      funext j
      simp only [more]
      by_cases hj : j = i
      · subst hj
        simp [Array.getD_eq_getD_getElem?, show j < listed.size by omega]
      · simp [Array.getD_eq_getD_getElem?, Array.getElem?_setIfInBounds_ne (Ne.symm hj), hj]
    refine J.step D T0 H0 h0 ho hLi hrd fun a' w' μ' r' J' => ih _ a' w' μ' r' (by simpa using hsz) ?_ (hmore ▸ J')
    have hsub : ((List.range ops.size).filter fun j => !(listed.setIfInBounds i true).getD j false) = ((List.range ops.size).filter fun j => !listed.getD j false).filter (fun j => !(j == i)) := by
      rw [List.filter_filter]
      congr 1
      funext j
      have := congrFun hmore j
      simp only [more] at this
      rw [← this]
      cases listed.getD j false <;> cases (j == i) <;> rfl
    rw [hsub]
    have hmem : i ∈ (List.range ops.size).filter fun j => !listed.getD j false := List.mem_filter.2 ⟨List.mem_range.2 hlt, by rw [hLi]; rfl⟩
    have := List.length_filter_lt_length_iff_exists (p := fun j => !(j == i)).2 ⟨i, hmem, by simp⟩
    omega

/-- A region that draws its order. -/
theorem draw_sound (hmx : P.follows .mixedOrders = true) (D : Drawn P G ops n fl isW S) {a0 : Act} (T0 : TR n μ0 (S 0).2 (S 0).1 a0) (H0 : HR G μ0 fl (S 0).2 w0) (h0 : fl ≤ (S 0).2.next) {id : Nat} {Q : Exit → Act → World → Prop}
    (hQ : ∀ μ' a' w', TR n μ' (S ops.size).2 (S ops.size).1 a' → HR G μ' fl (S ops.size).2 w' → Trans fl μ0 (S 0).2 w0 μ' (S ops.size).2 w' → Q .normal a' w') :
    (Code.region id ops true).wp P Q a0 w0 := by
  let w1 : World := { w0 with drawn := w0.drawn + 1 }
  have H1 : HR G μ0 fl (S 0).2 w1 := H0.of_heap rfl
  have T1 : Trans fl μ0 (S 0).2 w0 μ0 (S 0).2 w1 := Trans.of_heap fl μ0 _ rfl rfl rfl rfl
  obtain ⟨r, q1, q2, q3, q4⟩ := next_w ops isW ops.size 0 (by omega)
  have hsub := D.sub T0 H0 h0 0 r q1 q2 q3
  obtain ⟨⟨_, _, _, _, Hr⟩, _⟩ := D.facts T0 H0 h0 r q2
  have hall : ∀ j, (Array.replicate ops.size false).getD j false = false := fun j => by
    rw [Array.getD_eq_getD_getElem?]
    by_cases h : j < ops.size <;> simp [h]
  have E : Ext μ0 (S 0).2 (μ0.cut (S 0).2.next) (S r).2 := hsub.ext fun id hi p hp => by rw [Mu.cut_lt _ hi]; exact hp
  refine wp_region_any hmx (draw_any (w0 := w1) D T0 H1 h0 (fun μ' a' w' h1 h2 h3 => hQ μ' a' w' h1 h2 (T1.trans h3)) ops.size (Array.replicate ops.size false) a0 w1 (μ0.cut (S 0).2.next) r (by simp) ?_ ?_)
  · exact Nat.le_trans (List.length_filter_le _ _) (by simp)
  · have hN : ∀ j, (fun j => (Array.replicate ops.size false).getD j false) j = false := hall
    refine ⟨fun j o _ h => ?_, q2, fun j o a1 a2 a3 => ?_, fun h => ⟨hall r, q4 h⟩, H1.low.up (Mu.cut_low _ _) hsub Hr.wf Hr.refs Hr.orefs, fun id hid => Mu.cut_low _ _ id (by have := hsub.next; omega), fun j a1 _ id b1 b2 => ?_, T0.size, T0.defers,
      fun t _ v hv => (T0.tmp t v hv).mono E, fun t j o _ h => ?_, (Trans.refl fl μ0 (S 0).2 w1).cutUp h0 hsub⟩
    · simp only [hall] at h; cases h
    · have := q3 j (Nat.zero_le _) a1 o a2; rw [a3] at this; cases this
    · have := D.nextLe T0 H0 h0 0 j (Nat.zero_le _) (by omega)
      exact Mu.cut_low _ _ id (by omega)
    · simp only [hall] at h; cases h

end
end Go.Proofs.Ytiiapkhdjchhjaa.Ab

/- Code of the abstract machine, and its soundness; what a function's call comes to. -/
namespace Go.Proofs.Ytiiapkhdjchhjaa.Ab
open Go.RowKit
set_option linter.unusedVariables false
set_option linter.unusedSimpArgs false

/-! what the text of a drawn region is asked -/
def maskOf (acc : List Nat) (o : Oper) : Nat := o.after.toList.foldl (fun s e => if Region.binds .any e then s ||| 2 ^ e.on ||| acc.getD e.on 0 else s) 0
def masksGo : List Oper → List Nat → List Nat
  | [], acc => acc
  | o :: os, acc => masksGo os (acc ++ [maskOf acc o])

/-- Does it write? 'cw': calls count as writes. -/
def isWr (cw : Bool) (o : Oper) : Bool :=
  match o.op with
  | .store .. | .mapUpdate .. | .insert .. => true
  | .call c => match c.callee with
    | .builtin .append => true
    | .builtin .clear => true
    | .builtin .delete => true
    | .value _ => cw
    | _ => false
  | _ => false

def okPair (P : Program) (cw : Bool) (lo : Nat → Nat → Oper → Oper → Bool) (ops : Array Oper) (m : List Nat) (i j : Nat) (x y : Oper) : Bool :=
  (x.apart ops y || (m.getD j 0).testBit i) && (!(!pureOp P x.op && !pureOp P y.op && (isWr cw x || isWr cw y)) || (m.getD j 0).testBit i || lo i j x y)
def okPairs (P : Program) (cw : Bool) (lo : Nat → Nat → Oper → Oper → Bool) (ops : Array Oper) (m : List Nat) : List Oper → Nat → Bool
  | [], _ => true
  | y :: ys, j => ((List.range j).all fun i => match ops[i]? with | some x => okPair P cw lo ops m i j x y | none => true) && y.after.toList.all (fun e => !Region.binds .any e || e.on < j) && okPairs P cw lo ops m ys (j + 1)
def noLo : Nat → Nat → Oper → Oper → Bool := fun _ _ _ _ => false
def okRegion (P : Program) (cw : Bool) (ops : Array Oper) : Bool := okPairs P cw noLo ops (masksGo ops.toList []) ops.toList 0

/-! slots that hold nothing but blocks of their own -/
def abOps (ops : List Oper) : List Nat := ops.filterMap fun o => if isAB o then o.dst else none
def abT : Code → List Nat
  | .region _ ops _ => abOps ops.toList
  | .seq a b => abT a ++ abT b
  | .cond _ a b => abT a ++ abT b
  | .block _ c => abT c
  | .loop c => abT c
  | _ => []
def onlyAB (env : List Nat) (o : Oper) : Bool := match o.dst with | some d => !env.contains d || isAB o | none => true
def noDst (ops : List Oper) (t : Nat) : Bool := ops.all fun o => o.dst != some t
def dstIs (ops : List Oper) (t k : Nat) : Bool := match ops[k]? with | some o => o.dst == some t | none => false
/-- The slot of env whose block an operand's address is in. -/
def rootOf (env : List Nat) (ops : List Oper) : Nat → Nat → Operand → Option Nat
  | f + 1, i, .tmp t =>
    if env.contains t = true then some t else
      match (List.range i).find? (dstIs ops t) with
      | none => none
      | some k => if ((List.range ops.length).all fun k' => k' == k || !dstIs ops t k') = true then ((ops[k]?).bind rootOp).bind fun y => (rootOf env ops f k y).bind fun r => if noDst ops r = true then some r else none else none
  | _, _, _ => none
/-- A load and a later store in blocks of their own. -/
def looseP (env : List Nat) (ops : List Oper) (i j : Nat) (x y : Oper) : Bool :=
  match isLd x, isSt y with
  | some xl, some xs => match rootOf env ops 4 i xl, rootOf env ops 4 j xs with
    | some a, some b => a != b && noDst ops a
    | _, _ => false
  | _, _ => false
def okRegionL (P : Program) (env : List Nat) (ops : Array Oper) : Bool := okPairs P true (looseP env ops.toList) ops (masksGo ops.toList []) ops.toList 0

section
variable {P : Program} {G : Gl}

theorem maskOf_spec (acc : List Nat) (o : Oper) (i : Nat) (h : (maskOf acc o).testBit i = true) : ∃ e ∈ o.after, Region.binds .any e = true ∧ (e.on = i ∨ (acc.getD e.on 0).testBit i = true) := by
  have go : ∀ (l : List Edge) (s : Nat), (l.foldl (fun s e => if Region.binds .any e then s ||| 2 ^ e.on ||| acc.getD e.on 0 else s) s).testBit i = true →
      s.testBit i = true ∨ ∃ e ∈ l, Region.binds .any e = true ∧ (e.on = i ∨ (acc.getD e.on 0).testBit i = true) := by
    intro l
    induction l with
    | nil => intro s h; exact .inl h
    | cons e l ih =>
      intro s h
      simp only [List.foldl_cons] at h
      rcases ih _ h with h | ⟨e', h1, h2⟩
      · split at h
        · rename_i hb
          simp only [Nat.testBit_or, Bool.or_eq_true] at h
          rcases h with (h | h) | h
          · exact .inl h
          · refine .inr ⟨e, by simp, hb, .inl ?_⟩
            rw [Nat.testBit_two_pow] at h
            simpa using h
          · exact .inr ⟨e, by simp, hb, .inr h⟩
        · exact .inl h
      · exact .inr ⟨e', by simp [h1], h2⟩
  rcases go _ _ h with h | ⟨e, h1, h2⟩
  · simp at h
  · exact ⟨e, by simpa using h1, h2⟩

theorem masks_ord (ops : Array Oper) : ∀ (os : List Oper) (acc : List Nat), (∀ (k : Nat) (o : Oper), os[k]? = some o → ops[acc.length + k]? = some o) →
    (∀ j i, j < acc.length → (acc.getD j 0).testBit i = true → Ord ops i j) → ∀ j i, ((masksGo os acc).getD j 0).testBit i = true → Ord ops i j
  | [], acc, _, hacc, j, i, h => by
    rcases Nat.lt_or_ge j acc.length with hj | hj
    · exact hacc j i hj h
    · simp only [masksGo] at h
      rw [List.getD_eq_getElem?_getD, List.getElem?_eq_none hj] at h
      simp at h
  | o :: os, acc, hos, hacc, j, i, h => by
    refine masks_ord ops os (acc ++ [maskOf acc o]) (fun k o' hk => ?_) (fun j' i' hj' h' => ?_) j i h
    · have := hos (k + 1) o' (by simpa using hk)
      rw [List.length_append, List.length_singleton]
      rwa [show acc.length + (k + 1) = acc.length + 1 + k by omega] at this
    · simp only [List.length_append, List.length_singleton] at hj'
      by_cases hlt : j' < acc.length
      · rw [List.getD_eq_getElem?_getD, List.getElem?_append_left hlt, ← List.getD_eq_getElem?_getD] at h'
        exact hacc j' i' hlt h'
      · have hje : j' = acc.length := by omega
        subst hje
        rw [List.getD_eq_getElem?_getD, List.getElem?_append_right (Nat.le_refl _)] at h'
        simp only [Nat.sub_self, List.getElem?_cons_zero, Option.getD_some] at h'
        obtain ⟨e, he, hb, hh⟩ := maskOf_spec acc o i' h'
        intro L hC hL
        have ho := hos 0 o (by simp)
        simp only [Nat.add_zero] at ho
        have hLe := hC _ o ho hL e he hb
        rcases hh with rfl | hh
        · exact hLe
        · have hel : e.on < acc.length := by
            rcases Nat.lt_or_ge e.on acc.length with h | h
            · exact h
            · rw [List.getD_eq_getElem?_getD, List.getElem?_eq_none h] at hh; simp at hh
          exact hacc e.on i' hel hh L hC hLe

theorem okPairs_spec {cw : Bool} {lo : Nat → Nat → Oper → Oper → Bool} {ops : Array Oper} {m : List Nat} : ∀ (ys : List Oper) (k : Nat), okPairs P cw lo ops m ys k = true → ∀ (d : Nat) (y : Oper), ys[d]? = some y →
    (∀ (i : Nat) (x : Oper), i < k + d → ops[i]? = some x → okPair P cw lo ops m i (k + d) x y = true) ∧ ∀ e ∈ y.after, Region.binds .any e = true → e.on < k + d
  | [], k, h, d, y, hy => by simp at hy
  | z :: zs, k, h, d, y, hy => by
    simp only [okPairs, Bool.and_eq_true] at h
    obtain ⟨⟨h1, h2⟩, h3⟩ := h
    cases d with
    | zero =>
      simp only [List.getElem?_cons_zero, Option.some.injEq] at hy
      subst hy
      refine ⟨fun i x hi hx => ?_, fun e he hb => ?_⟩
      · have := List.all_eq_true.1 h1 i (List.mem_range.2 (by omega))
        simp only [hx] at this
        exact this
      · have := List.all_eq_true.1 h2 e (by simpa using he)
        simpa [hb] using this
    | succ d =>
      have := okPairs_spec zs (k + 1) h3 d y (by simpa using hy)
      rwa [show k + 1 + d = k + (d + 1) by omega] at this

theorem okGen_spec {cw : Bool} {lo : Nat → Nat → Oper → Oper → Bool} {ops : Array Oper} (h : okPairs P cw lo ops (masksGo ops.toList []) ops.toList 0 = true) :
    (∀ (i : Nat) (o : Oper), ops[i]? = some o → ∀ e ∈ o.after, Region.binds .any e = true → e.on < i) ∧
    (∀ (i j : Nat) (x y : Oper), i < j → ops[i]? = some x → ops[j]? = some y → x.apart ops y = false → Ord ops i j) ∧
    (∀ (i j : Nat) (x y : Oper), i < j → ops[i]? = some x → ops[j]? = some y → (isWr cw x || isWr cw y) = true → pureOp P x.op = false → pureOp P y.op = false → Ord ops i j ∨ lo i j x y = true) := by
  have ord : ∀ j i, ((masksGo ops.toList []).getD j 0).testBit i = true → Ord ops i j := masks_ord ops ops.toList [] (fun k o hk => by simpa using hk) (fun j i hj => by simp at hj)
  have sp := fun (d : Nat) (y : Oper) (hy : ops[d]? = some y) => okPairs_spec ops.toList 0 h d y (by simpa using hy)
  refine ⟨fun i o ho e he hb => ?_, fun i j x y hij hx hy hap => ?_, fun i j x y hij hx hy hw hpx hpy => ?_⟩
  · have := (sp i o ho).2 e he hb; omega
  · have := (sp j y hy).1 i x (by omega) hx
    simp only [okPair, hap, Bool.false_or, Bool.and_eq_true, Nat.zero_add] at this
    exact ord j i this.1
  · have := (sp j y hy).1 i x (by omega) hx
    simp only [okPair, hw, hpx, hpy, Bool.not_false, Bool.and_true, Bool.not_true, Bool.false_or, Bool.and_eq_true, Nat.zero_add, Bool.or_eq_true] at this
    rcases this.2 with h' | h'
    · exact .inl (ord j i h')
    · exact .inr h'

/-- A load and a writer. -/
def lowP (_ _ : Nat) (x y : Oper) : Bool := ((isLd x).isSome && isWr true y) || (isWr true x && (isLd y).isSome)
def okRegionW (P : Program) (ops : Array Oper) : Bool := okPairs P true lowP ops (masksGo ops.toList []) ops.toList 0
theorem isLd_wr {o : Oper} {x : Operand} (h : isLd o = some x) : isWr true o = false := by
  cases ho : o.op <;> simp [isLd, ho] at h <;> simp [isWr, ho]

theorem isWr_pure {cw : Bool} {o : Oper} (h : isWr cw o = true) : pureOp P o.op = false := by
  unfold isWr at h
  cases ho : o.op <;> simp only [ho] at h <;> first | rfl | cases h

/-! code -/
def okCodeE (P : Program) (env : List Nat) (n : Nat) : Code → Bool
  | .skip | .exit _ | .ret => true
  | .region id ops draw => (ops.toList.all (okOper n) && ops.toList.all (onlyAB env)) && (if 1000000 ≤ id then draw && ((decide (2000000 ≤ id) || okRegionW P ops) && ops.toList.all fun o => !isNextO o.op) else !draw || ((okRegion P false ops || okRegion P true ops || okRegionL P env ops) && ops.toList.all fun o => !isNextO o.op))
  | .seq a b => okCodeE P env n a && okCodeE P env n b
  | .cond c a b => okOperand c && okCodeE P env n a && okCodeE P env n b
  | .block _ c => okCodeE P env n c
  | .loop c => okCodeE P env n c
  | _ => false
def okCode (P : Program) (n : Nat) (c : Code) : Bool := okCodeE P (abT c) n c
/-- The parameters are none of the slots that hold blocks of their own. -/
def okArgs0 (c : Code) (n k : Nat) : Bool := decide (k ≤ n) && (abT c).all fun t => decide (k ≤ t)
/-- No region is marked. -/
def plainC : Code → Bool
  | .region id _ _ => decide (id < 1000000)
  | .seq a b => plainC a && plainC b
  | .cond _ a b => plainC a && plainC b
  | .block _ c => plainC c
  | .loop c => plainC c
  | _ => true
/-- The code without marks. -/
def unmark : Code → Code
  | .region id ops draw => .region (if 1000000 ≤ id then (if 2000000 ≤ id then id - 2000000 else id - 1000000) else id) ops draw
  | .seq a b => .seq (unmark a) (unmark b)
  | .cond c a b => .cond c (unmark a) (unmark b)
  | .block i c => .block i (unmark c)
  | .loop c => .loop (unmark c)
  | c => c
/-- The regions of these numbers are marked: they run with loads below the floor of their writers. -/
def markC (ids : List Nat) : Code → Code
  | .region id ops draw => .region (if ids.contains id then id + 1000000 else id) ops draw
  | .seq a b => .seq (markC ids a) (markC ids b)
  | .cond c a b => .cond c (markC ids a) (markC ids b)
  | .block i c => .block i (markC ids c)
  | .loop c => .loop (markC ids c)
  | c => c
/-- The regions of these numbers are marked: they run in every order. -/
def markA (ids : List Nat) : Code → Code
  | .region id ops draw => .region (if ids.contains id then id + 2000000 else id) ops draw
  | .seq a b => .seq (markA ids a) (markA ids b)
  | .cond c a b => .cond c (markA ids a) (markA ids b)
  | .block i c => .block i (markA ids c)
  | .loop c => .loop (markA ids c)
  | c => c
/-- All orders of a region, as a tree. -/
inductive OT where
  | leaf : OT
  | one : Nat → OT → OT
  | both : Nat → OT → OT → OT
def OT.chk (ops : Array Oper) : OT → Nat → List Nat → Array Bool → Bool
  | .leaf, _, rs, _ => rs.isEmpty
  | .one i s, f + 1, rs, L => rs == [i] && s.chk ops f (Region.ready .any ops (L.setIfInBounds i true)) (L.setIfInBounds i true)
  | .both i s r, f + 1, rs, L => (match rs with | [] => false | j :: js => j == i && r.chk ops (f + 1) js L) && s.chk ops f (Region.ready .any ops (L.setIfInBounds i true)) (L.setIfInBounds i true)
  | _, 0, _, _ => false
theorem unmark_plain {c : Code} (h : plainC c = true) : unmark c = c := by
  induction c with
  | region id ops draw =>
    have := of_decide_eq_true h
    simp only [unmark, if_neg (show ¬ 1000000 ≤ id by omega)]
  | seq a b iha ihb =>
    simp only [plainC, Bool.and_eq_true] at h
    simp only [unmark, iha h.1, ihb h.2]
  | cond c a b iha ihb =>
    simp only [plainC, Bool.and_eq_true] at h
    simp only [unmark, iha h.1, ihb h.2]
  | block i c ih =>
    simp only [plainC] at h
    simp only [unmark, ih h]
  | loop c ih =>
    simp only [plainC] at h
    simp only [unmark, ih h]
  | _ => rfl
def okArgs (c : Code) (n k : Nat) : Bool := plainC c && okArgs0 c n k

/-- Slots that hold blocks of their own, each another. -/
structure Inv (env : List Nat) (τ : Tm) (A : Hp) : Prop where
  is : ∀ t ∈ env, ∀ v, τ t = some v → v = Go.undef ∨ ∃ id, v = .pointer (some ⟨id, 0, some 0⟩) ∧ id < A.next
  ne : ∀ s ∈ env, ∀ t ∈ env, s ≠ t → ∀ a b, τ s = some (.pointer (some ⟨a, 0, some 0⟩)) → τ t = some (.pointer (some ⟨b, 0, some 0⟩)) → a ≠ b

def setb (τ : Tm) (c : Operand) (b : Bool) : Tm := match c with | .tmp t => upd τ t (.bool b) | _ => τ
def keep (ks : List Nat) (τ : Tm) : Tm := fun t => if t ∈ ks then τ t else none
/-- The floors of a region's operations. -/
def floOf (P : Program) (fl : Nat) (ops : Array Oper) (draw : Bool) : Oper → Hp → Nat := fun o A => if draw && !isWr (!okRegion P false ops) o then A.next else fl

def Hp.trunc (A : Hp) (n : Nat) : Hp := ⟨n, fun id => if id < n then A.blk id else none⟩

/-- A heap told more briefly: as it is, or without the blocks that are new since A0. -/
def Weak (A0 : Hp) (τ : Tm) (A B : Hp) : Prop :=
  B = A ∨ (B = A.trunc A0.next ∧ (∀ id, id < A0.next → ∀ k, A.blk id = some k → A0.blk id = some k ∨ k.RBa A0.next) ∧ ∀ t v, τ t = some v → RB A0.next v)

/-- What follows a round of a loop with as many rounds left as the list has elements; f is the loop's body. -/
def unrF (f : Tm → Hp → (Exit → Tm → Hp → Prop) → Prop) (K : Exit → Tm → Hp → Prop) : List Unit → Exit → Tm → Hp → Prop
  | [], e, τ, A => match e with | .normal => False | e => K e τ A
  | _ :: l, e, τ, A => match e with | .normal => f τ A (unrF f K l) | e => K e τ A

variable (P G) in
/-- A drawn region whose loads are below the floor of its writers. -/
def aopsL (m : Nat) : List Oper → Tm → Hp → (Tm → Hp → Prop) → Prop
  | [], τ, A, K => K τ A
  | o :: os, τ, A, K => o.guard = none ∧ (∀ x, isLd o = some x → ∃ p, ev τ x = some (.pointer (some p)) ∧ p.block < m) ∧ aop P G (if isWr true o then m else A.next) o τ A fun v A' => aopsL m os (updO τ o.dst v) A' K
variable (P G) in
def lowRun (fl : Nat) (ops : List Oper) (τ : Tm) (A : Hp) (K : Tm → Hp → Prop) : Prop := aopsL P G fl ops τ A K ∨ aopsL P G A.next ops τ A K
theorem aopsL_trace {m : Nat} {ops : List Oper} {K : Tm → Hp → Prop} : ∀ (os : List Oper) (τ : Tm) (A : Hp), (∀ o ∈ os, isNextO o.op = false) → aopsL P G m os τ A K →
    ∃ S : Nat → Tm × Hp, S 0 = (τ, A) ∧ K (S os.length).1 (S os.length).2 ∧ ∀ (i : Nat) (o : Oper), os[i]? = some o → StepAt P G ops (if isWr true o then m else (S i).2.next) o (S i) (S (i + 1)) ∧ ∀ x, isLd o = some x → ∃ p, ev (S i).1 x = some (.pointer (some p)) ∧ p.block < m
  | [], τ, A, _, h => ⟨fun _ => (τ, A), rfl, h, fun i o hi => by simp at hi⟩
  | o :: os, τ, A, hno, ⟨hg, hl, h⟩ => by
    obtain ⟨v, A', h', hO, hp, hkn⟩ := aop_known (hno o (by simp)) h
    obtain ⟨S, h0, hK, hst⟩ := aopsL_trace (ops := ops) os _ A' (fun x hx => hno x (by simp [hx])) h'
    refine ⟨fun k => match k with | 0 => (τ, A) | k + 1 => S k, rfl, hK, fun i o' hi => ?_⟩
    cases i with
    | zero =>
      simp only [List.getElem?_cons_zero, Option.some.injEq] at hi
      subst hi
      simp only [h0]
      exact ⟨.inl ⟨fun j want hj => (by rw [hg] at hj; cases hj), v, hO, ⟨hp, hkn⟩, rfl⟩, hl⟩
    | succ i => exact hst i o' (by simpa using hi)

variable (P G) in
/-- A drawn region, in every order. -/
def anyRun (fl : Nat) (ops : Array Oper) : OT → Tm → Hp → (Tm → Hp → Prop) → Prop
  | .leaf, τ, A, K => K τ A
  | .one i s, τ, A, K => ∃ o, ops[i]? = some o ∧ o.guard = none ∧ aop P G fl o τ A fun v A' => anyRun fl ops s (updO τ o.dst v) A' K
  | .both i s r, τ, A, K => (∃ o, ops[i]? = some o ∧ o.guard = none ∧ aop P G fl o τ A fun v A' => anyRun fl ops s (updO τ o.dst v) A' K) ∧ anyRun fl ops r τ A K
variable (P G) in
def anyOrd (fl : Nat) (ops : Array Oper) (τ : Tm) (A : Hp) (K : Tm → Hp → Prop) : Prop := ∃ T : OT, T.chk ops ops.size (Region.ready .any ops (Array.replicate ops.size false)) (Array.replicate ops.size false) = true ∧ anyRun P G fl ops T τ A K

variable (P G) in
def acode (fl : Nat) : Code → Tm → Hp → (Exit → Tm → Hp → Prop) → Prop
  | .skip, τ, A, K => K .normal τ A
  | .exit id, τ, A, K => K (.exit id) τ A
  | .ret, τ, A, K => K .ret τ A
  | .region id ops draw, τ, A, K => if 1000000 ≤ id then (if 2000000 ≤ id then anyOrd P G fl ops τ A (K .normal) else lowRun P G fl ops.toList τ A (K .normal)) else aops P G (floOf P fl ops draw) ops.toList ops.toList τ A (K .normal)
  | .seq a b, τ, A, K => acode fl a τ A fun e τ A => match e with | .normal => acode fl b τ A K | e => K e τ A
  | .cond c x y, τ, A, K => ∃ b, ev τ c = some (.bool b) ∧ (b = true → acode fl x (setb τ c true) A K) ∧ (b = false → acode fl y (setb τ c false) A K)
  | .block id c, τ, A, K => acode fl c τ A fun e τ A => match e with | .exit i => if i = id then K .normal τ A else K (.exit i) τ A | e => K e τ A
  | .loop c, τ, A, K => (∃ (I : Tm → Hp → Prop) (m : Tm → Hp → Nat), I τ A ∧ ∀ τ A, I τ A → acode fl c τ A fun e τ' A' => match e with
      | .normal => ∃ σ B, (∀ t v, σ t = some v → τ' t = some v) ∧ Weak A σ A' B ∧ I σ B ∧ m σ B < m τ A
      | e => K e τ' A') ∨ ∃ l, acode fl c τ A (unrF (acode fl c) K l)
  | _, _, _, _ => False

theorem Trans.forget {fl n : Nat} {μ μ' : Mu} {A A' B : Hp} {w w' : World} {τ : Tm} {a : Act} (H0 : HR G μ fl A w) (hfl : fl ≤ A.next) (T : Trans fl μ A w μ' A' w') (H : HR G μ' fl A' w') (hτ : TR n μ' A' τ a) (hw : Weak A τ A' B) :
    ∃ ν, HR G ν fl B w' ∧ TR n ν B τ a ∧ Trans fl μ A w ν B w' := by
  rcases hw with rfl | ⟨rfl, hc, ht⟩
  · exact ⟨μ', H, hτ, T⟩
  · have hn := T.ext.next
    have hrb : ∀ id, id < A.next → ∀ cs g e, A'.blk id = some (.row cs g e) → ∀ v ∈ cs, RB A.next v := fun id hid cs g e hb v hv => by
      rcases hc id hid _ hb with h | h
      · exact H0.refs id cs g e h v hv
      · exact h v hv
    have hro : ∀ id, id < A.next → ∀ k, A'.blk id = some k → k.RBs A.next := fun id hid k hb => by
      rcases hc id hid _ hb with h | h
      · exact H0.orefs id k h
      · cases k <;> first | trivial | exact h
    have hblk : ∀ id, id < A.next → (A'.trunc A.next).blk id = A'.blk id := fun id h => by simp only [Hp.trunc, if_pos h]
    have hsub : Sub (A'.trunc A.next) A' := ⟨hn, fun id hid => (hblk id hid).symm⟩
    have hrefs : ∀ id cs g e, (A'.trunc A.next).blk id = some (.row cs g e) → ∀ v ∈ cs, RB (A'.trunc A.next).next v := fun id cs g e hb => by
      by_cases h : id < A.next
      · rw [hblk id h] at hb; exact hrb id h cs g e hb
      · simp only [Hp.trunc, if_neg h] at hb; cases hb
    have horefs : ∀ id k, (A'.trunc A.next).blk id = some k → k.RBs (A'.trunc A.next).next := fun id k hb => by
      by_cases h : id < A.next
      · rw [hblk id h] at hb; exact hro id h k hb
      · simp only [Hp.trunc, if_neg h] at hb; cases hb
    refine ⟨μ'.cut A.next, H.down hsub (fun id hid => by simp only [Hp.trunc, if_neg (show ¬ id < A.next from fun h => by simp only [Hp.trunc] at hid; omega)]) hrefs horefs, ⟨hτ.size, hτ.defers, fun t v hv => ?_⟩, ?_⟩
    · exact (hτ.tmp t v hv).down (B := A'.trunc A.next) (fun id hid => hsub.blk id hid) (fun id hid => Mu.cut_lt _ hid) (ht t v hv)
    · refine ⟨T.os, T.tape, T.output, T.size, ⟨Nat.le_refl _, fun id hid cs g e hb => ?_, fun id hid k hb ho => ?_⟩, fun id hid => ?_, fun id hid hm => ?_, T.frame, fun b ⟨id, o, S, hf, hb, hm⟩ => ?_⟩
      · rw [hblk id hid] at hb
        obtain ⟨c0, g0, e0, h1, h2⟩ := T.ext.row id hid cs g e hb
        refine ⟨c0, g0, e0, h1, ?_⟩
        rcases h2 with ⟨h3, h4, h5⟩ | h2
        · exact .inl ⟨h3, h4, fun p hp => by rw [Mu.cut_lt _ hid]; exact h5 p hp⟩
        · exact .inr h2
      · rw [hblk id hid] at hb
        obtain ⟨h1, h2⟩ := T.ext.obj id hid k hb ho
        exact ⟨h1, fun p hp => by rw [Mu.cut_lt _ hid]; exact h2 p hp⟩
      · rw [hblk id (by omega), Mu.cut_lt _ (by omega)]; exact T.low id hid
      · rw [Mu.cut_lt _ hid]; exact T.dom id hid hm
      · by_cases h : id < A.next
        · rw [hblk id h] at hb; rw [Mu.cut_lt _ h] at hm
          exact T.own b ⟨id, o, S, hf, hb, hm⟩
        · rw [Mu.cut_low _ _ id (by omega)] at hm; cases hm

theorem TR.keep {n : Nat} {μ : Mu} {A : Hp} {τ σ : Tm} {a : Act} (h : TR n μ A τ a) (hs : ∀ t v, σ t = some v → τ t = some v) : TR n μ A σ a :=
  ⟨h.size, h.defers, fun t v hv => h.tmp t v (hs t v hv)⟩

theorem TR.setb {n : Nat} {μ : Mu} {A : Hp} {τ : Tm} {a : Act} (h : TR n μ A τ a) {c : Operand} {b : Bool} (hc : ev τ c = some (.bool b)) : TR n μ A (setb τ c b) a := by
  cases c with
  | tmp t =>
    have : Ab.setb τ (.tmp t) b = τ := upd_same hc
    rw [this]; exact h
  | _ => exact h

theorem setb_same {τ : Tm} {c : Operand} {b : Bool} (h : ev τ c = some (.bool b)) : setb τ c b = τ := by
  cases c with
  | tmp t => exact upd_same h
  | _ => rfl

theorem Inv.step {env : List Nat} {ops : List Oper} {f : Nat} {o : Oper} {S S' : Tm × Hp} (I : Inv env S.1 S.2) (hs : StepAt P G ops f o S S') (ho : onlyAB env o = true) (hn : S.2.next ≤ S'.2.next) : Inv env S'.1 S'.2 := by
  have lift : ∀ t ∈ env, ∀ v, S.1 t = some v → v = Go.undef ∨ ∃ id, v = .pointer (some ⟨id, 0, some 0⟩) ∧ id < S'.2.next := fun t ht v hv => by
    rcases I.is t ht v hv with h | ⟨id, h, hlt⟩
    · exact .inl h
    · exact .inr ⟨id, h, by omega⟩
  have key : ∀ v, S'.1 = updO S.1 o.dst v → (∀ d, o.dst = some d → d ∈ env → v = Go.undef ∨ (v = .pointer (some ⟨S.2.next, 0, some 0⟩) ∧ S.2.next < S'.2.next)) → Inv env S'.1 S'.2 := by
    intro v hv hd
    have get : ∀ t, S'.1 t = if o.dst = some t then some v else S.1 t := fun t => by
      rw [hv]
      cases o.dst with
      | none => simp [updO]
      | some d =>
        simp only [updO, upd, Option.some.injEq]
        by_cases h : t = d
        · rw [if_pos h, if_pos h.symm]
        · rw [if_neg h, if_neg (fun e => h e.symm)]
    refine ⟨fun t ht u hu => ?_, fun s hs t ht hst a b ha hb => ?_⟩
    · rw [get] at hu
      split at hu
      · rename_i h
        cases hu
        rcases hd t h ht with h' | ⟨h', hlt⟩
        · exact .inl h'
        · exact .inr ⟨_, h', hlt⟩
      · exact lift t ht u hu
    · rw [get] at ha hb
      split at ha
      · rename_i h1
        rw [if_neg (fun h2 => hst (Option.some.inj (h1.symm.trans h2)))] at hb
        cases ha
        rcases hd s h1 hs with h' | ⟨h', hlt⟩
        · cases h'
        · cases h'
          rcases I.is t ht _ hb with h | ⟨id, h, hlt⟩
          · cases h
          · cases h; omega
      · split at hb
        · rename_i h1
          cases hb
          rcases hd t h1 ht with h' | ⟨h', hlt⟩
          · cases h'
          · cases h'
            rcases I.is s hs _ ha with h | ⟨id, h, hlt⟩
            · cases h
            · cases h; omega
        · exact I.ne s hs t ht hst a b ha hb
  rcases hs with ⟨_, v, _, hk, h⟩ | ⟨_, hh, h⟩
  · refine key v h fun d hd hde => .inr ?_
    have hab : isAB o = true := by
      simp only [onlyAB, hd, Bool.or_eq_true, Bool.not_eq_true'] at ho
      rcases ho with ho | ho
      · rw [List.contains_iff_mem.2 hde] at ho; cases ho
      · exact ho
    obtain ⟨h1, h2⟩ := hk.2.fresh hab
    exact ⟨h1, by omega⟩
  · exact key _ h fun d hd hde => .inl rfl

section
variable {env : List Nat} {ops : Array Oper} {S : Nat → Tm × Hp} {F : Nat → Oper → Nat} {n fl : Nat}

theorem trace_inv (hops : ∀ (i : Nat) (o : Oper), ops[i]? = some o → okOper n o = true) (hab : ∀ (i : Nat) (o : Oper), ops[i]? = some o → onlyAB env o = true)
    (hst : ∀ (i : Nat) (o : Oper), ops[i]? = some o → StepAt P G ops.toList (F i o) o (S i) (S (i + 1))) (hF : ∀ i o, F i o = fl ∨ F i o = (S i).2.next)
    {μ0 : Mu} {a0 : Act} {w0 : World} (T0 : TR n μ0 (S 0).2 (S 0).1 a0) (H0 : HR G μ0 fl (S 0).2 w0) (h0 : fl ≤ (S 0).2.next) (I0 : Inv env (S 0).1 (S 0).2) :
    ∀ i, i ≤ ops.size → (∃ μ a w, TR n μ (S i).2 (S i).1 a ∧ HR G μ fl (S i).2 w) ∧ fl ≤ (S i).2.next ∧ Inv env (S i).1 (S i).2 := by
  intro i
  induction i with
  | zero => exact fun _ => ⟨⟨μ0, a0, w0, T0, H0⟩, h0, I0⟩
  | succ i ih =>
    intro hi
    obtain ⟨⟨μ, a, w, Ti, Hi⟩, hfl, Ii⟩ := ih (by omega)
    have ho := Array.getElem?_eq_getElem (show i < ops.size by omega)
    obtain ⟨μ', a', w', T', H', hn, _⟩ := (hst i _ ho).next (fl := fl) ho (hops i _ ho) (hF i _) Ti Hi hfl
    exact ⟨⟨μ', a', w', T', H'⟩, by omega, Ii.step (hst i _ ho) (hab i _ ho) hn⟩

theorem trace_stable (hst : ∀ (i : Nat) (o : Oper), ops[i]? = some o → StepAt P G ops.toList (F i o) o (S i) (S (i + 1))) (t j : Nat) : ∀ k, j ≤ k → k ≤ ops.size → (∀ j', j ≤ j' → j' < k → ∀ o, ops[j']? = some o → o.dst ≠ some t) → (S k).1 t = (S j).1 t := by
  intro k
  induction k with
  | zero => intro h _ _; rw [show j = 0 by omega]
  | succ k ih =>
    intro h1 h2 h3
    by_cases hj : j = k + 1
    · rw [hj]
    · rw [← ih (by omega) (by omega) fun j' a b => h3 j' a (by omega)]
      have hk : k < ops.size := by omega
      exact step_dst (hst k _ (Array.getElem?_eq_getElem hk)) (h3 k (by omega) (by omega) _ (Array.getElem?_eq_getElem hk))

theorem no_dst {t : Nat} (h : noDst ops.toList t = true) : ∀ (j : Nat) (o : Oper), ops[j]? = some o → o.dst ≠ some t := fun j o ho hd => by
  have := List.all_eq_true.1 h o (by simpa using Array.mem_of_getElem? ho)
  rw [hd] at this; simp at this
theorem root_spec (hst : ∀ (i : Nat) (o : Oper), ops[i]? = some o → StepAt P G ops.toList (F i o) o (S i) (S (i + 1))) (hI : ∀ i, i ≤ ops.size → Inv env (S i).1 (S i).2) :
    ∀ (f i : Nat) (x : Operand) (r : Nat), rootOf env ops.toList f i x = some r → i ≤ ops.size →
      r ∈ env ∧ ∀ u, ev (S i).1 x = some u → u = Go.undef ∨ ∃ p id, u = .pointer (some p) ∧ (S i).1 r = some (.pointer (some ⟨id, 0, some 0⟩)) ∧ p.block = id
  | 0, i, x, r, h, _ => by cases x <;> simp [rootOf] at h
  | f + 1, i, x, r, h, hi => by
    cases x with
    | tmp t =>
      simp only [rootOf] at h
      split at h
      · rename_i hc
        have e := Option.some.inj h
        subst e
        have hm : t ∈ env := List.contains_iff_mem.1 hc
        refine ⟨hm, fun u hu => ?_⟩
        simp only [ev] at hu
        rcases (hI i hi).is t hm u hu with h | ⟨id, h, _⟩
        · exact .inl h
        · exact .inr ⟨_, id, h, by rw [hu, h], rfl⟩
      · split at h
        · cases h
        · rename_i k hk
          have hki : k < i := List.mem_range.1 (List.mem_of_find?_eq_some hk)
          have hkp := List.find?_some hk
          split at h
          case isFalse => cases h
          rename_i huniq
          obtain ⟨y, hy, h⟩ := Option.bind_eq_some_iff.1 h
          obtain ⟨o, hok, hy⟩ := Option.bind_eq_some_iff.1 hy
          obtain ⟨r', hrr, h'⟩ := Option.bind_eq_some_iff.1 h
          split at h'
          case isFalse => cases h'
          rename_i hnd
          have e := Option.some.inj h'
          subst e
          rw [Array.getElem?_toList] at hok
          obtain ⟨hr, hrec⟩ := root_spec hst hI f k y r' hrr (by omega)
          refine ⟨hr, fun u hu => ?_⟩
          have er : (S i).1 r' = (S k).1 r' := trace_stable hst r' k i (by omega) hi fun j' _ _ o' ho' => no_dst hnd j' o' ho'
          have hdst : o.dst = some t := by
            simp only [dstIs, Array.getElem?_toList, hok, beq_iff_eq] at hkp; exact hkp
          have e : (S i).1 t = (S (k + 1)).1 t := trace_stable hst t (k + 1) i (by omega) hi fun j' h1 h2 o' ho' hd' => by
            have hj : j' < ops.size := by omega
            have := List.all_eq_true.1 huniq j' (List.mem_range.2 (by simpa using hj))
            simp only [dstIs, Array.getElem?_toList, ho', hd', Bool.or_eq_true, beq_iff_eq] at this
            rcases this with h | h
            · omega
            · simp at h
          simp only [ev] at hu
          rw [e] at hu
          rcases hst k o hok with ⟨_, v, _, hkn, hτ⟩ | ⟨_, _, hτ⟩
          · rw [hτ, hdst] at hu
            simp only [updO, upd, if_true, Option.some.injEq] at hu
            subst hu
            rcases hkn.2.addr y hy with ⟨p0, q0, h1, h2, h3⟩ | ⟨a, l, c, h1⟩
            · rcases hrec _ h1 with h4 | ⟨p, id, h4, h5, h6⟩
              · cases h4
              · cases h4
                exact .inr ⟨q0, id, h2, by rw [er]; exact h5, by omega⟩
            · rcases hrec _ h1 with h4 | ⟨p, id, h4, _⟩
              · cases h4
              · cases h4
          · rw [hτ, hdst] at hu
            simp only [updO, upd, if_true, Option.some.injEq] at hu
            exact .inl hu.symm
    | const v => simp [rootOf] at h
    | global g => simp [rootOf] at h
    | func g => simp [rootOf] at h

theorem loose_free (hst : ∀ (i : Nat) (o : Oper), ops[i]? = some o → StepAt P G ops.toList (F i o) o (S i) (S (i + 1))) (hI : ∀ i, i ≤ ops.size → Inv env (S i).1 (S i).2) {i j : Nat} {x y : Oper} (hij : i < j) (hj : j ≤ ops.size)
    (h : looseP env ops.toList i j x y = true) : Free1 (isWr true) S x y i j := by
  unfold looseP at h
  split at h
  · rename_i xl xs hl hs
    split at h
    · rename_i a b ha hb
      simp only [Bool.and_eq_true, bne_iff_ne, ne_eq] at h
      obtain ⟨ma, ra⟩ := root_spec hst hI 4 i xl a ha (by omega)
      obtain ⟨mb, rb⟩ := root_spec hst hI 4 j xs b hb hj
      have ea : (S j).1 a = (S i).1 a := trace_stable hst a i j (by omega) hj fun j' _ _ o' ho' => no_dst h.2 j' o' ho'
      refine ⟨?_, ?_, xl, xs, hl, hs, fun p q hp hq => ?_⟩
      · cases ho : x.op <;> simp [isLd, ho] at hl <;> simp [isWr, ho]
      · cases ho : y.op <;> simp [isSt, ho] at hs <;> simp [isWr, ho]
      · rcases ra _ hp with h1 | ⟨p', ia, h1, h2, h3⟩
        · cases h1
        · cases h1
          rcases rb _ hq with h4 | ⟨q', ib, h4, h5, h6⟩
          · cases h4
          · cases h4
            have := (hI j hj).ne a ma b mb h.1 ia ib (by rw [ea]; exact h2) h5
            omega
    · cases h
  · cases h
end

/-- A region in the order of the text, with steps of iterators. -/
theorem seq_nd {n fl : Nat} {env : List Nat} {ops : Array Oper} (hok : ∀ (i : Nat) (o : Oper), ops[i]? = some o → okOper n o = true) (hab : ∀ (i : Nat) (o : Oper), ops[i]? = some o → onlyAB env o = true)
    {K : Tm → Hp → Prop} {Q : Exit → Act → World → Prop} : ∀ (m k : Nat) (τ : Tm) (A : Hp) (μ : Mu) (a : Act) (w : World), k + m = ops.size → aops P G (fun _ _ => fl) ops.toList (ops.toList.drop k) τ A K → Inv env τ A → TR n μ A τ a → HR G μ fl A w → fl ≤ A.next →
      (∀ τ' A' μ' a' w', K τ' A' → Inv env τ' A' → TR n μ' A' τ' a' → HR G μ' fl A' w' → Trans fl μ A w μ' A' w' → Q .normal a' w') → wpOps P ops Q (List.range' k m) a w
  | 0, k, τ, A, μ, a, w, hkm, h, I, T, H, hfl, hQ => by
    have : ops.toList.drop k = [] := List.drop_eq_nil_of_le (by simp; omega)
    rw [this] at h
    exact hQ τ A μ a w h I T H (Trans.refl _ _ _ _)
  | m + 1, k, τ, A, μ, a, w, hkm, h, I, T, H, hfl, hQ => by
    rw [List.range'_succ, wpOps_cons]
    have hk : k < ops.size := by omega
    have hi := Array.getElem?_eq_getElem hk
    have hd : ops.toList.drop k = ops[k] :: ops.toList.drop (k + 1) := by
      rw [List.drop_eq_getElem_cons (by simpa using hk)]; simp
    rw [hd] at h
    rcases aops_step h with ⟨τ', A', hs, h'⟩ | ⟨hnx, hwt, h'⟩
    · refine hs.wpOp hi (hok k _ hi) T H hfl fun μ' a' w' T' H' Tr => ?_
      have hn := Tr.ext.next
      refine seq_nd hok hab m (k + 1) τ' A' μ' a' w' (by omega) h' (Inv.step (S := (τ, A)) (S' := (τ', A')) I hs (hab k _ hi) hn) T' H' (Nat.le_trans hfl hn) fun τ2 A2 μ2 a2 w2 hK2 I2 T2 H2 Tr2 => hQ τ2 A2 μ2 a2 w2 hK2 I2 T2 H2 (Tr.trans Tr2)
    · obtain ⟨x, s, hop⟩ : ∃ x s, (ops[k]).op = .next x s := by
        cases hq : (ops[k]).op <;> rw [hq] at hnx <;> first | exact ⟨_, _, rfl⟩ | cases hnx
      have hwant := wanted_of hwt (tm := a.tmps) (fun d b hb => (T.tmp d _ hb).bool_inv)
      unfold Go.wpOp
      simp only [hi, hwant, if_true]
      refine .inl (next_wp hop h' H hfl (fun x hx u hu => T.eval (mem_ok (hok k _ hi) hx) hu) fun v A' v' w' hK hv H' Tr => ?_)
      have hn := Tr.ext.next
      have hdst : ∀ t ∈ env, ∀ u, updO τ (ops[k]).dst v t = some u → τ t = some u := fun t ht u hu => by
        cases hdd : (ops[k]).dst with
        | none => rw [hdd] at hu; exact hu
        | some d =>
          rw [hdd] at hu
          simp only [updO, upd] at hu
          split at hu
          · rename_i htd
            subst htd
            have := hab k _ hi
            simp only [onlyAB, hdd, Bool.or_eq_true, Bool.not_eq_true', isAB, hop] at this
            rcases this with h | h
            · rw [List.contains_iff_mem.2 ht] at h; cases h
            · cases h
          · exact hu
      refine seq_nd hok hab m (k + 1) _ A' _ _ w' (by omega) hK ⟨fun t ht u hu => ?_, fun s hs t ht hst p q hp hq => I.ne s hs t ht hst p q (hdst s hs _ hp) (hdst t ht _ hq)⟩ (T.put Tr.ext (fun t ht => dst_ok (hok k _ hi) ht) hv) H' (Nat.le_trans hfl hn) fun τ2 A2 μ2 a2 w2 hK2 I2 T2 H2 Tr2 => hQ τ2 A2 μ2 a2 w2 hK2 I2 T2 H2 (Tr.trans Tr2)
      rcases I.is t ht u (hdst t ht u hu) with h | ⟨id, h, hlt⟩
      · exact .inl h
      · exact .inr ⟨id, h, Nat.lt_of_lt_of_le hlt hn⟩

/-- A region in every order. -/
theorem anyRun_sound {n fl : Nat} {env : List Nat} {ops : Array Oper} (hops : ∀ (i : Nat) (o : Oper), ops[i]? = some o → okOper n o = true) (hab : ∀ (i : Nat) (o : Oper), ops[i]? = some o → onlyAB env o = true) (hno : ∀ (i : Nat) (o : Oper), ops[i]? = some o → isNextO o.op = false) {Q : Exit → Act → World → Prop} :
    ∀ (T : OT) (f : Nat) (rs : List Nat) (L : Array Bool) {τ : Tm} {A : Hp} {K : Tm → Hp → Prop} {μ : Mu} {a : Act} {w : World}, T.chk ops f rs L = true → anyRun P G fl ops T τ A K → Inv env τ A → TR n μ A τ a → HR G μ fl A w → fl ≤ A.next →
    (∀ τ' A' μ' a' w', K τ' A' → Inv env τ' A' → TR n μ' A' τ' a' → HR G μ' fl A' w' → Trans fl μ A w μ' A' w' → Q .normal a' w') →
    (rs = [] → Q .normal a w) ∧ ∀ i ∈ rs, ∃ f', f = f' + 1 ∧ wpOp P ops Q i (wpAny P .any ops Q f' (L.setIfInBounds i true)) a w := by
  intro T
  have close : ∀ {f : Nat} {L : Array Bool} {a : Act} {w : World}, ((Region.ready .any ops L = [] → Q .normal a w) ∧ ∀ i ∈ Region.ready .any ops L, ∃ f', f = f' + 1 ∧ wpOp P ops Q i (wpAny P .any ops Q f' (L.setIfInBounds i true)) a w) → wpAny P .any ops Q f L a w := by
    intro f L a w ⟨h1, h2⟩
    cases f with
    | zero =>
      have hnil : Region.ready .any ops L = [] := by
        cases hr : Region.ready .any ops L with
        | nil => rfl
        | cons i js => obtain ⟨f', hf, _⟩ := h2 i (by rw [hr]; simp); omega
      exact ⟨hnil, h1 hnil⟩
    | succ f =>
      refine ⟨h1, fun i hi => ?_⟩
      obtain ⟨f', hf, h⟩ := h2 i hi
      obtain rfl : f' = f := by omega
      exact h
  have stepOne : ∀ {i : Nat} {s : OT} {f : Nat} {L : Array Bool} {τ : Tm} {A : Hp} {K : Tm → Hp → Prop} {μ : Mu} {a : Act} {w : World},
      (∀ (rs : List Nat) (L : Array Bool) {τ : Tm} {A : Hp} {K : Tm → Hp → Prop} {μ : Mu} {a : Act} {w : World}, s.chk ops f rs L = true → anyRun P G fl ops s τ A K → Inv env τ A → TR n μ A τ a → HR G μ fl A w → fl ≤ A.next →
        (∀ τ' A' μ' a' w', K τ' A' → Inv env τ' A' → TR n μ' A' τ' a' → HR G μ' fl A' w' → Trans fl μ A w μ' A' w' → Q .normal a' w') →
        (rs = [] → Q .normal a w) ∧ ∀ i ∈ rs, ∃ f', f = f' + 1 ∧ wpOp P ops Q i (wpAny P .any ops Q f' (L.setIfInBounds i true)) a w) →
      s.chk ops f (Region.ready .any ops (L.setIfInBounds i true)) (L.setIfInBounds i true) = true →
      (∃ o, ops[i]? = some o ∧ o.guard = none ∧ aop P G fl o τ A fun v A' => anyRun P G fl ops s (updO τ o.dst v) A' K) → Inv env τ A → TR n μ A τ a → HR G μ fl A w → fl ≤ A.next →
      (∀ τ' A' μ' a' w', K τ' A' → Inv env τ' A' → TR n μ' A' τ' a' → HR G μ' fl A' w' → Trans fl μ A w μ' A' w' → Q .normal a' w') → wpOp P ops Q i (wpAny P .any ops Q f (L.setIfInBounds i true)) a w := by
    intro i s f L τ A K μ a w ih hc ⟨o, ho, hg, h⟩ I T H hfl hQ
    obtain ⟨v, A', h', hO, hp, hkn⟩ := aop_known (hno i o ho) h
    have hst : StepAt P G ops.toList fl o (τ, A) (updO τ o.dst v, A') := .inl ⟨fun j want hj => (by rw [hg] at hj; cases hj), v, hO, ⟨hp, hkn⟩, rfl⟩
    have hn := (hst.next (fl := fl) ho (hops i o ho) (.inl rfl) T H hfl).choose_spec.choose_spec.choose_spec.2.2.1
    refine hst.wpOp ho (hops i o ho) T H hfl fun μ' a' w' T' H' Tr => ?_
    exact close (ih _ _ hc h' (I.step hst (hab i o ho) hn) T' H' (Nat.le_trans hfl hn) fun τ2 A2 μ2 a2 w2 k1 k2 k3 k4 k5 => hQ τ2 A2 μ2 a2 w2 k1 k2 k3 k4 (Tr.trans k5))
  induction T with
  | leaf =>
    intro f rs L τ A K μ a w hc h I T H hfl hQ
    simp only [OT.chk, List.isEmpty_iff] at hc
    subst hc
    exact ⟨fun _ => hQ _ _ _ _ _ h I T H (Trans.refl _ _ _ _), fun i hi => by simp at hi⟩
  | one i s ih =>
    intro f rs L τ A K μ a w hc h I T H hfl hQ
    cases f with
    | zero => simp [OT.chk] at hc
    | succ f =>
      simp only [OT.chk, Bool.and_eq_true, beq_iff_eq] at hc
      obtain ⟨rfl, hc⟩ := hc
      refine ⟨fun h => by simp at h, fun j hj => ?_⟩
      rw [List.mem_singleton] at hj
      subst hj
      exact ⟨f, rfl, stepOne (ih f) hc h I T H hfl hQ⟩
  | both i s r ih ihr =>
    intro f rs L τ A K μ a w hc h I T H hfl hQ
    cases f with
    | zero => simp [OT.chk] at hc
    | succ f =>
      cases rs with
      | nil => simp [OT.chk] at hc
      | cons j js =>
        simp only [OT.chk, Bool.and_eq_true, beq_iff_eq] at hc
        obtain ⟨⟨rfl, hcr⟩, hc⟩ := hc
        refine ⟨fun h => by simp at h, fun k hk => ?_⟩
        rcases List.mem_cons.1 hk with rfl | hk
        · exact ⟨f, rfl, stepOne (ih f) hc h.1 I T H hfl hQ⟩
        · exact (ihr (f + 1) js L hcr h.2 I T H hfl hQ).2 k hk

/-- The code of the abstract machine is sound. -/
theorem acode_sound {n fl : Nat} {env : List Nat} (hmx : P.follows .mixedOrders = true) : ∀ (c : Code), okCodeE P env n c = true → ∀ {τ : Tm} {A : Hp} {K : Exit → Tm → Hp → Prop} {μ : Mu} {a : Act} {w : World} {Q : Exit → Act → World → Prop},
    acode P G fl c τ A K → Inv env τ A → TR n μ A τ a → HR G μ fl A w → fl ≤ A.next →
    (∀ e τ' A' μ' a' w', K e τ' A' → Inv env τ' A' → TR n μ' A' τ' a' → HR G μ' fl A' w' → Trans fl μ A w μ' A' w' → Q e a' w') → (unmark c).wp P Q a w
  | .skip, _, τ, A, K, μ, a, w, Q, h, I, T, H, hfl, hQ => wp_skip (hQ _ _ _ _ _ _ h I T H (Trans.refl _ _ _ _))
  | .exit id, _, τ, A, K, μ, a, w, Q, h, I, T, H, hfl, hQ => wp_exit (hQ _ _ _ _ _ _ h I T H (Trans.refl _ _ _ _))
  | .ret, _, τ, A, K, μ, a, w, Q, h, I, T, H, hfl, hQ => wp_ret (hQ _ _ _ _ _ _ h I T H (Trans.refl _ _ _ _))
  | .region id ops draw, hok, τ, A, K, μ, a, w, Q, h, I, T, H, hfl, hQ => by
    simp only [okCodeE, Bool.and_eq_true] at hok
    simp only [acode] at h
    simp only [unmark]
    by_cases hbig : 1000000 ≤ id
    · rw [if_pos hbig] at h hok ⊢
      have hops : ∀ (i : Nat) (o : Oper), ops[i]? = some o → okOper n o = true := fun i o ho => List.all_eq_true.1 hok.1.1 o (by simpa using Array.mem_of_getElem? ho)
      have hab : ∀ (i : Nat) (o : Oper), ops[i]? = some o → onlyAB env o = true := fun i o ho => List.all_eq_true.1 hok.1.2 o (by simpa using Array.mem_of_getElem? ho)
      have hok2 := hok.2
      simp only [Bool.and_eq_true] at hok2
      obtain ⟨hdr, hreg, hno⟩ := hok2
      subst hdr
      by_cases hbb : 2000000 ≤ id
      · rw [if_pos hbb] at h ⊢
        obtain ⟨OTr, hchk, hrun⟩ := h
        have hnoA : ∀ (i : Nat) (o : Oper), ops[i]? = some o → isNextO o.op = false := fun i o ho => by
          have := List.all_eq_true.1 hno o (by simpa using Array.mem_of_getElem? ho)
          simpa using this
        have H1 : HR G μ fl A { w with drawn := w.drawn + 1 } := H.of_heap rfl
        have T1 : Trans fl μ A w μ A { w with drawn := w.drawn + 1 } := Trans.of_heap fl μ _ rfl rfl rfl rfl
        have hall := anyRun_sound (Q := Q) hops hab hnoA OTr ops.size _ _ hchk hrun I T H1 hfl fun τ' A' μ' a' w' h1 h2 h3 h4 h5 => hQ _ _ _ _ _ _ h1 h2 h3 h4 (T1.trans h5)
        refine wp_region_any hmx ?_
        cases hz : ops.size with
        | zero =>
          rw [hz] at hall
          have hnil : Region.ready .any ops (Array.replicate 0 false) = [] := by
            cases hr : Region.ready .any ops (Array.replicate 0 false) with
            | nil => rfl
            | cons i js => obtain ⟨f', hf, _⟩ := hall.2 i (by rw [hr]; simp); omega
          exact ⟨hnil, hall.1 hnil⟩
        | succ m =>
          rw [hz] at hall
          refine ⟨hall.1, fun i hi => ?_⟩
          obtain ⟨f', hf, h⟩ := hall.2 i hi
          obtain rfl : f' = m := by omega
          exact h
      rw [if_neg hbb] at h ⊢
      have hreg : okRegionW P ops = true := by
        rw [decide_eq_false hbb, Bool.false_or] at hreg
        exact hreg
      have hno : ∀ o ∈ ops.toList, isNextO o.op = false := fun o ho => by
        have := List.all_eq_true.1 hno o ho
        simpa using this
      have main : ∀ m, (m = fl ∨ m = A.next) → aopsL P G m ops.toList τ A (K .normal) → HR G μ m A w → m ≤ A.next → (∀ τ' A' μ' a' w', K .normal τ' A' → Inv env τ' A' → TR n μ' A' τ' a' → HR G μ' m A' w' → Trans m μ A w μ' A' w' → Q .normal a' w') → (Code.region (id - 1000000) ops true).wp P Q a w := by
        intro m hm h Hm hmn hQ
        obtain ⟨S, hS0, hK, hst⟩ := aopsL_trace (ops := ops.toList) _ _ _ hno h
        have hst' : ∀ (i : Nat) (o : Oper), ops[i]? = some o → StepAt P G ops.toList (if isWr true o then m else (S i).2.next) o (S i) (S (i + 1)) := fun i o ho => (hst i o (by simpa using ho)).1
        have hld : ∀ (i : Nat) (o : Oper), ops[i]? = some o → ∀ x, isLd o = some x → LowLd m S o i := fun i o ho x hx => by
          obtain ⟨p, hp1, hp2⟩ := (hst i o (by simpa using ho)).2 x hx
          exact ⟨x, hx, fun q hq => by rw [hp1] at hq; cases hq; exact hp2⟩
        rw [Array.length_toList] at hK
        have T0 : TR n μ (S 0).2 (S 0).1 a := by rw [hS0]; exact T
        have H0 : HR G μ m (S 0).2 w := by rw [hS0]; exact Hm
        have h0 : m ≤ (S 0).2.next := by rw [hS0]; exact hmn
        have I0 : Inv env (S 0).1 (S 0).2 := by rw [hS0]; exact I
        have hF : ∀ (i : Nat) (o : Oper), (if isWr true o then m else (S i).2.next) = m ∨ (if isWr true o then m else (S i).2.next) = (S i).2.next := fun i o => by split <;> simp
        have hI := fun i hi => (trace_inv (F := fun i o => if isWr true o then m else (S i).2.next) hops hab hst' hF T0 H0 h0 I0 i hi).2.2
        have Ie := hI ops.size (Nat.le_refl _)
        obtain ⟨p1, p2, p3⟩ := okGen_spec hreg
        refine draw_sound (S := S) (isW := isWr true) hmx ⟨hops, hst', p1, p2, fun i j x y h1 h2 h3 h4 h5 h6 => ?_, fun o ho => isWr_pure ho⟩ T0 H0 h0 fun μ' a' w' h1 h2 h3 => hQ _ _ μ' a' w' hK Ie h1 h2 (by rw [hS0] at h3; exact h3)
        rcases p3 i j x y h1 h2 h3 h4 h5 h6 with h | h
        · exact .inl h
        · simp only [lowP, Bool.or_eq_true, Bool.and_eq_true] at h
          rcases h with ⟨ha, hb⟩ | ⟨ha, hb⟩
          · obtain ⟨xl, hxl⟩ := Option.isSome_iff_exists.1 ha
            exact .inr (.inr (.inl ⟨isLd_wr hxl, hb, hld i x h2 xl hxl⟩))
          · obtain ⟨xl, hxl⟩ := Option.isSome_iff_exists.1 hb
            exact .inr (.inr (.inr ⟨ha, isLd_wr hxl, hld j y h3 xl hxl⟩))
      rcases h with h | h
      · exact main fl (.inl rfl) h H hfl fun τ' A' μ' a' w' h1 h2 h3 h4 h5 => hQ _ _ _ _ _ _ h1 h2 h3 h4 h5
      · exact main A.next (.inr rfl) h (H.raise hfl) (Nat.le_refl _) fun τ' A' μ' a' w' h1 h2 h3 h4 h5 => hQ _ _ _ _ _ _ h1 h2 h3 (HR.lift H hfl h5 h4) (Trans.lift H hfl h5)
    rw [if_neg hbig] at h hok ⊢
    have hopsN : ∀ (i : Nat) (o : Oper), ops[i]? = some o → okOper n o = true := fun i o ho => List.all_eq_true.1 hok.1.1 o (by simpa using Array.mem_of_getElem? ho)
    have habN : ∀ (i : Nat) (o : Oper), ops[i]? = some o → onlyAB env o = true := fun i o ho => List.all_eq_true.1 hok.1.2 o (by simpa using Array.mem_of_getElem? ho)
    by_cases hdr : draw = false
    · subst hdr
      refine wp_region ?_
      rw [List.range_eq_range']
      refine seq_nd hopsN habN ops.size 0 τ A μ a w (by omega) ?_ I T H hfl (fun τ' A' μ' a' w' hK I' T' H' Tr => hQ _ _ _ _ _ _ hK I' T' H' Tr)
      have : floOf P fl ops false = fun _ _ => fl := by funext o A; simp [floOf]
      rw [this] at h
      simpa using h
    have hdt : draw = true := by simpa using hdr
    have hno : ∀ o ∈ ops.toList, isNextO o.op = false := fun o ho => by
      have := hok.2
      rw [hdt] at this
      simp only [Bool.not_true, Bool.false_or, Bool.and_eq_true] at this
      have := List.all_eq_true.1 this.2 o ho
      simpa using this
    obtain ⟨S, hS0, hK, hst⟩ := aops_trace _ _ _ hno h
    have hops : ∀ (i : Nat) (o : Oper), ops[i]? = some o → okOper n o = true := fun i o ho => List.all_eq_true.1 hok.1.1 o (by simpa using Array.mem_of_getElem? ho)
    have hab : ∀ (i : Nat) (o : Oper), ops[i]? = some o → onlyAB env o = true := fun i o ho => List.all_eq_true.1 hok.1.2 o (by simpa using Array.mem_of_getElem? ho)
    have hst' : ∀ (i : Nat) (o : Oper), ops[i]? = some o → StepAt P G ops.toList (floOf P fl ops draw o (S i).2) o (S i) (S (i + 1)) := fun i o ho => hst i o (by simpa using ho)
    rw [Array.length_toList] at hK
    have T0 : TR n μ (S 0).2 (S 0).1 a := by rw [hS0]; exact T
    have H0 : HR G μ fl (S 0).2 w := by rw [hS0]; exact H
    have h0 : fl ≤ (S 0).2.next := by rw [hS0]; exact hfl
    have I0 : Inv env (S 0).1 (S 0).2 := by rw [hS0]; exact I
    have hF : ∀ (i : Nat) (o : Oper), floOf P fl ops draw o (S i).2 = fl ∨ floOf P fl ops draw o (S i).2 = (S i).2.next := fun i o => by
      unfold floOf
      split
      · exact .inr rfl
      · exact .inl rfl
    have hI := fun i hi => (trace_inv (F := fun i o => floOf P fl ops draw o (S i).2) hops hab hst' hF T0 H0 h0 I0 i hi).2.2
    have Ie := hI ops.size (Nat.le_refl _)
    have hend : ∀ μ' a' w', TR n μ' (S ops.size).2 (S ops.size).1 a' → HR G μ' fl (S ops.size).2 w' → Trans fl μ (S 0).2 w μ' (S ops.size).2 w' → Q .normal a' w' := fun μ' a' w' h1 h2 h3 =>
      hQ _ _ _ μ' a' w' hK Ie h1 h2 (by rw [hS0] at h3; exact h3)
    cases draw with
    | false => exact absurd rfl hdr
    | true =>
      have hreg : okRegion P (!okRegion P false ops) ops = true ∨ (okRegion P false ops = false ∧ okRegionL P env ops = true) := by
        have := hok.2
        cases hf : okRegion P false ops with
        | true => exact .inl (by simpa using hf)
        | false =>
          simp only [hf, Bool.not_true, Bool.false_or, Bool.or_false, Bool.or_eq_true, Bool.and_eq_true] at this
          rcases this.1 with h | h
          · exact .inl (by simpa using h)
          · exact .inr ⟨rfl, h⟩
      have hstW : ∀ (i : Nat) (o : Oper), ops[i]? = some o → StepAt P G ops.toList (if isWr (!okRegion P false ops) o then fl else (S i).2.next) o (S i) (S (i + 1)) := fun i o ho => by
        have := hst' i o ho
        simp only [floOf, Bool.true_and] at this
        cases hw : isWr (!okRegion P false ops) o <;> simpa [hw] using this
      rcases hreg with hreg | ⟨hf, hreg⟩
      · obtain ⟨p1, p2, p3⟩ := okGen_spec hreg
        refine draw_sound (S := S) (isW := isWr (!okRegion P false ops)) hmx ⟨hops, hstW, p1, p2, fun i j x y h1 h2 h3 h4 h5 h6 => ?_, fun o ho => isWr_pure ho⟩ T0 H0 h0 hend
        rcases p3 i j x y h1 h2 h3 h4 h5 h6 with h | h
        · exact .inl h
        · cases h
      · obtain ⟨p1, p2, p3⟩ := okGen_spec hreg
        rw [hf] at hstW
        refine draw_sound (S := S) (isW := isWr true) hmx ⟨hops, hstW, p1, p2, fun i j x y h1 h2 h3 h4 h5 h6 => ?_, fun o ho => isWr_pure ho⟩ T0 H0 h0 hend
        rcases p3 i j x y h1 h2 h3 h4 h5 h6 with h | h
        · exact .inl h
        · exact .inr (.inl (loose_free (F := fun i o => floOf P fl ops true o (S i).2) hst' hI h1 (Nat.le_of_lt (Array.getElem?_eq_some_iff.1 h3).1) h))
  | .seq x y, hok, τ, A, K, μ, a, w, Q, h, I, T, H, hfl, hQ => by
    simp only [okCodeE, Bool.and_eq_true] at hok
    simp only [acode] at h
    show (Code.seq (unmark x) (unmark y)).wp P Q a w
    refine wp_seq (acode_sound hmx x hok.1 h I T H hfl fun e τ' A' μ' a' w' hK I' T' H' Tr' => ?_)
    have hfl' : fl ≤ A'.next := Nat.le_trans hfl Tr'.ext.next
    cases e with
    | normal => exact acode_sound hmx y hok.2 hK I' T' H' hfl' fun e τ2 A2 μ2 a2 w2 hK2 I2 T2 H2 Tr2 => hQ e τ2 A2 μ2 a2 w2 hK2 I2 T2 H2 (Tr'.trans Tr2)
    | exit id => exact hQ _ _ _ _ _ _ hK I' T' H' Tr'
    | goto l => exact hQ _ _ _ _ _ _ hK I' T' H' Tr'
    | ret => exact hQ _ _ _ _ _ _ hK I' T' H' Tr'
    | panic ch => exact hQ _ _ _ _ _ _ hK I' T' H' Tr'
    | outgrown => exact hQ _ _ _ _ _ _ hK I' T' H' Tr'
  | .cond c x y, hok, τ, A, K, μ, a, w, Q, h, I, T, H, hfl, hQ => by
    simp only [okCodeE, Bool.and_eq_true] at hok
    simp only [acode] at h
    obtain ⟨b, hb, h1, h2⟩ := h
    have hcv := (T.eval hok.1.1 hb).bool_inv
    show (Code.cond c (unmark x) (unmark y)).wp P Q a w
    have Ib : Inv env (Ab.setb τ c b) A := by rw [setb_same hb]; exact I
    cases b with
    | true => exact wp_cond hcv (acode_sound hmx x hok.1.2 (h1 rfl) Ib (T.setb hb) H hfl hQ)
    | false => exact wp_cond hcv (acode_sound hmx y hok.2 (h2 rfl) Ib (T.setb hb) H hfl hQ)
  | .block id c, hok, τ, A, K, μ, a, w, Q, h, I, T, H, hfl, hQ => by
    simp only [okCodeE] at hok
    simp only [acode] at h
    show (Code.block id (unmark c)).wp P Q a w
    refine wp_block (acode_sound hmx c hok h I T H hfl fun e τ' A' μ' a' w' hK I' T' H' Tr' => ?_)
    cases e with
    | exit i =>
      simp only [Exit.inBlock]
      simp only at hK
      split
      · rename_i hi; rw [if_pos hi] at hK; exact hQ _ _ _ _ _ _ hK I' T' H' Tr'
      · rename_i hi; rw [if_neg hi] at hK; exact hQ _ _ _ _ _ _ hK I' T' H' Tr'
    | normal => exact hQ _ _ _ _ _ _ hK I' T' H' Tr'
    | goto l => exact hQ _ _ _ _ _ _ hK I' T' H' Tr'
    | ret => exact hQ _ _ _ _ _ _ hK I' T' H' Tr'
    | panic ch => exact hQ _ _ _ _ _ _ hK I' T' H' Tr'
    | outgrown => exact hQ _ _ _ _ _ _ hK I' T' H' Tr'
  | .loop c, hok, τ, A, K, μ, a, w, Q, h, I, T, H, hfl, hQ => by
    simp only [okCodeE] at hok
    simp only [acode] at h
    show (Code.loop (unmark c)).wp P Q a w
    rcases h with h | ⟨l, h⟩
    case inr =>
      refine wp_loop_ghost (fun k a' w' => ∃ l τ' A' μ', acode P G fl c τ' A' (unrF (acode P G fl c) K l) ∧ Inv env τ' A' ∧ TR n μ' A' τ' a' ∧ HR G μ' fl A' w' ∧ Trans fl μ A w μ' A' w' ∧ l.length = k) l.length ⟨l, τ, A, μ, h, I, T, H, Trans.refl _ _ _ _, rfl⟩ ?_
      rintro k a1 w1 ⟨l, τ1, A1, μ1, hI1, I1, T1, H1, Tr1, rfl⟩
      have hfl1 : fl ≤ A1.next := Nat.le_trans hfl Tr1.ext.next
      refine acode_sound hmx c hok hI1 I1 T1 H1 hfl1 fun e τ' A' μ' a' w' hK I' T' H' Tr' => ?_
      cases e with
      | normal =>
        cases l with
        | nil => exact False.elim hK
        | cons u l => exact ⟨l.length, by simp, l, τ', A', μ', hK, I', T', H', Tr1.trans Tr', rfl⟩
      | exit id => exact hQ _ _ _ _ _ _ (by cases l <;> exact hK) I' T' H' (Tr1.trans Tr')
      | goto l' => exact hQ _ _ _ _ _ _ (by cases l <;> exact hK) I' T' H' (Tr1.trans Tr')
      | ret => exact hQ _ _ _ _ _ _ (by cases l <;> exact hK) I' T' H' (Tr1.trans Tr')
      | panic ch => exact hQ _ _ _ _ _ _ (by cases l <;> exact hK) I' T' H' (Tr1.trans Tr')
      | outgrown => exact hQ _ _ _ _ _ _ (by cases l <;> exact hK) I' T' H' (Tr1.trans Tr')
    obtain ⟨J, m, hJ, hround⟩ := h
    refine wp_loop_ghost (fun k a' w' => ∃ τ' A' μ', J τ' A' ∧ Inv env τ' A' ∧ TR n μ' A' τ' a' ∧ HR G μ' fl A' w' ∧ Trans fl μ A w μ' A' w' ∧ m τ' A' = k) (m τ A) ⟨τ, A, μ, hJ, I, T, H, Trans.refl _ _ _ _, rfl⟩ ?_
    rintro k a1 w1 ⟨τ1, A1, μ1, hJ1, I1, T1, H1, Tr1, rfl⟩
    have hfl1 : fl ≤ A1.next := Nat.le_trans hfl Tr1.ext.next
    refine acode_sound hmx c hok (hround τ1 A1 hJ1) I1 T1 H1 hfl1 fun e τ' A' μ' a' w' hK I' T' H' Tr' => ?_
    cases e with
    | normal =>
      obtain ⟨σ, B, hs, hw, hJ2, hm⟩ := hK
      obtain ⟨ν, HB, TB, TrB⟩ := Trans.forget H1 hfl1 Tr' H' (T'.keep hs) hw
      have IB : Inv env σ B := by
        refine ⟨fun t ht v hv => ?_, fun s hs' t ht hst a b ha hb => I'.ne s hs' t ht hst a b (hs _ _ ha) (hs _ _ hb)⟩
        rcases I'.is t ht v (hs _ _ hv) with h | ⟨id, h, hlt⟩
        · exact .inl h
        · refine .inr ⟨id, h, ?_⟩
          rcases hw with rfl | ⟨rfl, _, hrb⟩
          · exact hlt
          · obtain ⟨v', hv'⟩ := hrb t v hv
            subst h
            cases hv' with
            | ptr h =>
              rcases h with ⟨h, _⟩ | ⟨h, _⟩
              · cases h
              · exact h
      exact ⟨_, hm, _, _, ν, hJ2, IB, TB, HB, Tr1.trans TrB, rfl⟩
    | exit id => exact hQ _ _ _ _ _ _ hK I' T' H' (Tr1.trans Tr')
    | goto l => exact hQ _ _ _ _ _ _ hK I' T' H' (Tr1.trans Tr')
    | ret => exact hQ _ _ _ _ _ _ hK I' T' H' (Tr1.trans Tr')
    | panic ch => exact hQ _ _ _ _ _ _ hK I' T' H' (Tr1.trans Tr')
    | outgrown => exact hQ _ _ _ _ _ _ hK I' T' H' (Tr1.trans Tr')

end
end Go.Proofs.Ytiiapkhdjchhjaa.Ab

/- A function's contract: what its body comes to, told in a canonical heap. -/
namespace Go.Proofs.Ytiiapkhdjchhjaa.Ab
open Go.RowKit
set_option linter.unusedVariables false
set_option linter.unusedSimpArgs false

variable (G : Gl) (P : Program) in
/-- The results, read off the slots and the heap. -/
def ares (τ : Tm) (A : Hp) : List ResultVar → List Value → (List Value → Prop) → Prop
  | [], acc, K => K acc
  | .tmp t :: rs, acc, K => ∃ v, τ t = some v ∧ ares τ A rs (acc ++ [v]) K
  | .cell a t :: rs, acc, K => ∃ p, τ a = some (.pointer (some p)) ∧ ∃ T, tyOf P t = some T ∧
      ((T.agg = true ∧ rdn G A p 0 T.size [] fun vs => ares τ A rs (acc ++ [.agg vs.toArray]) K) ∨ (T.agg = false ∧ ∃ v, A.get G p = some v ∧ ares τ A rs (acc ++ [v]) K))

def retv : List Value → Value
  | [v] => v
  | vs => .tuple vs.toArray

/-- The place of a block under other names: canonical number to number and shift. -/
abbrev Rn := Nat → Option (Nat × Nat)

def RA (B : Hp) (ρ : Rn) (a a' : Addr) : Prop := ∃ id sh cs g e, ρ a.block = some (id, sh) ∧ a.spot = some 0 ∧ B.blk id = some (.row cs g e) ∧ a' = ⟨id, sh + a.off, some g⟩

/-- A value under canonical names, and under those that it has. -/
inductive RR (B : Hp) (n : Nat) (ρ : Rn) : Value → Value → Prop
  | same {v : Value} (h : RB n v) : RR B n ρ v v
  | ptr {a a' : Addr} (h : RA B ρ a a') : RR B n ρ (.pointer (some a)) (.pointer (some a'))
  | sl {a a' : Addr} {m c c' : Nat} (h : RA B ρ a a') (hc : c ≤ c') : RR B n ρ (.slice (some a) m c) (.slice (some a') m c')
  | map {k id : Nat} {b : Blk} (h : ρ k = some (id, 0)) (hb : B.blk id = some b) (ho : b.obj = true) : RR B n ρ (.map (some k)) (.map (some id))
  | agg {xs ys : Array Value} (h1 : xs.size = ys.size) (h2 : ∀ (i : Nat) (h : i < xs.size) (h' : i < ys.size), RR B n ρ xs[i] ys[i]) : RR B n ρ (.agg xs) (.agg ys)
  | tuple {xs ys : Array Value} (h1 : xs.size = ys.size) (h2 : ∀ (i : Nat) (h : i < xs.size) (h' : i < ys.size), RR B n ρ xs[i] ys[i]) : RR B n ρ (.tuple xs) (.tuple ys)

/-- How a heap is told in canonical names: the old blocks as they are, the new ones renamed. A: the heap at the call; B: behind it; C: B told so. -/
structure Told (A B C : Hp) (ρ : Rn) : Prop where
  next : A.next ≤ C.next
  old : ∀ id, id < A.next → C.blk id = B.blk id
  oldRefs : ∀ id, id < A.next → ∀ k, B.blk id = some k → A.blk id = some k ∨ k.RBa A.next
  none : ∀ id, C.next ≤ id → C.blk id = .none
  new : ∀ k, A.next ≤ k → k < C.next → (∃ id sh cs g e ds, ρ k = some (id, sh) ∧ A.next ≤ id ∧ B.blk id = some (.row cs g e) ∧ C.blk k = some (.row ds 0 e) ∧ sh + ds.length ≤ cs.length ∧
    ∀ (j : Nat) (v : Value), ds[j]? = some v → ∃ u, cs[sh + j]? = some u ∧ RR B A.next ρ v u) ∨
    ∃ id b, ρ k = some (id, 0) ∧ A.next ≤ id ∧ B.blk id = some b ∧ b.obj = true ∧ b.RBa A.next ∧ C.blk k = some b
  ran : ∀ k p, ρ k = some p → A.next ≤ k ∧ k < C.next
  inj : ∀ k k' id sh sh', ρ k = some (id, sh) → ρ k' = some (id, sh') → k = k'

theorem Told.row {A B C : Hp} {ρ : Rn} (D : Told A B C ρ) {k : Nat} (h : A.next ≤ k) {es : List Value} {g1 e1 : Nat} (hk : C.blk k = some (.row es g1 e1)) :
    ∃ id sh cs g e ds, ρ k = some (id, sh) ∧ A.next ≤ id ∧ B.blk id = some (.row cs g e) ∧ C.blk k = some (.row ds 0 e) ∧ sh + ds.length ≤ cs.length ∧
      ∀ (j : Nat) (v : Value), ds[j]? = some v → ∃ u, cs[sh + j]? = some u ∧ RR B A.next ρ v u := by
  have hlt : k < C.next := by
    rcases Nat.lt_or_ge k C.next with h | h
    · exact h
    · rw [D.none k h] at hk; cases hk
  rcases D.new k h hlt with h | ⟨id, b, _, _, _, ho, _, h6⟩
  · exact h
  · rw [hk] at h6; cases h6; cases ho

theorem Told.obj {A B C : Hp} {ρ : Rn} (D : Told A B C ρ) {k : Nat} (h : A.next ≤ k) {b : Blk} (hk : C.blk k = some b) (ho : b.obj = true) :
    ∃ id, ρ k = some (id, 0) ∧ A.next ≤ id ∧ B.blk id = some b ∧ b.RBa A.next := by
  have hlt : k < C.next := by
    rcases Nat.lt_or_ge k C.next with h | h
    · exact h
    · rw [D.none k h] at hk; cases hk
  rcases D.new k h hlt with ⟨id, sh, cs, g, e, ds, _, _, _, h4, _⟩ | ⟨id, b', h1, h2, h3, h4, h5, h6⟩
  · rw [hk] at h4; cases h4; cases ho
  · rw [hk] at h6; cases h6; exact ⟨id, h1, h2, h3, h5⟩

theorem Told.live {A B C : Hp} {ρ : Rn} (D : Told A B C ρ) {k id sh : Nat} (h : ρ k = some (id, sh)) : A.next ≤ id ∧ B.blk id ≠ .none := by
  rcases D.new k (D.ran _ _ h).1 (D.ran _ _ h).2 with ⟨id', sh', cs, g, e, ds, h1, h2, h3, _⟩ | ⟨id', b', h1, h2, h3, _⟩
  · rw [h] at h1; cases h1; exact ⟨h2, by rw [h3]; simp⟩
  · rw [h] at h1; cases h1; exact ⟨h2, by rw [h3]; simp⟩

/-- What a body comes to, and how it is told. -/
def Ended (A : Hp) (r : Value) (B : Hp) (v : Value) (C : Hp) : Prop := ∃ ρ, Told A B C ρ ∧ RR B A.next ρ v r

section
variable {P : Program} {G : Gl}

theorem RB.agg_inv {n : Nat} {xs : Array Value} (h : RB n (.agg xs)) (i : Nat) (hi : i < xs.size) : RB n xs[i] := by
  obtain ⟨v', h⟩ := h; cases h with | agg k1 k2 => exact ⟨_, k2 i hi (by omega)⟩

theorem RR.rb {A B C : Hp} {ρ : Rn} (T : Told A B C ρ) {v u : Value} (h : RR B A.next ρ v u) : RB C.next v := by
  have addr : ∀ {a a' : Addr}, RA B ρ a a' → a.block < C.next ∧ a.spot = some 0 := fun {a a'} ⟨id, sh, cs, g, e, h1, h2, _⟩ => ⟨(T.ran _ _ h1).2, h2⟩
  induction h with
  | same h => exact h.mono T.next
  | @ptr a a' h => exact ⟨.pointer (some a), .ptr (.inr ⟨(addr h).1, 0, (addr h).2, fun cs g e hb => by simp at hb⟩)⟩
  | @sl a a' m c c' h hc => exact ⟨.slice (some a) m (max m c), .sl (addr h).1 (by omega) (by omega) ⟨0, (addr h).2, fun cs g e hb => by simp at hb⟩⟩
  | @map k id b h hb ho => exact ⟨.map (some 0), .map (T.ran _ _ h).2 fun q hq => by simp at hq⟩
  | @agg xs ys h1 h2 ih =>
    have : ∃ zs : Array Value, zs.size = xs.size ∧ ∀ (i : Nat) (h : i < xs.size) (h' : i < zs.size), VR (fun _ => none) ⟨C.next, fun _ => none⟩ xs[i] zs[i] :=
      ⟨Array.ofFn fun i : Fin xs.size => (ih i.1 i.2 (by omega)).choose, by simp, fun i h h' => by simp only [Array.getElem_ofFn]; exact (ih i h (by omega)).choose_spec⟩
    obtain ⟨zs, h3, h4⟩ := this
    exact ⟨.agg zs, .agg h3.symm h4⟩
  | @tuple xs ys h1 h2 ih =>
    have : ∃ zs : Array Value, zs.size = xs.size ∧ ∀ (i : Nat) (h : i < xs.size) (h' : i < zs.size), VR (fun _ => none) ⟨C.next, fun _ => none⟩ xs[i] zs[i] :=
      ⟨Array.ofFn fun i : Fin xs.size => (ih i.1 i.2 (by omega)).choose, by simp, fun i h h' => by simp only [Array.getElem_ofFn]; exact (ih i h (by omega)).choose_spec⟩
    obtain ⟨zs, h3, h4⟩ := this
    exact ⟨.tuple zs, .tuple h3.symm h4⟩

/-- The places of the canonical names. -/
def Mu.ren (μ : Mu) (n : Nat) (ρ : Rn) : Mu := fun k => if k < n then μ k else (ρ k).bind fun p => (μ p.1).map fun q => (q.1, q.2.1 + p.2, q.2.2)

theorem RR.vr {A B C : Hp} {ρ : Rn} (T : Told A B C ρ) {μ : Mu} {v u v' : Value} (h : RR B A.next ρ v u) : VR μ B u v' → VR (μ.ren A.next ρ) C v v' := by
  have hlt : ∀ {id : Nat}, id < A.next → (μ.ren A.next ρ) id = μ id := fun {id} h => by simp only [Mu.ren, if_pos h]
  have hren : ∀ {k id sh : Nat}, ρ k = some (id, sh) → ∀ b o S, μ id = some (b, o, S) → (μ.ren A.next ρ) k = some (b, o + sh, S) := fun {k id sh} hk b o S hm => by
    have := (T.ran _ _ hk).1
    simp only [Mu.ren, if_neg (show ¬ k < A.next by omega), hk, Option.bind_some, hm, Option.map_some]
  induction h generalizing v' with
  | @same v h =>
    intro hv
    have := hv.down (ν := μ) (B := ⟨A.next, fun id => if id < A.next then B.blk id else none⟩) (fun id hid => by simp only [if_pos hid]) (fun _ _ => rfl) h
    have E : Ext μ ⟨A.next, fun id => if id < A.next then B.blk id else none⟩ (μ.ren A.next ρ) C := by
      refine ⟨T.next, fun id hid cs g e hb => ⟨cs, g, e, ?_, .inl ⟨rfl, rfl, fun p hp => by rw [hlt hid]; exact hp⟩⟩, fun id hid k hb ho => ⟨⟨k, ?_, ho⟩, fun p hp => by rw [hlt hid]; exact hp⟩⟩
      · rw [T.old id hid] at hb
        simp only [if_pos (show id < A.next from hid)]
        exact hb
      · rw [T.old id hid] at hb
        simp only [if_pos (show id < A.next from hid)]
        exact hb
    exact this.mono E
  | @ptr a a' h =>
    intro hv
    obtain ⟨id, sh, cs, g, e, h1, h2, h3, rfl⟩ := h
    obtain ⟨p', rfl, har⟩ := hv.ptr_inv
    obtain ⟨b, o, S, hm, rfl⟩ := har.live rfl h3
    refine .ptr (.inr ⟨(T.ran _ _ h1).2, 0, h2, fun cs' g' e' hb => ⟨Nat.zero_le _, fun _ => ⟨b, o + sh, S, hren h1 b o S hm, ?_⟩⟩⟩)
    simp [Nat.add_assoc]
  | @sl a a' m c c' h hc =>
    intro hv
    obtain ⟨id, sh, cs, g, e, h1, h2, h3, rfl⟩ := h
    cases hv with
    | @sl _ a2 _ _ c2 hl1 hcc hn hl =>
      obtain ⟨g', hg', hl⟩ := hl
      cases hg'
      obtain ⟨b, o, S, hm, hp⟩ := (hl cs g e h3).2 rfl
      refine .sl (T.ran _ _ h1).2 (by omega) hn ⟨0, h2, fun cs' g' e' hb => ⟨Nat.zero_le _, fun _ => ⟨b, o + sh, S, hren h1 b o S hm, fun hc2 => ?_⟩⟩⟩
      obtain ⟨rfl, hS⟩ := hp hc2
      obtain ⟨id', sh', cs2, g2, e2, ds, k1, k2, k3, k4, k5, k6⟩ := T.row (T.ran _ _ h1).1 hb
      rw [h1] at k1; cases k1
      rw [h3] at k3; cases k3
      rw [k4] at hb; cases hb
      refine ⟨by simp [Nat.add_assoc], by simp only at hS; omega⟩
  | @map k id b h hb ho =>
    intro hv
    cases hv with
    | map hlt2 hl =>
      obtain ⟨o, S, hm⟩ := hl b hb ho
      exact .map (T.ran _ _ h).2 fun q hq ho2 => ⟨_, S, hren h _ o S hm⟩
  | @agg xs ys h1 h2 ih =>
    intro hv
    obtain ⟨ds, rfl, h3⟩ := hv.agg_inv
    have := h3.1
    exact .agg (by omega) fun i hi hi' => ih i hi (by omega) (h3.2 i (by omega) hi')
  | @tuple xs ys h1 h2 ih =>
    intro hv
    obtain ⟨ds, rfl, h3⟩ := hv.tuple_inv
    have := h3.1
    exact .tuple (by omega) fun i hi hi' => ih i hi (by omega) (h3.2 i (by omega) hi')

theorem Ended.sound {fl : Nat} {A B C : Hp} {r v r' : Value} {μ μ' : Mu} {w w' : World} (F : Ended A r B v C) (H0 : HR G μ fl A w) (hfl : fl ≤ A.next) (T : Trans fl μ A w μ' B w') (H : HR G μ' fl B w') (hr : VR μ' B r r') :
    ∃ ν, VR ν C v r' ∧ HR G ν fl C w' ∧ Trans fl μ A w ν C w' := by
  obtain ⟨ρ, D, hR⟩ := F
  have hn := T.ext.next
  have hlt : ∀ {id : Nat}, id < A.next → (μ'.ren A.next ρ) id = μ' id := fun {id} h => by simp only [Mu.ren, if_pos h]
  have hnew : ∀ {k : Nat} {b o S : Nat}, ¬ k < A.next → (μ'.ren A.next ρ) k = some (b, o, S) → ∃ id sh ob, ρ k = some (id, sh) ∧ μ' id = some (b, ob, S) ∧ o = ob + sh := fun {k b o S} h hm => by
    simp only [Mu.ren, if_neg h] at hm
    cases hk : ρ k with
    | none => simp [hk] at hm
    | some p =>
      simp only [hk, Option.bind_some] at hm
      cases hq : μ' p.1 with
      | none => simp [hq] at hm
      | some q =>
        simp only [hq, Option.map_some, Option.some.injEq, Prod.mk.injEq] at hm
        obtain ⟨rfl, rfl, rfl⟩ := hm
        exact ⟨p.1, p.2, q.2.1, rfl, by rw [hq], rfl⟩
  have oldrb : ∀ id, id < A.next → ∀ cs g e, B.blk id = some (.row cs g e) → ∀ v ∈ cs, RB A.next v := fun id hid cs g e hb v hv => by
    rcases D.oldRefs id hid _ hb with h | h
    · exact H0.refs id cs g e h v hv
    · exact h v hv
  have oldro : ∀ id, id < A.next → ∀ k, B.blk id = some k → k.RBs A.next := fun id hid k hb => by
    rcases D.oldRefs id hid _ hb with h | h
    · exact H0.orefs id k h
    · exact h.s
  have oldE : ∀ {u u' : Value}, RB A.next u → VR μ' B u u' → VR (μ'.ren A.next ρ) C u u' := fun {u u'} h hv => RR.vr D (.same h) hv
  refine ⟨μ'.ren A.next ρ, RR.vr D hR hr, ⟨D.none, fun id cs g e hb v hv => ?_, fun id cs g e b o S hb hm => ?_, fun id cs g e b o S hf hb hm j hj => ?_, fun id id' b o S b' o' S' hne hf hb hb' hm hm' => ?_, H.glob, fun g cs id b o S hg hf hb hm => ?_, fun id k hb => ?_, fun id k b o S hb ho hm => ?_⟩, ?_⟩
  · have hid : id < C.next := by
      rcases Nat.lt_or_ge id C.next with h | h
      · exact h
      · rw [D.none id h] at hb; cases hb
    by_cases h : id < A.next
    · rw [D.old id h] at hb
      exact (oldrb id h cs g e hb v hv).mono D.next
    · obtain ⟨id', sh, cs', g', e', ds, k1, k2, k3, k4, k5, k6⟩ := D.row (by omega) hb
      rw [k4] at hb; cases hb
      obtain ⟨j, hj⟩ := List.mem_iff_getElem?.1 hv
      obtain ⟨u, _, hu⟩ := k6 j v hj
      exact hu.rb D
  · by_cases h : id < A.next
    · rw [hlt h] at hm
      rw [D.old id h] at hb
      obtain ⟨c, t, fr, h1, h2, h3, h4⟩ := H.row id cs g e b o S hb hm
      refine ⟨c, t, fr, h1, h2, h3, fun j v hj => ?_⟩
      obtain ⟨v', h5, h6⟩ := h4 j v hj
      exact ⟨v', h5, oldE (oldrb id h cs g e hb v (List.mem_of_getElem? hj)) h6⟩
    · obtain ⟨id1, sh1, ob, q1, q2, rfl⟩ := hnew h hm
      have hid := (D.ran _ _ q1).2
      obtain ⟨id', sh, cs', g', e', ds, k1, k2, k3, k4, k5, k6⟩ := D.row (by omega) hb
      rw [q1] at k1; cases k1
      rw [k4] at hb; cases hb
      obtain ⟨c, t, fr, h1, h2, h3, h4⟩ := H.row id1 cs' g' _ b ob S k3 q2
      refine ⟨c, t, fr, h1, h2, by omega, fun j v hj => ?_⟩
      obtain ⟨u, hu1, hu2⟩ := k6 j v hj
      obtain ⟨v', h5, h6⟩ := h4 _ u hu1
      exact ⟨v', by rw [Nat.add_assoc]; exact h5, RR.vr D hu2 h6⟩
  · by_cases h : id < A.next
    · rw [hlt h] at hm
      rw [D.old id h] at hb
      exact H.free id cs g e b o S hf hb hm j hj
    · obtain ⟨id1, sh1, ob, q1, q2, rfl⟩ := hnew h hm
      obtain ⟨id', sh, cs', g', e', ds, k1, k2, k3, k4, k5, k6⟩ := D.row (by omega) hb
      rw [q1] at k1; cases k1
      exact H.free id1 cs' g' _ b ob S (by omega) k3 q2 j hj
  · by_cases h : id < A.next
    · rw [hlt h] at hm
      rw [D.old id h] at hb
      by_cases h' : id' < A.next
      · rw [hlt h'] at hm'
        rw [D.old id' h'] at hb'
        exact H.apart id id' b o S b' o' S' hne hf hb hb' hm hm'
      · obtain ⟨id1, sh1, ob, q1, q2, rfl⟩ := hnew h' hm'
        obtain ⟨k2, k3⟩ := D.live q1
        exact H.apart id id1 b o S b' ob S' (by omega) hf hb k3 hm q2
    · obtain ⟨id1, sh1, ob, q1, q2, rfl⟩ := hnew h hm
      obtain ⟨k2, k3⟩ := D.live q1
      by_cases h' : id' < A.next
      · rw [hlt h'] at hm'
        rw [D.old id' h'] at hb'
        exact H.apart id1 id' b ob S b' o' S' (by omega) (by omega) k3 hb' q2 hm'
      · obtain ⟨id3, sh3, ob3, r1, r2, rfl⟩ := hnew h' hm'
        obtain ⟨l2, l3⟩ := D.live r1
        refine H.apart id1 id3 b ob S b' ob3 S' (fun e => hne ?_) (by omega) k3 l3 q2 r2
        subst e
        exact D.inj _ _ _ _ _ q1 r1
  · by_cases h : id < A.next
    · rw [hlt h] at hm
      rw [D.old id h] at hb
      exact H.globApart g cs id b o S hg hf hb hm
    · obtain ⟨id1, sh1, ob, q1, q2, rfl⟩ := hnew h hm
      obtain ⟨k2, k3⟩ := D.live q1
      exact H.globApart g cs id1 b ob S hg (by omega) k3 q2
  · by_cases h : id < A.next
    · rw [D.old id h] at hb
      exact (oldro id h k hb).mono D.next
    · cases ho : k.obj with
      | false => cases k <;> first | trivial | cases ho
      | true =>
        obtain ⟨id1, _, _, _, h5⟩ := D.obj (by omega) hb ho
        exact h5.s.mono D.next
  · by_cases h : id < A.next
    · rw [hlt h] at hm
      rw [D.old id h] at hb
      obtain ⟨ob, h1, h2⟩ := H.obj id k b o S hb ho hm
      exact ⟨ob, h1, h2.conv (n := A.next) oldE (oldro id h k hb)⟩
    · obtain ⟨id1, sh1, ob, q1, q2, rfl⟩ := hnew h hm
      obtain ⟨id2, k1, k2, k3, k4⟩ := D.obj (by omega) hb ho
      rw [q1] at k1; cases k1
      obtain ⟨ob2, h1, h2⟩ := H.obj id1 k b ob S k3 ho q2
      exact ⟨ob2, h1, h2.conv (n := A.next) oldE k4.s⟩
  · refine ⟨T.os, T.tape, T.output, T.size, ⟨D.next, fun id hid cs g e hb => ?_, fun id hid k hb ho => ?_⟩, fun id hid => ?_, fun id hid hm => ?_, T.frame, fun b ⟨id, o, S, hf, hb, hm⟩ => ?_⟩
    · rw [D.old id hid] at hb
      obtain ⟨c0, g0, e0, h1, h2⟩ := T.ext.row id hid cs g e hb
      refine ⟨c0, g0, e0, h1, ?_⟩
      rcases h2 with ⟨h3, h4, h5⟩ | h2
      · exact .inl ⟨h3, h4, fun p hp => by rw [hlt hid]; exact h5 p hp⟩
      · exact .inr h2
    · rw [D.old id hid] at hb
      obtain ⟨h1, h2⟩ := T.ext.obj id hid k hb ho
      exact ⟨h1, fun p hp => by rw [hlt hid]; exact h2 p hp⟩
    · rw [D.old id (by omega), hlt (by omega)]; exact T.low id hid
    · rw [hlt hid]; exact T.dom id hid hm
    · by_cases h : id < A.next
      · rw [hlt h] at hm
        rw [D.old id h] at hb
        exact T.own b ⟨id, o, S, hf, hb, hm⟩
      · obtain ⟨id1, sh1, ob, q1, q2, rfl⟩ := hnew h hm
        obtain ⟨k2, k3⟩ := D.live q1
        exact T.own b ⟨id1, ob, S, by omega, k3, q2⟩

end
end Go.Proofs.Ytiiapkhdjchhjaa.Ab
