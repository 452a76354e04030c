/- Regions of the abstract machine: the operations one behind the other; what they come to, step by step. -/
import Derived.Test.YtpaffoiiipgkeaaDoorAb9
namespace Go.Proofs.YtpaffoiiipgkeaaDoor.Ab
open Go.RowKit
set_option linter.unusedVariables false
set_option linter.unusedSimpArgs false

section
variable (P : Program) (G : Gl)

/-- The operations of a region in the order of the text. 'flo': the floor of an operation at a heap. -/
def aops (flo : Oper → Hp → Nat) (ops : List Oper) : List Oper → Tm → Hp → (Tm → Hp → Prop) → Prop
  | [], τ, A, K => K τ A
  | o :: os, τ, A, K =>
    match o.guard with
    | none => aop P G (flo o A) o τ A fun v A' => aops flo ops os (updO τ o.dst v) A' K
    | some (j, want) => ∃ d, (ops[j]?).bind (·.dst) = some d ∧
        ((∃ b, τ d = some (.bool b) ∧ (b = want → aop P G (flo o A) o (upd τ d (.bool want)) A fun v A' => aops flo ops os (updO (upd τ d (.bool want)) o.dst v) A' K) ∧
          (b = !want → aops flo ops os (updO (upd τ d (.bool (!want))) o.dst undef) A K)) ∨
         (τ d = some undef ∧ aops flo ops os (updO τ o.dst undef) A K))
end

section
variable {P : Program} {G : Gl}

/-- A constant that leads nowhere. -/
def zcA : Value → Bool
  | .agg cs => cs.toList.all zc
  | .tuple cs => cs.toList.all zc
  | v => zc v

def okOperand : Operand → Bool
  | .const v => zcA v
  | _ => true

def okOper (n : Nat) (o : Oper) : Bool := (match o.dst with | some d => d < n | none => true) && o.op.operands.toList.all okOperand

theorem VR.of_zcA {μ : Mu} {A : Hp} {v : Value} (h : zcA v = true) : VR μ A v v := by
  cases v with
  | agg cs => exact .agg rfl fun i hi hi' => VR.of_zc (List.all_eq_true.1 h _ (by simp))
  | tuple cs => exact .tuple rfl fun i hi hi' => VR.of_zc (List.all_eq_true.1 h _ (by simp))
  | _ => exact VR.of_zc h

/-- Slots that agree. -/
structure TR (n : Nat) (μ : Mu) (A : Hp) (τ : Tm) (a : Act) : Prop where
  size : a.tmps.size = n
  defers : a.defers = []
  tmp : ∀ t v, τ t = some v → VR μ A v (a.tmps.getD t undef)

theorem TR.eval {n : Nat} {μ : Mu} {A : Hp} {τ : Tm} {a : Act} (h : TR n μ A τ a) {x : Operand} (hx : okOperand x = true) {u : Value} (hu : ev τ x = some u) : VR μ A u (a.eval x) := by
  cases x with
  | tmp t => exact h.tmp t u hu
  | const v => simp only [ev, Option.some.injEq] at hu; subst hu; exact VR.of_zcA hx
  | global g => simp only [ev, Option.some.injEq] at hu; subst hu; exact .ptr (.inl ⟨rfl, rfl⟩)
  | func f => simp only [ev, Option.some.injEq] at hu; subst hu; exact .func _ rfl (fun i hi => by simp at hi) rfl (fun i hi => by simp at hi)

theorem getD_set_self {a : Array Value} {d : Nat} (h : d < a.size) (v : Value) : (a.setIfInBounds d v).getD d undef = v := by
  simp [Array.getD_eq_getD_getElem?, h]
theorem getD_set_other {a : Array Value} {d t : Nat} (h : t ≠ d) (v : Value) : (a.setIfInBounds d v).getD t undef = a.getD t undef := by
  simp [Array.getD_eq_getD_getElem?, Array.getElem?_setIfInBounds_ne (Ne.symm h)]

theorem TR.put {n : Nat} {μ μ' : Mu} {A A' : Hp} {τ : Tm} {a : Act} (h : TR n μ A τ a) (E : Ext μ A μ' A') {d : Option Tmp} (hd : ∀ t, d = some t → t < n) {v v' : Value} (hv : VR μ' A' v v') :
    TR n μ' A' (updO τ d v) (a.put d v') := by
  cases d with
  | none => exact ⟨h.size, h.defers, fun t u hu => (h.tmp t u hu).mono E⟩
  | some d =>
    refine ⟨by simpa [Act.put] using h.size, h.defers, fun t u hu => ?_⟩
    simp only [updO, upd] at hu
    simp only [Act.put]
    split at hu
    · rename_i htd; subst htd
      cases hu
      rw [getD_set_self (by rw [h.size]; exact hd t rfl)]
      exact hv
    · rename_i htd
      rw [getD_set_other htd]
      exact (h.tmp t u hu).mono E

theorem VR.undef {μ : Mu} {A : Hp} : VR μ A undef undef := .tuple rfl fun i h _ => absurd h (by simp)

/-- Whether an operation is wanted, in the abstract. -/
def Wanted (ops : List Oper) (o : Oper) (τ : Tm) : Prop := ∀ j want, o.guard = some (j, want) → ∃ d, (ops[j]?).bind (·.dst) = some d ∧ τ d = some (.bool want)
def Unwanted (ops : List Oper) (o : Oper) (τ : Tm) : Prop := ∃ j want d u, o.guard = some (j, want) ∧ (ops[j]?).bind (·.dst) = some d ∧ τ d = some u ∧ (u = .bool (!want) ∨ u = Go.undef)

theorem wanted_of {ops : Array Oper} {o : Oper} {τ : Tm} (h : Wanted ops.toList o τ) {tm : Array Value} (hr : ∀ d b, τ d = some (.bool b) → tm.getD d Go.undef = .bool b) : Region.wanted o (yielded ops tm) = true := by
  unfold Region.wanted
  cases hg : o.guard with
  | none => rfl
  | some jw =>
    obtain ⟨j, want⟩ := jw
    obtain ⟨d, hd, ht⟩ := h j want hg
    have h1 := hr d want ht
    have h2 : tm[d]? = some (.bool want) := by
      rw [Array.getD_eq_getD_getElem?] at h1
      cases hq : tm[d]? with
      | none => rw [hq] at h1; cases h1
      | some q => rw [hq] at h1; simp only [Option.getD_some] at h1; rw [h1]
    have hd' : (ops[j]?).bind (·.dst) = some d := by rw [Array.getElem?_toList] at hd; exact hd
    simp [yielded, hd', h2]

theorem unwanted_of {ops : Array Oper} {o : Oper} {τ : Tm} (h : Unwanted ops.toList o τ) {tm : Array Value} (hr : ∀ d u, τ d = some u → ∃ μ A, VR μ A u (tm.getD d Go.undef)) : Region.wanted o (yielded ops tm) = false := by
  obtain ⟨j, want, d, u, hg, hd, ht, hu⟩ := h
  obtain ⟨μ, A, hv⟩ := hr d u ht
  have hd' : (ops[j]?).bind (·.dst) = some d := by rw [Array.getElem?_toList] at hd; exact hd
  unfold Region.wanted
  simp only [hg, yielded, hd', Option.bind_some]
  cases hq : tm[d]? with
  | none => simp
  | some q =>
    rw [Array.getD_eq_getD_getElem?, hq, Option.getD_some] at hv
    rcases hu with rfl | rfl
    · have := hv.bool_inv; subst this
      cases want <;> simp
    · obtain ⟨ds, rfl, _⟩ := VR.tuple_inv hv
      simp

variable (P G) in
/-- One step of the trace of a region. -/
def StepAt (ops : List Oper) (fl : Nat) (o : Oper) (S S' : Tm × Hp) : Prop :=
  (Wanted ops o S.1 ∧ ∃ v, OpOK P G o fl S.1 S.2 v S'.2 ∧ (pureOp P o.op = true → S'.2 = S.2 ∧ ∀ (fl : Nat) (A : Hp), OpOK P G o fl S.1 A v A) ∧ S'.1 = updO S.1 o.dst v) ∨
  (Unwanted ops o S.1 ∧ S'.2 = S.2 ∧ S'.1 = updO S.1 o.dst Go.undef)

theorem upd_same {τ : Tm} {d : Nat} {v : Value} (h : τ d = some v) : upd τ d v = τ := by
  funext u
  unfold upd
  split
  · rename_i hu; subst hu; exact h.symm
  · rfl

/-- The trace of a region. -/
theorem aops_trace {flo : Oper → Hp → Nat} {ops : List Oper} {K : Tm → Hp → Prop} : ∀ (os : List Oper) (τ : Tm) (A : Hp), aops P G flo ops os τ A K →
    ∃ S : Nat → Tm × Hp, S 0 = (τ, A) ∧ K (S os.length).1 (S os.length).2 ∧ ∀ (i : Nat) (o : Oper), os[i]? = some o → StepAt P G ops (flo o (S i).2) o (S i) (S (i + 1))
  | [], τ, A, h => ⟨fun _ => (τ, A), rfl, h, fun i o hi => by simp at hi⟩
  | o :: os, τ, A, h => by
    have go : ∀ τ' A', aops P G flo ops os τ' A' K → StepAt P G ops (flo o A) o (τ, A) (τ', A') →
        ∃ S : Nat → Tm × Hp, S 0 = (τ, A) ∧ K (S (o :: os).length).1 (S (o :: os).length).2 ∧ ∀ (i : Nat) (o' : Oper), (o :: os)[i]? = some o' → StepAt P G ops (flo o' (S i).2) o' (S i) (S (i + 1)) := by
      intro τ' A' h' hs
      obtain ⟨S, h0, hK, hst⟩ := aops_trace os τ' A' h'
      refine ⟨fun k => match k with | 0 => (τ, A) | k + 1 => S k, rfl, hK, fun i o' hi => ?_⟩
      cases i with
      | zero =>
        simp only [List.getElem?_cons_zero, Option.some.injEq] at hi
        subst hi
        simp only [h0]
        exact hs
      | succ i => exact hst i o' (by simpa using hi)
    simp only [aops] at h
    cases hg : o.guard with
    | none =>
      simp only [hg] at h
      obtain ⟨v, A', h', hO, hp⟩ := aop_sound h
      exact go _ _ h' (.inl ⟨fun j want hj => (by rw [hg] at hj; cases hj), v, hO, hp, rfl⟩)
    | some jw =>
      obtain ⟨j, want⟩ := jw
      simp only [hg] at h
      obtain ⟨d, hd, h⟩ := h
      rcases h with ⟨b, hb, h1, h2⟩ | ⟨hb, h⟩
      · by_cases hbw : b = want
        · subst hbw
          have h1 := h1 rfl
          simp only [upd_same hb] at h1
          obtain ⟨v, A', h', hO, hp⟩ := aop_sound h1
          exact go _ _ h' (.inl ⟨fun j' want' hj => (by rw [hg] at hj; cases hj; exact ⟨d, hd, hb⟩), v, hO, hp, rfl⟩)
        · have hb2 : b = !want := by cases b <;> cases want <;> simp_all
          subst hb2
          have h2 := h2 rfl
          rw [upd_same hb] at h2
          exact go _ _ h2 (.inr ⟨⟨j, want, d, _, hg, hd, hb, .inl rfl⟩, rfl, rfl⟩)
      · exact go _ _ h (.inr ⟨⟨j, want, d, _, hg, hd, hb, .inr rfl⟩, rfl, rfl⟩)

theorem mem_ok {n : Nat} {o : Oper} (h : okOper n o = true) {x : Operand} (hx : x ∈ o.op.operands) : okOperand x = true := by
  unfold okOper at h
  rw [Bool.and_eq_true] at h
  exact List.all_eq_true.1 h.2 x (by simpa using hx)
theorem dst_ok {n : Nat} {o : Oper} (h : okOper n o = true) {t : Tmp} (ht : o.dst = some t) : t < n := by
  unfold okOper at h
  rw [Bool.and_eq_true] at h
  rw [ht] at h
  simpa using h.1

/-- One step, in the world. -/
theorem StepAt.wpOp {n fl : Nat} {ops : Array Oper} {i : Nat} {o : Oper} (hi : ops[i]? = some o) (hok : okOper n o = true) {S S' : Tm × Hp} (hs : StepAt P G ops.toList fl o S S') {μ : Mu} {a : Act} {w : World}
    (T : TR n μ S.2 S.1 a) (H : HR G μ fl S.2 w) (hfl : fl ≤ S.2.next) {K : Act → World → Prop} {Q : Exit → Act → World → Prop}
    (hk : ∀ μ' a' w', TR n μ' S'.2 S'.1 a' → HR G μ' fl S'.2 w' → Trans fl μ S.2 w μ' S'.2 w' → K a' w') : Go.wpOp P ops Q i K a w := by
  unfold Go.wpOp
  simp only [hi]
  rcases hs with ⟨hw, v, hO, _, hτ⟩ | ⟨hw, hA, hτ⟩
  · have hwant := wanted_of hw (tm := a.tmps) (fun d b hb => (T.tmp d _ hb).bool_inv)
    simp only [hwant, if_true]
    refine .inl (hO μ w a K Q H hfl (fun x hx u hu => T.eval (mem_ok hok hx) hu) fun v' w' μ' hv H' T' => hk μ' _ w' ?_ H' T')
    rw [hτ]
    exact T.put T'.ext (fun t ht => dst_ok hok ht) hv
  · have hwant := unwanted_of hw (tm := a.tmps) (fun d u hu => ⟨μ, S.2, T.tmp d u hu⟩)
    simp only [hwant, Bool.false_eq_true, if_false]
    refine hk μ _ w ?_ (hA ▸ H) (by rw [hA]; exact Trans.refl _ _ _ _)
    rw [hτ, hA]
    exact T.put (Ext.refl _ _) (fun t ht => dst_ok hok ht) VR.undef

/-- A region in the order of the text. -/
theorem seq_sound {n fl : Nat} {ops : Array Oper} (hok : ∀ (i : Nat) (o : Oper), ops[i]? = some o → okOper n o = true) {S : Nat → Tm × Hp} (hst : ∀ (i : Nat) (o : Oper), ops[i]? = some o → StepAt P G ops.toList fl o (S i) (S (i + 1)))
    {Q : Exit → Act → World → Prop} : ∀ (m k : Nat) (μ : Mu) (a : Act) (w : World), k + m = ops.size → TR n μ (S k).2 (S k).1 a → HR G μ fl (S k).2 w → fl ≤ (S k).2.next →
      (∀ μ' a' w', TR n μ' (S ops.size).2 (S ops.size).1 a' → HR G μ' fl (S ops.size).2 w' → Trans fl μ (S k).2 w μ' (S ops.size).2 w' → Q .normal a' w') → wpOps P ops Q (List.range' k m) a w
  | 0, k, μ, a, w, hkm, T, H, hfl, hQ => by
    have : k = ops.size := by omega
    subst this
    exact hQ μ a w T H (Trans.refl _ _ _ _)
  | m + 1, k, μ, a, w, hkm, T, H, hfl, hQ => by
    rw [List.range'_succ, wpOps_cons]
    have hk : k < ops.size := by omega
    have hi := Array.getElem?_eq_getElem hk
    refine (hst k _ hi).wpOp hi (hok k _ hi) T H hfl fun μ' a' w' T' H' Tr => ?_
    refine seq_sound hok hst m (k + 1) μ' a' w' (by omega) T' H' (Nat.le_trans hfl Tr.ext.next) fun μ2 a2 w2 T2 H2 Tr2 => hQ μ2 a2 w2 T2 H2 (Tr.trans Tr2)

end
end Go.Proofs.YtpaffoiiipgkeaaDoor.Ab
