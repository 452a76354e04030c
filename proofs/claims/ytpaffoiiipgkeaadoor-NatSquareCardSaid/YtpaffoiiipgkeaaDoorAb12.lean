/- Regions that draw their order: the theorem. -/
import Derived.Test.YtpaffoiiipgkeaaDoorAb11
namespace Go.Proofs.YtpaffoiiipgkeaaDoor.Ab
open Go.RowKit
set_option linter.unusedVariables false
set_option linter.unusedSimpArgs false

section
variable {P : Program} {G : Gl}

def Closed (ops : Array Oper) (L : Nat → Bool) : Prop := ∀ (j : Nat) (o : Oper), ops[j]? = some o → L j = true → ∀ e ∈ o.after, Region.binds .any e = true → L e.on = true
/-- Wherever j has come up, i has. -/
def Ord (ops : Array Oper) (i j : Nat) : Prop := ∀ L : Nat → Bool, Closed ops L → L j = true → L i = true

theorem look_op {ops : Array Oper} {o : Oper} {t : Tmp} (h : Operand.tmp t ∈ o.op.operands) : t ∈ o.looksAt ops :=
  List.mem_append_left _ (List.mem_filterMap.2 ⟨.tmp t, by simpa using h, rfl⟩)
theorem look_guard {ops : Array Oper} {o : Oper} {j : Nat} {want : Bool} {d : Tmp} (hg : o.guard = some (j, want)) (hd : (ops[j]?).bind (·.dst) = some d) : d ∈ o.looksAt ops :=
  List.mem_append_right _ (by simp [hg, hd])

theorem wanted_of' {ops : Array Oper} {o : Oper} {τ : Tm} (h : Wanted ops.toList o τ) {tm : Array Value} (hr : ∀ d, d ∈ o.looksAt ops → ∀ u, τ d = some u → ∃ μ A, VR μ A u (tm.getD d Go.undef)) : Region.wanted o (yielded ops tm) = true := by
  unfold Region.wanted
  cases hg : o.guard with
  | none => rfl
  | some jw =>
    obtain ⟨j, want⟩ := jw
    obtain ⟨d, hd, ht⟩ := h j want hg
    have hd' : (ops[j]?).bind (·.dst) = some d := by rw [Array.getElem?_toList] at hd; exact hd
    obtain ⟨μ, A, hv⟩ := hr d (look_guard hg hd') _ ht
    have h1 := hv.bool_inv
    have h2 : tm[d]? = some (.bool want) := by
      rw [Array.getD_eq_getD_getElem?] at h1
      cases hq : tm[d]? with
      | none => rw [hq] at h1; cases h1
      | some q => rw [hq] at h1; simp only [Option.getD_some] at h1; rw [h1]
    simp [yielded, hd', h2]

theorem unwanted_of' {ops : Array Oper} {o : Oper} {τ : Tm} (h : Unwanted ops.toList o τ) {tm : Array Value} (hr : ∀ d, d ∈ o.looksAt ops → ∀ u, τ d = some u → ∃ μ A, VR μ A u (tm.getD d Go.undef)) : Region.wanted o (yielded ops tm) = false := by
  obtain ⟨j, want, d, u, hg, hd, ht, hu⟩ := h
  have hd' : (ops[j]?).bind (·.dst) = some d := by rw [Array.getElem?_toList] at hd; exact hd
  obtain ⟨μ, A, hv⟩ := hr d (look_guard hg hd') u ht
  unfold Region.wanted
  simp only [hg, yielded, hd', Option.bind_some]
  cases hq : tm[d]? with
  | none => simp
  | some q =>
    rw [Array.getD_eq_getD_getElem?, hq, Option.getD_some] at hv
    rcases hu with rfl | rfl
    · have := hv.bool_inv; subst this
      cases want <;> simp
    · obtain ⟨ds, rfl, _⟩ := VR.tuple_inv hv
      simp

variable (P G) in
/-- What a drawn region is given with. -/
structure Drawn (ops : Array Oper) (n fl : Nat) (isW : Oper → Bool) (S : Nat → Tm × Hp) : Prop where
  ok : ∀ (i : Nat) (o : Oper), ops[i]? = some o → okOper n o = true
  st : ∀ (i : Nat) (o : Oper), ops[i]? = some o → StepAt P G ops.toList (if isW o then fl else (S i).2.next) o (S i) (S (i + 1))
  down : ∀ (i : Nat) (o : Oper), ops[i]? = some o → ∀ e ∈ o.after, Region.binds .any e = true → e.on < i
  ordT : ∀ (i j : Nat) (x y : Oper), i < j → ops[i]? = some x → ops[j]? = some y → x.apart ops y = false → Ord ops i j
  ordW : ∀ (i j : Nat) (x y : Oper), i < j → ops[i]? = some x → ops[j]? = some y → (isW x || isW y) = true → pureOp P x.op = false → pureOp P y.op = false → Ord ops i j
  wp : ∀ o, isW o = true → pureOp P o.op = false

variable {ops : Array Oper} {n fl : Nat} {isW : Oper → Bool} {S : Nat → Tm × Hp}

theorem step_dst {f : Nat} {o : Oper} {A B : Tm × Hp} (h : StepAt P G ops.toList f o A B) {t : Nat} (ht : o.dst ≠ some t) : B.1 t = A.1 t := by
  have : ∀ v, updO A.1 o.dst v t = A.1 t := fun v => by
    cases hd : o.dst with
    | none => rfl
    | some d =>
      have hne : t ≠ d := fun e => ht (by rw [hd, e])
      simp only [updO, upd, if_neg hne]
  rcases h with ⟨_, v, _, _, h⟩ | ⟨_, _, h⟩
  · rw [h]; exact this v
  · rw [h]; exact this _

theorem Drawn.stable (D : Drawn P G ops n fl isW S) (t j : Nat) : ∀ k, j ≤ k → k ≤ ops.size → (∀ j', j ≤ j' → j' < k → ∀ o, ops[j']? = some o → o.dst ≠ some t) → (S k).1 t = (S j).1 t := by
  intro k
  induction k with
  | zero => intro h _ _; rw [show j = 0 by omega]
  | succ k ih =>
    intro h1 h2 h3
    by_cases hj : j = k + 1
    · rw [hj]
    · rw [← ih (by omega) (by omega) fun j' a b => h3 j' a (by omega)]
      have hk : k < ops.size := by omega
      exact step_dst (D.st k _ (Array.getElem?_eq_getElem hk)) (h3 k (by omega) (by omega) _ (Array.getElem?_eq_getElem hk))

theorem last_writer (ops : Array Oper) (t : Nat) : ∀ k : Nat, (∀ j : Nat, j < k → ∀ o : Oper, ops[j]? = some o → o.dst ≠ some t) ∨ ∃ (j : Nat) (o : Oper), j < k ∧ ops[j]? = some o ∧ o.dst = some t ∧ ∀ j' : Nat, j < j' → j' < k → ∀ o' : Oper, ops[j']? = some o' → o'.dst ≠ some t := by
  intro k
  induction k with
  | zero => exact .inl fun j h => by omega
  | succ k ih =>
    by_cases hk : ∃ o, ops[k]? = some o ∧ o.dst = some t
    · obtain ⟨o, h1, h2⟩ := hk
      exact .inr ⟨k, o, by omega, h1, h2, fun j' a b => by omega⟩
    · have hk' : ∀ o, ops[k]? = some o → o.dst ≠ some t := fun o h1 h2 => hk ⟨o, h1, h2⟩
      rcases ih with h | ⟨j, o, a, b, c, d⟩
      · exact .inl fun j hj o ho => by
          by_cases h' : j = k
          · subst h'; exact hk' o ho
          · exact h j (by omega) o ho
      · exact .inr ⟨j, o, by omega, b, c, fun j' x y o' ho' => by
          by_cases h' : j' = k
          · subst h'; exact hk' o' ho'
          · exact d j' x (by omega) o' ho'⟩

theorem next_w (ops : Array Oper) (isW : Oper → Bool) : ∀ m k, k + m = ops.size → ∃ r, k ≤ r ∧ r ≤ ops.size ∧ (∀ j, k ≤ j → j < r → ∀ o, ops[j]? = some o → isW o = false) ∧ (r < ops.size → ∃ o, ops[r]? = some o ∧ isW o = true) := by
  intro m
  induction m with
  | zero => intro k hk; exact ⟨k, Nat.le_refl _, by omega, fun j a b => by omega, fun h => by omega⟩
  | succ m ih =>
    intro k hk
    have hlt : k < ops.size := by omega
    cases hw : isW ops[k] with
    | true => exact ⟨k, Nat.le_refl _, by omega, fun j a b => by omega, fun _ => ⟨_, Array.getElem?_eq_getElem hlt, hw⟩⟩
    | false =>
      obtain ⟨r, h1, h2, h3, h4⟩ := ih (k + 1) (by omega)
      refine ⟨r, by omega, h2, fun j a b o ho => ?_, h4⟩
      by_cases hjk : j = k
      · subst hjk; rw [Array.getElem?_eq_getElem hlt] at ho; cases ho; exact hw
      · exact h3 j (by omega) b o ho

/-- The heaps of the text's order, all of them possible. -/
theorem Drawn.facts (D : Drawn P G ops n fl isW S) {μ0 : Mu} {a0 : Act} {w0 : World} (T0 : TR n μ0 (S 0).2 (S 0).1 a0) (H0 : HR G μ0 fl (S 0).2 w0) (h0 : fl ≤ (S 0).2.next) :
    ∀ i, i ≤ ops.size → (∃ μ a w, TR n μ (S i).2 (S i).1 a ∧ HR G μ fl (S i).2 w) ∧ fl ≤ (S i).2.next := by
  intro i
  induction i with
  | zero => exact fun _ => ⟨⟨μ0, a0, w0, T0, H0⟩, h0⟩
  | succ i ih =>
    intro hi
    obtain ⟨⟨μ, a, w, T, H⟩, hfl⟩ := ih (by omega)
    have hlt : i < ops.size := by omega
    have ho := Array.getElem?_eq_getElem hlt
    obtain ⟨μ', a', w', T', H', hn, _⟩ := (D.st i _ ho).next (fl := fl) ho (D.ok i _ ho) (by cases isW ops[i] <;> simp) T H hfl
    exact ⟨⟨μ', a', w', T', H'⟩, by omega⟩

theorem Drawn.steps (D : Drawn P G ops n fl isW S) {μ0 : Mu} {a0 : Act} {w0 : World} (T0 : TR n μ0 (S 0).2 (S 0).1 a0) (H0 : HR G μ0 fl (S 0).2 w0) (h0 : fl ≤ (S 0).2.next) {i : Nat} {o : Oper} (ho : ops[i]? = some o) :
    (S i).2.next ≤ (S (i + 1)).2.next ∧ (isW o = false → Sub (S i).2 (S (i + 1)).2) := by
  have hlt := (Array.getElem?_eq_some_iff.1 ho).1
  obtain ⟨⟨μ, a, w, T, H⟩, hfl⟩ := D.facts T0 H0 h0 i (by omega)
  obtain ⟨μ', a', w', T', H', hn, hs⟩ := (D.st i _ ho).next (fl := fl) ho (D.ok i _ ho) (by cases isW o <;> simp) T H hfl
  exact ⟨hn, fun hw => hs (by simp [hw])⟩

theorem Drawn.sub (D : Drawn P G ops n fl isW S) {μ0 : Mu} {a0 : Act} {w0 : World} (T0 : TR n μ0 (S 0).2 (S 0).1 a0) (H0 : HR G μ0 fl (S 0).2 w0) (h0 : fl ≤ (S 0).2.next) (i : Nat) :
    ∀ k, i ≤ k → k ≤ ops.size → (∀ j, i ≤ j → j < k → ∀ o, ops[j]? = some o → isW o = false) → Sub (S i).2 (S k).2 := by
  intro k
  induction k with
  | zero => intro h _ _; rw [show i = 0 by omega]; exact Sub.refl _
  | succ k ih =>
    intro h1 h2 h3
    by_cases hik : i = k + 1
    · rw [hik]; exact Sub.refl _
    · have hk : k < ops.size := by omega
      have ho := Array.getElem?_eq_getElem hk
      exact (ih (by omega) (by omega) fun j a b => h3 j a (by omega)).trans ((D.steps T0 H0 h0 ho).2 (h3 k (by omega) (by omega) _ ho))

theorem Drawn.nextLe (D : Drawn P G ops n fl isW S) {μ0 : Mu} {a0 : Act} {w0 : World} (T0 : TR n μ0 (S 0).2 (S 0).1 a0) (H0 : HR G μ0 fl (S 0).2 w0) (h0 : fl ≤ (S 0).2.next) (i : Nat) :
    ∀ k, i ≤ k → k ≤ ops.size → (S i).2.next ≤ (S k).2.next := by
  intro k
  induction k with
  | zero => intro h _; rw [show i = 0 by omega]; exact Nat.le_refl _
  | succ k ih =>
    intro h1 h2
    by_cases hik : i = k + 1
    · rw [hik]; exact Nat.le_refl _
    · have hk : k < ops.size := by omega
      exact Nat.le_trans (ih (by omega) (by omega)) (D.steps T0 H0 h0 (Array.getElem?_eq_getElem hk)).1

/-- Where a drawn region stands. -/
structure Stand (G : Gl) (ops : Array Oper) (n fl : Nat) (isW : Oper → Bool) (S : Nat → Tm × Hp) (μ0 : Mu) (w0 : World) (L : Nat → Bool) (a : Act) (w : World) (μ : Mu) (r : Nat) : Prop where
  closed : Closed ops L
  rN : r ≤ ops.size
  wdone : ∀ (j : Nat) (o : Oper), j < r → ops[j]? = some o → isW o = true → L j = true
  wnext : r < ops.size → L r = false ∧ ∃ o, ops[r]? = some o ∧ isW o = true
  hr : HR G μ fl (S r).2 w
  low : Low μ (S r).2.next
  fresh : ∀ i, i < r → L i = false → ∀ id, (S i).2.next ≤ id → id < (S (i + 1)).2.next → μ id = none
  size : a.tmps.size = n
  defers : a.defers = []
  t0 : ∀ t, (∀ (j : Nat) (o : Oper), ops[j]? = some o → L j = true → o.dst ≠ some t) → ∀ v, (S 0).1 t = some v → VR μ (S r).2 v (a.tmps.getD t Go.undef)
  t1 : ∀ t (j : Nat) (o : Oper), ops[j]? = some o → L j = true → o.dst = some t → (∀ (j' : Nat) (o' : Oper), ops[j']? = some o' → L j' = true → j < j' → o'.dst ≠ some t) →
    ∀ v, (S (j + 1)).1 t = some v → VR μ (S r).2 v (a.tmps.getD t Go.undef)
  tr : Trans fl μ0 (S 0).2 w0 μ (S r).2 w

variable {μ0 : Mu} {w0 : World} {L : Nat → Bool} {a : Act} {w : World} {μ : Mu} {r : Nat}

/-- With one operation more. -/
def more (L : Nat → Bool) (i : Nat) : Nat → Bool := fun j => L j || j == i

theorem more_closed (h : Closed ops L) {i : Nat} {o : Oper} (ho : ops[i]? = some o) (hr : ∀ e ∈ o.after, Region.binds .any e = true → L e.on = true) : Closed ops (more L i) := by
  intro j o' ho' hj e he hb
  simp only [more, Bool.or_eq_true, beq_iff_eq] at hj ⊢
  rcases hj with hj | rfl
  · exact .inl (h j o' ho' hj e he hb)
  · rw [ho] at ho'; cases ho'
    exact .inl (hr e he hb)

theorem Stand.before (C : Closed ops L) {i : Nat} {o : Oper} (ho : ops[i]? = some o) (hr : ∀ e ∈ o.after, Region.binds .any e = true → L e.on = true) {j : Nat} (hne : j ≠ i) (h : Ord ops j i) : L j = true := by
  have := h (more L i) (more_closed C ho hr) (by simp [more])
  simpa [more, hne] using this

theorem apart_dst {x y : Oper} {t : Tmp} (hx : x.dst = some t) (hy : t ∈ y.looksAt ops ∨ y.dst = some t) : x.apart ops y = false ∧ y.apart ops x = false := by
  constructor
  · cases h : x.apart ops y with
    | false => rfl
    | true =>
      obtain ⟨h1, h2, h3⟩ := Oper.apart_spec h
      rcases hy with hy | hy
      · exact absurd hy (h1 t hx)
      · exact absurd hy (h2 t hx)
  · cases h : y.apart ops x with
    | false => rfl
    | true =>
      obtain ⟨h1, h2, h3⟩ := Oper.apart_spec h
      rcases hy with hy | hy
      · exact absurd hy (h3 t hx)
      · exact absurd hx (h2 t hy)

/-- What an operation that may come up reads is what it reads in the order of the text. -/
theorem Stand.read (D : Drawn P G ops n fl isW S) (J : Stand G ops n fl isW S μ0 w0 L a w μ r) {i : Nat} {o : Oper} (ho : ops[i]? = some o) (hLi : L i = false)
    (hrd : ∀ e ∈ o.after, Region.binds .any e = true → L e.on = true) {t : Tmp} (ht : t ∈ o.looksAt ops) {v : Value} (hv : (S i).1 t = some v) : VR μ (S r).2 v (a.tmps.getD t Go.undef) := by
  have hlt := (Array.getElem?_eq_some_iff.1 ho).1
  have later : ∀ (j' : Nat) (o' : Oper), ops[j']? = some o' → L j' = true → o'.dst = some t → j' < i := fun j' o' ho' hL' hd' => by
    rcases Nat.lt_trichotomy j' i with h | h | h
    · exact h
    · subst h; rw [hLi] at hL'; cases hL'
    · have := D.ordT i j' o o' h ho ho' (apart_dst hd' (.inl ht)).2 L J.closed hL'
      rw [hLi] at this; cases this
  rcases last_writer ops t i with h | ⟨j, oj, hj, hoj, hdj, hlast⟩
  · refine J.t0 t (fun j' o' ho' hL' hd' => h j' (later j' o' ho' hL' hd') o' ho' hd') v ?_
    rw [← D.stable t 0 i (Nat.zero_le _) (by omega) fun j' _ b o' ho' => h j' b o' ho']
    exact hv
  · have hLj := Stand.before J.closed ho hrd (by omega) (D.ordT j i oj o hj hoj ho (apart_dst hdj (.inl ht)).1)
    refine J.t1 t j oj hoj hLj hdj (fun j' o' ho' hL' hjj hd' => hlast j' hjj (later j' o' ho' hL' hd') o' ho' hd') v ?_
    rw [← D.stable t (j + 1) i (by omega) (by omega) fun j' x y o' ho' => hlast j' (by omega) y o' ho']
    exact hv

/-- The slots behind one operation more. -/
theorem Stand.slots (D : Drawn P G ops n fl isW S) (J : Stand G ops n fl isW S μ0 w0 L a w μ r) {i : Nat} {o : Oper} (ho : ops[i]? = some o) (hLi : L i = false)
    {μ' : Mu} {r' : Nat} (E : Ext μ (S r).2 μ' (S r').2) {v v' : Value} (hS : (S (i + 1)).1 = updO (S i).1 o.dst v) (hv : VR μ' (S r').2 v v') :
    (∀ t, (∀ (j : Nat) (o' : Oper), ops[j]? = some o' → more L i j = true → o'.dst ≠ some t) → ∀ u, (S 0).1 t = some u → VR μ' (S r').2 u ((a.put o.dst v').tmps.getD t Go.undef)) ∧
    (∀ t (j : Nat) (oj : Oper), ops[j]? = some oj → more L i j = true → oj.dst = some t → (∀ (j' : Nat) (o' : Oper), ops[j']? = some o' → more L i j' = true → j < j' → o'.dst ≠ some t) →
      ∀ u, (S (j + 1)).1 t = some u → VR μ' (S r').2 u ((a.put o.dst v').tmps.getD t Go.undef)) := by
  have same : ∀ t, o.dst ≠ some t → (a.put o.dst v').tmps.getD t Go.undef = a.tmps.getD t Go.undef := fun t ht => by
    cases hd : o.dst with
    | none => rfl
    | some d => exact getD_set_other (fun e => ht (by rw [hd, e])) v'
  have mL : ∀ {j : Nat}, L j = true → more L i j = true := fun {j} h => by simp [more, h]
  have mi : more L i i = true := by simp [more]
  refine ⟨fun t ht u hu => ?_, fun t j oj hoj hj hd hlast u hu => ?_⟩
  · rw [same t (ht i o ho mi)]
    exact (J.t0 t (fun j o' ho' hL => ht j o' ho' (mL hL)) u hu).mono E
  · by_cases hji : j = i
    · subst hji
      rw [ho] at hoj; cases hoj
      rw [hS, hd] at hu
      simp only [updO, upd, if_true, Option.some.injEq] at hu
      subst hu
      rw [hd]
      simp only [Act.put]
      rw [getD_set_self (by rw [J.size]; exact dst_ok (D.ok j o ho) hd)]
      exact hv
    · have hLj : L j = true := by simpa [more, hji] using hj
      have hdi : o.dst ≠ some t := fun hdi => by
        have hap := apart_dst (ops := ops) (y := o) hd (.inr hdi)
        rcases Nat.lt_or_ge i j with h | h
        · have := D.ordT i j o oj h ho hoj hap.2 L J.closed hLj
          rw [hLi] at this; cases this
        · exact hlast i o ho mi (by omega) hdi
      rw [same t hdi]
      exact (J.t1 t j oj hoj hLj hd (fun j' o' ho' hL' hlt => hlast j' o' ho' (mL hL') hlt) u hu).mono E


theorem step_skip_heap {f : Nat} {o : Oper} {A B : Tm × Hp} (h : StepAt P G ops.toList f o A B) (hp : pureOp P o.op = true) : B.2 = A.2 := by
  rcases h with ⟨_, v, _, hp', _⟩ | ⟨_, h, _⟩
  · exact (hp' hp).1
  · exact h

/-- One operation comes up. -/
theorem Stand.step (D : Drawn P G ops n fl isW S) {a0 : Act} (T0 : TR n μ0 (S 0).2 (S 0).1 a0) (H0 : HR G μ0 fl (S 0).2 w0) (h0 : fl ≤ (S 0).2.next)
    (J : Stand G ops n fl isW S μ0 w0 L a w μ r) {i : Nat} {o : Oper} (ho : ops[i]? = some o) (hLi : L i = false) (hrd : ∀ e ∈ o.after, Region.binds .any e = true → L e.on = true)
    {K : Act → World → Prop} {Q : Exit → Act → World → Prop} (hk : ∀ a' w' μ' r', Stand G ops n fl isW S μ0 w0 (more L i) a' w' μ' r' → K a' w') : Go.wpOp P ops Q i K a w := by
  have hlt := (Array.getElem?_eq_some_iff.1 ho).1
  have hrN := J.rN
  have C' := more_closed J.closed ho hrd
  have mL : ∀ {j : Nat}, L j = true → more L i j = true := fun {j} h => by simp [more, h]
  have mN : ∀ {j : Nat}, more L i j = false → L j = false ∧ j ≠ i := fun {j} h => by simpa [more] using h
  have flr : ∀ k, k ≤ ops.size → fl ≤ (S k).2.next := fun k hk => (D.facts T0 H0 h0 k hk).2
  have wf : ∀ k, k ≤ ops.size → ∀ id, (S k).2.next ≤ id → (S k).2.blk id = none := fun k hk => by
    obtain ⟨⟨_, _, _, _, H⟩, _⟩ := D.facts T0 H0 h0 k hk; exact H.wf
  have rf : ∀ k, k ≤ ops.size → ∀ id cs g e, (S k).2.blk id = some (.row cs g e) → ∀ v ∈ cs, RB (S k).2.next v := fun k hk => by
    obtain ⟨⟨_, _, _, _, H⟩, _⟩ := D.facts T0 H0 h0 k hk; exact H.refs
  have reads : ∀ d, d ∈ o.looksAt ops → ∀ u, (S i).1 d = some u → ∃ μ A, VR μ A u (a.tmps.getD d Go.undef) := fun d hd u hu => ⟨_, _, J.read D ho hLi hrd hd hu⟩
  have opr : ∀ x ∈ o.op.operands, ∀ u, ev (S i).1 x = some u → VR μ (S r).2 u (a.eval x) := fun x hx u hu => by
    have hok := mem_ok (D.ok i o ho) hx
    cases x with
    | tmp t => exact J.read D ho hLi hrd (look_op hx) hu
    | const v => simp only [ev, Option.some.injEq] at hu; subst hu; exact VR.of_zcA hok
    | global g => simp only [ev, Option.some.injEq] at hu; subst hu; exact .ptr (.inl ⟨rfl, rfl⟩)
    | func f => simp only [ev, Option.some.injEq] at hu; subst hu; exact .func _ rfl (fun i hi => by simp at hi) rfl (fun i hi => by simp at hi)
  -- an operation that leaves the heap alone
  have quiet : isW o = false → (S (i + 1)).2 = (S i).2 → ∀ v v', (S (i + 1)).1 = updO (S i).1 o.dst v → VR μ (S r).2 v v' → K (a.put o.dst v') w := by
    intro hw hh v v' hS hv
    obtain ⟨s0, s1⟩ := J.slots (μ' := μ) (r' := r) D ho hLi (Ext.refl _ _) hS hv
    refine hk _ _ μ r ⟨C', J.rN, fun j oj a1 a2 a3 => mL (J.wdone j oj a1 a2 a3), fun hr => ?_, J.hr, J.low, fun j a1 a2 => J.fresh j a1 (mN a2).1, ?_, ?_, s0, s1, J.tr⟩
    · obtain ⟨b1, or, b2, b3⟩ := J.wnext hr
      refine ⟨?_, or, b2, b3⟩
      have : r ≠ i := fun e => by subst e; rw [ho] at b2; cases b2; rw [hw] at b3; cases b3
      simp [more, b1, this]
    · cases o.dst <;> simpa [Act.put] using J.size
    · cases o.dst <;> simpa [Act.put] using J.defers
  -- an operation behind which the next write is another one
  have write : isW o = true → i = r ∧ ∀ (μ2 : Mu) (w2 : World) (v v' : Value), (S (i + 1)).1 = updO (S i).1 o.dst v → HR G μ2 fl (S (r + 1)).2 w2 → Trans fl μ (S r).2 w μ2 (S (r + 1)).2 w2 → VR μ2 (S (r + 1)).2 v v' → K (a.put o.dst v') w2 := by
    intro hw
    have hir : i = r := by
      rcases Nat.lt_trichotomy i r with h | h | h
      · have := J.wdone i o h ho hw; rw [hLi] at this; cases this
      · exact h
      · obtain ⟨b1, or, b2, b3⟩ := J.wnext (by omega)
        have := Stand.before J.closed ho hrd (by omega) (D.ordW r i or o h b2 ho (by simp [b3]) (D.wp _ b3) (D.wp _ hw))
        rw [b1] at this; cases this
    refine ⟨hir, fun μ2 w2 v v' hS H2 T2 hv => ?_⟩
    subst hir
    obtain ⟨r', q1, q2, q3, q4⟩ := next_w ops isW (ops.size - (i + 1)) (i + 1) (by omega)
    have hsub := D.sub T0 H0 h0 (i + 1) r' q1 q2 q3
    have E : Ext μ (S i).2 (μ2.cut (S (i + 1)).2.next) (S r').2 := T2.ext.trans (hsub.ext fun id hi p hp => by rw [Mu.cut_lt _ hi]; exact hp)
    have hv' : VR (μ2.cut (S (i + 1)).2.next) (S r').2 v v' := hv.mono (hsub.ext fun id hi p hp => by rw [Mu.cut_lt _ hi]; exact hp)
    obtain ⟨s0, s1⟩ := J.slots (μ' := μ2.cut (S (i + 1)).2.next) (r' := r') D ho hLi E hS hv'
    have T3 := J.tr.trans T2
    refine hk _ _ (μ2.cut (S (i + 1)).2.next) r' ⟨C', q2, fun j oj a1 a2 a3 => ?_, fun hr => ?_, ?_, ?_, fun j a1 a2 id b1 b2 => ?_, ?_, ?_, s0, s1, T3.cutUp h0 hsub⟩
    · rcases Nat.lt_trichotomy j i with h | h | h
      · exact mL (J.wdone j oj h a2 a3)
      · subst h; simp [more]
      · have := q3 j (by omega) a1 oj a2; rw [a3] at this; cases this
    · obtain ⟨or, b2, b3⟩ := q4 hr
      refine ⟨?_, or, b2, b3⟩
      have hne : r' ≠ i := by omega
      cases hL : L r' with
      | false => simp [more, hL, hne]
      | true =>
        have := D.ordW i r' o or (by omega) ho b2 (by simp [hw]) (D.wp _ hw) (D.wp _ b3) L J.closed hL
        rw [hLi] at this; cases this
    · exact H2.low.up (Mu.cut_low _ _) hsub (wf r' q2) (rf r' q2)
    · intro id hid; exact Mu.cut_low _ _ id (by have := hsub.next; omega)
    · obtain ⟨a3, a4⟩ := mN a2
      have hjN : j < ops.size := by omega
      have hoj := Array.getElem?_eq_getElem hjN
      rcases Nat.lt_or_ge j i with h | h
      · -- it has to be one that makes nothing
        cases hp : pureOp P ops[j].op with
        | true => have := step_skip_heap (D.st j _ hoj) hp; rw [this] at b2; omega
        | false =>
          have := Stand.before J.closed ho hrd (by omega) (D.ordW j i _ o h hoj ho (by simp [hw]) hp (D.wp _ hw))
          rw [a3] at this; cases this
      · have := D.nextLe T0 H0 h0 (i + 1) j (by omega) (by omega)
        exact Mu.cut_low _ _ id (by omega)
    · cases o.dst <;> simpa [Act.put] using J.size
    · cases o.dst <;> simpa [Act.put] using J.defers
  unfold Go.wpOp
  simp only [ho]
  rcases D.st i o ho with ⟨hw, v, hO, hpure, hτ⟩ | ⟨hw, hA, hτ⟩
  · have hwant := wanted_of' hw (tm := a.tmps) reads
    simp only [hwant, if_true]
    refine .inl ?_
    cases hp : pureOp P o.op with
    | true =>
      have hnw : isW o = false := by
        cases h : isW o with
        | false => rfl
        | true => have := D.wp _ h; rw [hp] at this; cases this
      obtain ⟨hh, hO2⟩ := hpure hp
      refine hO2 fl (S r).2 μ w a K Q J.hr (flr r J.rN) opr fun v' w' μ' hv' H' T' => ?_
      have E : Ext μ (S r).2 (μ'.cut (S r).2.next) (S r).2 := T'.ext.trans ((Sub.refl _).ext fun id hi p hp => by rw [Mu.cut_lt _ hi]; exact hp)
      have hv2 : VR (μ'.cut (S r).2.next) (S r).2 v v' := hv'.mono ((Sub.refl _).ext fun id hi p hp => by rw [Mu.cut_lt _ hi]; exact hp)
      obtain ⟨s0, s1⟩ := J.slots (μ' := μ'.cut (S r).2.next) (r' := r) D ho hLi E hτ hv2
      refine hk _ _ (μ'.cut (S r).2.next) r ⟨C', J.rN, fun j oj a1 a2 a3 => mL (J.wdone j oj a1 a2 a3), fun hr => ?_, H'.low, Mu.cut_low _ _, fun j a1 a2 id b1 b2 => ?_, ?_, ?_, s0, s1, (J.tr.trans T').cutUp h0 (Sub.refl _)⟩
      · obtain ⟨b1, or, b2, b3⟩ := J.wnext hr
        refine ⟨?_, or, b2, b3⟩
        have : r ≠ i := fun e => by subst e; rw [ho] at b2; cases b2; rw [hnw] at b3; cases b3
        simp [more, b1, this]
      · have hle := D.nextLe T0 H0 h0 (j + 1) r (by omega) J.rN
        rw [Mu.cut_lt _ (by omega)]
        exact T'.dom id (by omega) (J.fresh j a1 (mN a2).1 id b1 b2)
      · cases o.dst <;> simpa [Act.put] using J.size
      · cases o.dst <;> simpa [Act.put] using J.defers
    | false =>
      cases hwo : isW o with
      | true =>
        obtain ⟨rfl, hgo⟩ := write hwo
        rw [if_pos hwo] at hO
        exact hO μ w a K Q J.hr (flr i J.rN) opr fun v' w' μ' hv' H' T' => hgo μ' w' v v' hτ H' T' hv'
      | false =>
        rw [if_neg (by simp [hwo])] at hO
        have hir : i < r := by
          rcases Nat.lt_trichotomy i r with h | h | h
          · exact h
          · subst h
            obtain ⟨_, or, b2, b3⟩ := J.wnext hlt
            rw [ho] at b2; cases b2; rw [hwo] at b3; cases b3
          · obtain ⟨b1, or, b2, b3⟩ := J.wnext (by omega)
            have := Stand.before J.closed ho hrd (by omega) (D.ordW r i or o h b2 ho (by simp [b3]) (D.wp _ b3) hp)
            rw [b1] at this; cases this
        have nw : ∀ j, i ≤ j → j < r → ∀ oj, ops[j]? = some oj → isW oj = false := fun j a1 a2 oj hoj => by
          cases h : isW oj with
          | false => rfl
          | true =>
            have hne : j ≠ i := fun e => by subst e; rw [ho] at hoj; cases hoj; rw [hwo] at h; cases h
            have hLj := J.wdone j oj a2 hoj h
            have := D.ordW i j o oj (by omega) ho hoj (by simp [h]) hp (D.wp _ h) L J.closed hLj
            rw [hLi] at this; cases this
        have hsub := D.sub T0 H0 h0 i r (by omega) J.rN nw
        have hsub' := D.sub T0 H0 h0 (i + 1) r (by omega) J.rN fun j a1 a2 => nw j (by omega) a2
        have hnx := (D.steps T0 H0 h0 ho).1
        have Hd := (J.hr.raise (flr i (by omega))).down hsub (wf i (by omega)) (rf i (by omega))
        obtain ⟨⟨μs, as_, ws, Ts, Hs⟩, _⟩ := D.facts T0 H0 h0 i (by omega)
        have opd : ∀ x ∈ o.op.operands, ∀ u, ev (S i).1 x = some u → VR (μ.cut (S i).2.next) (S i).2 u (a.eval x) := fun x hx u hu => by
          refine (opr x hx u hu).down (fun id hi => hsub.blk id hi) (fun id hi => Mu.cut_lt _ hi) ?_
          exact (Ts.eval (mem_ok (D.ok i o ho) hx) hu).rb
        refine hO (μ.cut (S i).2.next) w a K Q Hd (Nat.le_refl _) opd fun v' w' μ'' hv' H' T' => ?_
        obtain ⟨ν, vo, vn, HN, E1, E2, TN⟩ := HR.merge J.hr (flr i (by omega)) hnx hsub hsub' (wf i (by omega)) (J.fresh i hir hLi) H' T'
        obtain ⟨s0, s1⟩ := J.slots (μ' := ν) (r' := r) D ho hLi E1 hτ (hv'.mono E2)
        refine hk _ _ ν r ⟨C', J.rN, fun j oj a1 a2 a3 => mL (J.wdone j oj a1 a2 a3), fun hr => ?_, HN, fun id hid => ?_, fun j a1 a2 id b1 b2 => ?_, ?_, ?_, s0, s1, TN (D.nextLe T0 H0 h0 0 i (Nat.zero_le _) (by omega)) h0 J.tr⟩
        · obtain ⟨b1, or, b2, b3⟩ := J.wnext hr
          refine ⟨?_, or, b2, b3⟩
          have : r ≠ i := by omega
          simp [more, b1, this]
        · have hn' := hsub'.next
          rw [vo id (fun h => by have := h.2; omega)]; exact J.low id hid
        · obtain ⟨a3, a4⟩ := mN a2
          rw [vo id (fun h => by
            rcases Nat.lt_or_ge j i with h' | h'
            · have := D.nextLe T0 H0 h0 (j + 1) i (by omega) (by omega); omega
            · have := D.nextLe T0 H0 h0 (i + 1) j (by omega) (by omega); omega)]
          exact J.fresh j a1 a3 id b1 b2
        · cases o.dst <;> simpa [Act.put] using J.size
        · cases o.dst <;> simpa [Act.put] using J.defers
  · have hwant := unwanted_of' hw (tm := a.tmps) reads
    simp only [hwant, Bool.false_eq_true, if_false]
    cases hwo : isW o with
    | true =>
      obtain ⟨rfl, hgo⟩ := write hwo
      have e : (S (i + 1)).2 = (S i).2 := hA
      exact hgo μ w _ _ hτ (by rw [e]; exact J.hr) (by rw [e]; exact Trans.refl _ _ _ _) VR.undef
    | false => exact quiet hwo hA _ _ hτ VR.undef


theorem ready_spec {listed : Array Bool} {i : Nat} (h : i ∈ Region.ready .any ops listed) : listed.getD i true = false ∧ ∃ o, ops[i]? = some o ∧ ∀ e ∈ o.after, Region.binds .any e = true → listed.getD e.on false = true :=
  mem_ready.1 h

/-- Whatever order is drawn. -/
theorem draw_any (D : Drawn P G ops n fl isW S) {a0 : Act} (T0 : TR n μ0 (S 0).2 (S 0).1 a0) (H0 : HR G μ0 fl (S 0).2 w0) (h0 : fl ≤ (S 0).2.next) {Q : Exit → Act → World → Prop}
    (hQ : ∀ μ' a' w', TR n μ' (S ops.size).2 (S ops.size).1 a' → HR G μ' fl (S ops.size).2 w' → Trans fl μ0 (S 0).2 w0 μ' (S ops.size).2 w' → Q .normal a' w') :
    ∀ (fuel : Nat) (listed : Array Bool) (a : Act) (w : World) (μ : Mu) (r : Nat), listed.size = ops.size → ((List.range ops.size).filter fun j => !listed.getD j false).length ≤ fuel →
      Stand G ops n fl isW S μ0 w0 (fun j => listed.getD j false) a w μ r → wpAny P .any ops Q fuel listed a w := by
  have fin : ∀ (listed : Array Bool) (a : Act) (w : World) (μ : Mu) (r : Nat), Stand G ops n fl isW S μ0 w0 (fun j => listed.getD j false) a w μ r → (∀ j, j < ops.size → listed.getD j false = true) → Q .normal a w := by
    intro listed a w μ r J hall
    have hr : r = ops.size := by
      rcases Nat.lt_or_ge r ops.size with h | h
      · have := (J.wnext h).1; rw [hall r h] at this; cases this
      · have := J.rN; omega
    subst hr
    refine hQ μ a w ⟨J.size, J.defers, fun t v hv => ?_⟩ J.hr J.tr
    rcases last_writer ops t ops.size with h | ⟨j, oj, hj, hoj, hdj, hlast⟩
    · refine J.t0 t (fun j o ho _ => h j (Array.getElem?_eq_some_iff.1 ho).1 o ho) v ?_
      rw [← D.stable t 0 ops.size (Nat.zero_le _) (Nat.le_refl _) fun j' _ b o' ho' => h j' b o' ho']
      exact hv
    · refine J.t1 t j oj hoj (hall j hj) hdj (fun j' o' ho' _ hlt => hlast j' hlt (Array.getElem?_eq_some_iff.1 ho').1 o' ho') v ?_
      rw [← D.stable t (j + 1) ops.size (by omega) (Nat.le_refl _) fun j' x y o' ho' => hlast j' (by omega) y o' ho']
      exact hv
  have nothing : ∀ (listed : Array Bool), listed.size = ops.size → Region.ready .any ops listed = [] → ∀ j, j < ops.size → listed.getD j false = true := by
    intro listed hsz hnil j
    induction j using Nat.strongRecOn with
    | _ j ih =>
      intro hj
      cases hl : listed.getD j false with
      | true => rfl
      | false =>
        have ho := Array.getElem?_eq_getElem hj
        have : j ∈ Region.ready .any ops listed := mem_ready.2 ⟨by
          have hjl : j < listed.size := by omega
          rw [Array.getD_eq_getD_getElem?, Array.getElem?_eq_getElem hjl, Option.getD_some] at hl ⊢
          exact hl, _, ho, fun e he hb => ih e.on (D.down j _ ho e he hb) (by have := D.down j _ ho e he hb; omega)⟩
        rw [hnil] at this; cases this
  intro fuel
  induction fuel with
  | zero =>
    intro listed a w μ r hsz hf J
    have hall : ∀ j, j < ops.size → listed.getD j false = true := fun j hj => by
      have he : (List.range ops.size).filter (fun j => !listed.getD j false) = [] := List.eq_nil_of_length_eq_zero (by omega)
      have := List.filter_eq_nil_iff.1 he j (List.mem_range.2 hj)
      simpa using this
    refine ⟨?_, fin listed a w μ r J hall⟩
    cases hr : Region.ready .any ops listed with
    | nil => rfl
    | cons i rest =>
      obtain ⟨h1, o, ho, _⟩ := ready_spec (ops := ops) (listed := listed) (i := i) (by rw [hr]; simp)
      have hi := (Array.getElem?_eq_some_iff.1 ho).1
      have h2 := hall i hi
      rw [Array.getD_eq_getD_getElem?, Array.getElem?_eq_getElem (show i < listed.size by omega), Option.getD_some] at h1 h2
      rw [h1] at h2; cases h2
  | succ fuel ih =>
    intro listed a w μ r hsz hf J
    refine ⟨fun hnil => fin listed a w μ r J (nothing listed hsz hnil), fun i hi => ?_⟩
    obtain ⟨h1, o, ho, hrd⟩ := ready_spec (ops := ops) hi
    have hlt := (Array.getElem?_eq_some_iff.1 ho).1
    have hLi : listed.getD i false = false := by
      rw [Array.getD_eq_getD_getElem?, Array.getElem?_eq_getElem (show i < listed.size by omega), Option.getD_some] at h1 ⊢
      exact h1
    have hmore : more (fun j => listed.getD j false) i = fun j => (listed.setIfInBounds i true).getD j false := by
      funext j
      simp only [more]
      by_cases hj : j = i
      · subst hj
        simp [Array.getD_eq_getD_getElem?, show j < listed.size by omega]
      · simp [Array.getD_eq_getD_getElem?, Array.getElem?_setIfInBounds_ne (Ne.symm hj), hj]
    refine J.step D T0 H0 h0 ho hLi hrd fun a' w' μ' r' J' => ih _ a' w' μ' r' (by simpa using hsz) ?_ (hmore ▸ J')
    have hsub : ((List.range ops.size).filter fun j => !(listed.setIfInBounds i true).getD j false) = ((List.range ops.size).filter fun j => !listed.getD j false).filter (fun j => !(j == i)) := by
      rw [List.filter_filter]
      congr 1
      funext j
      have := congrFun hmore j
      simp only [more] at this
      rw [← this]
      cases listed.getD j false <;> cases (j == i) <;> rfl
    rw [hsub]
    have hmem : i ∈ (List.range ops.size).filter fun j => !listed.getD j false := List.mem_filter.2 ⟨List.mem_range.2 hlt, by rw [hLi]; rfl⟩
    have := List.length_filter_lt_length_iff_exists (p := fun j => !(j == i)).2 ⟨i, hmem, by simp⟩
    omega

/-- A region that draws its order. -/
theorem draw_sound (hmx : P.follows .mixedOrders = true) (D : Drawn P G ops n fl isW S) {a0 : Act} (T0 : TR n μ0 (S 0).2 (S 0).1 a0) (H0 : HR G μ0 fl (S 0).2 w0) (h0 : fl ≤ (S 0).2.next) {id : Nat} {Q : Exit → Act → World → Prop}
    (hQ : ∀ μ' a' w', TR n μ' (S ops.size).2 (S ops.size).1 a' → HR G μ' fl (S ops.size).2 w' → Trans fl μ0 (S 0).2 w0 μ' (S ops.size).2 w' → Q .normal a' w') :
    (Code.region id ops true).wp P Q a0 w0 := by
  let w1 : World := { w0 with drawn := w0.drawn + 1 }
  have H1 : HR G μ0 fl (S 0).2 w1 := H0.of_heap rfl
  have T1 : Trans fl μ0 (S 0).2 w0 μ0 (S 0).2 w1 := Trans.of_heap fl μ0 _ rfl rfl rfl rfl
  obtain ⟨r, q1, q2, q3, q4⟩ := next_w ops isW ops.size 0 (by omega)
  have hsub := D.sub T0 H0 h0 0 r q1 q2 q3
  obtain ⟨⟨_, _, _, _, Hr⟩, _⟩ := D.facts T0 H0 h0 r q2
  have hall : ∀ j, (Array.replicate ops.size false).getD j false = false := fun j => by
    rw [Array.getD_eq_getD_getElem?]
    by_cases h : j < ops.size <;> simp [h]
  have E : Ext μ0 (S 0).2 (μ0.cut (S 0).2.next) (S r).2 := hsub.ext fun id hi p hp => by rw [Mu.cut_lt _ hi]; exact hp
  refine wp_region_any hmx (draw_any (w0 := w1) D T0 H1 h0 (fun μ' a' w' h1 h2 h3 => hQ μ' a' w' h1 h2 (T1.trans h3)) ops.size (Array.replicate ops.size false) a0 w1 (μ0.cut (S 0).2.next) r (by simp) ?_ ?_)
  · exact Nat.le_trans (List.length_filter_le _ _) (by simp)
  · have hN : ∀ j, (fun j => (Array.replicate ops.size false).getD j false) j = false := hall
    refine ⟨fun j o _ h => ?_, q2, fun j o a1 a2 a3 => ?_, fun h => ⟨hall r, q4 h⟩, H1.low.up (Mu.cut_low _ _) hsub Hr.wf Hr.refs, fun id hid => Mu.cut_low _ _ id (by have := hsub.next; omega), fun j a1 _ id b1 b2 => ?_, T0.size, T0.defers,
      fun t _ v hv => (T0.tmp t v hv).mono E, fun t j o _ h => ?_, (Trans.refl fl μ0 (S 0).2 w1).cutUp h0 hsub⟩
    · simp only [hall] at h; cases h
    · have := q3 j (Nat.zero_le _) a1 o a2; rw [a3] at this; cases this
    · have := D.nextLe T0 H0 h0 0 j (Nat.zero_le _) (by omega)
      exact Mu.cut_low _ _ id (by omega)
    · simp only [hall] at h; cases h

end
end Go.Proofs.YtpaffoiiipgkeaaDoor.Ab
