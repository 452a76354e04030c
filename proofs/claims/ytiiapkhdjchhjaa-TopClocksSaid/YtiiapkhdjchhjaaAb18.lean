/- From a body to a contract; how the machine is run by rewriting. -/
import Derived.Test.YtiiapkhdjchhjaaAb14
namespace Go.Proofs.Ytiiapkhdjchhjaa.Ab
open Go.RowKit
set_option linter.unusedVariables false
set_option linter.unusedSimpArgs false

structure Hok (fl : Nat) (A : Hp) : Prop where
  wf : ∀ id, A.next ≤ id → A.blk id = none
  floor : fl ≤ A.next
  refs : ∀ id cs g e, A.blk id = some (.row cs g e) → ∀ v ∈ cs, RB A.next v
  orefs : ∀ id k, A.blk id = some k → k.RBs A.next

def slots0 (args : List Value) : Tm := fun t => some (args.getD t undef)

section
variable {P : Program} {G : Gl}

def resOf (tmps : Array Value) : ResultVar → Sem Value
  | .tmp t => pure (tmps.getD t undef)
  | .cell a t => do loadVar t (← asAddr (tmps.getD a undef))

theorem ares_sound {n fl : Nat} {τ : Tm} {A : Hp} : ∀ (rs : List ResultVar) (acc : List Value) (K : List Value → Prop), ares G P τ A rs acc K →
    ∃ vs, K (acc ++ vs) ∧ ∀ (μ : Mu) (a : Act) (w : World), TR n μ A τ a → HR G μ fl A w → ∃ vs' : List Value, (rs.mapM (resOf a.tmps)).run P w = .ok vs' w ∧ VRa μ A vs.toArray vs'.toArray
  | [], acc, K, h => ⟨[], by rw [List.append_nil]; exact h, fun μ a w _ _ => ⟨[], by simp, ⟨rfl, fun i hi => by simp at hi⟩⟩⟩
  | r :: rs, acc, K, h => by
    have step : ∀ (v : Value), ares G P τ A rs (acc ++ [v]) K → (∀ (μ : Mu) (a : Act) (w : World), TR n μ A τ a → HR G μ fl A w → ∃ v', (resOf a.tmps r).run P w = .ok v' w ∧ VR μ A v v') →
        ∃ vs, K (acc ++ vs) ∧ ∀ (μ : Mu) (a : Act) (w : World), TR n μ A τ a → HR G μ fl A w → ∃ vs' : List Value, ((r :: rs).mapM (resOf a.tmps)).run P w = .ok vs' w ∧ VRa μ A vs.toArray vs'.toArray := by
      intro v h hv
      obtain ⟨vs, hK, hr⟩ := ares_sound rs _ _ h
      refine ⟨v :: vs, by simpa using hK, fun μ a w T H => ?_⟩
      obtain ⟨v', h1, h2⟩ := hv μ a w T H
      obtain ⟨vs', h3, h4⟩ := hr μ a w T H
      refine ⟨v' :: vs', by simp [List.mapM_cons, h1, h3], ⟨by have := h4.1; simpa using this, fun i hi hi' => ?_⟩⟩
      cases i with
      | zero => simpa using h2
      | succ i => have := h4.2 i (by simpa using hi) (by simpa using hi'); simpa using this
    cases r with
    | tmp t =>
      obtain ⟨v, hv, h⟩ := h
      exact step v h fun μ a w T H => ⟨_, by simp [resOf], T.tmp t v hv⟩
    | cell x t =>
      obtain ⟨p, hp, T, hT, h⟩ := h
      obtain ⟨i, d, z, hi, hd, hz', rfl⟩ := tyOf_inv hT
      rcases h with ⟨ha, h⟩ | ⟨ha, v, hv, h⟩
      · obtain ⟨vs, hK, hl, hg⟩ := rdn_spec _ _ _ _ h
        simp only [List.nil_append, Nat.zero_add] at hK hg
        refine step _ hK fun μ a w T H => ?_
        obtain ⟨p', hp', har⟩ := (T.tmp x _ hp).ptr_inv
        obtain ⟨vs', h1, h2, h3⟩ := loads H har vs hg
        have hl' : (loadCells p' i.size).run P w = .ok vs'.toArray w := by
          simp only at hl
          rw [← hl, h1]
          exact run_loadCells_list w p' vs' h2
        have ha' : aggB P t = true := ha
        refine ⟨.agg vs'.toArray, by simp [resOf, hp', asAddr, loadVar, run_isAgg' hd, ha', run_sizeOf' hi, hl'], ?_⟩
        have := VRa.list h1 h3
        exact .agg this.1 this.2
      · refine step _ h fun μ a w T H => ?_
        obtain ⟨p', hp', har⟩ := (T.tmp x _ hp).ptr_inv
        obtain ⟨v', h1, h2⟩ := H.get har hv
        have ha' : aggB P t = false := ha
        exact ⟨v', by simp [resOf, hp', asAddr, loadVar, run_isAgg' hd, ha', h1], h2⟩

/-- What may end a body. -/
def done (K : Tm → Hp → Prop) : Exit → Tm → Hp → Prop
  | .normal, τ, A | .ret, τ, A => K τ A
  | _, _, _ => False

/-- A call of a function with a body. -/
theorem calls_introE {E : Value → Hp → Prop} {f : FuncId} {fn : Func} {c c0 : Code} {args : List Value} {fl : Nat} {A C : Hp} {v : Value} (hmx : P.follows .mixedOrders = true) (hf : P.funcs[f]? = some fn) (hname : (fn.name == "runtime.NumGoroutine") = false)
    (hb : fn.body = some c0) (hu : unmark c = c0) (hok : okCode P fn.ntmps c = true) (hn : okArgs0 c fn.ntmps args.length = true)
    (h : Hok fl A → acode P G fl c (slots0 args) A (done fun τ B => ares G P τ B fn.results.toList [] fun vs => E (retv vs) B))
    (hE : ∀ {r : Value} {B : Hp}, E r B → ∀ {μ μ' : Mu} {w w' : World} {r' : Value}, HR G μ fl A w → fl ≤ A.next → Trans fl μ A w μ' B w' → HR G μ' fl B w' → VR μ' B r r' → ∃ ν, VR ν C v r' ∧ HR G ν fl C w' ∧ Trans fl μ A w ν C w') : ∀ (μ : Mu) (w : World) (args' : Array Value), HR G μ fl A w → fl ≤ A.next → VRa μ A args.toArray args' →
    Calls P f args' w fun e w' => ∃ u, e = .returned u ∧ ∃ ν, VR ν C v u ∧ HR G ν fl C w' ∧ Trans fl μ A w ν C w' := by
  intro μ w args' H hfl hargs
  have hn2 := hn
  simp only [okArgs0, Bool.and_eq_true, decide_eq_true_eq] at hn2
  obtain ⟨hn1, hn3⟩ := hn2
  have hI : Inv (abT c) (slots0 args) A := by
    have und : ∀ t ∈ abT c, slots0 args t = some undef := fun t ht => by
      have := of_decide_eq_true (List.all_eq_true.1 hn3 t ht)
      simp only [slots0, List.getD_eq_getElem?_getD]
      rw [List.getElem?_eq_none (by omega)]
      rfl
    refine ⟨fun t ht v hv => ?_, fun s hs t ht hst a b ha hb => ?_⟩
    · rw [und t ht] at hv; exact .inl (Option.some.inj hv).symm
    · rw [und s hs] at ha; cases ha
  have hsz := hargs.1
  simp only [List.size_toArray] at hsz
  have T : TR fn.ntmps μ A (slots0 args) { tmps := args' ++ Array.replicate (fn.ntmps - args'.size) undef, defers := [] } := by
    refine ⟨by simp; omega, rfl, fun t u hu => ?_⟩
    simp only [slots0, Option.some.injEq] at hu
    subst hu
    simp only [Array.getD_eq_getD_getElem?, List.getD_eq_getElem?_getD]
    by_cases ht : t < args.length
    · rw [Array.getElem?_append_left (by omega), List.getElem?_eq_getElem ht, Array.getElem?_eq_getElem (show t < args'.size by omega)]
      have := hargs.2 t (by simpa using ht) (by omega)
      simpa using this
    · rw [List.getElem?_eq_none (by omega), Array.getElem?_append_right (by omega)]
      have : ((Array.replicate (fn.ntmps - args'.size) undef)[t - args'.size]?).getD undef = undef := by
        by_cases hq : t - args'.size < fn.ntmps - args'.size <;> simp [hq]
      rw [this]
      exact VR.undef
  subst hu
  refine calls_of_wp hf hb (acode_sound hmx c hok (h ⟨H.wf, hfl, H.refs, H.orefs⟩) hI T H hfl fun e τ B μ' a' w' hK _ T' H' Tr' => ?_)
  have main : ares G P τ B fn.results.toList [] (fun vs => E (retv vs) B) → a'.defers = [] ∧ ∃ r, (results fn a'.tmps).run P w' = .ok r w' ∧ ∃ u, Ending.returned r = .returned u ∧ ∃ ν, VR ν C v u ∧ HR G ν fl C w' ∧ Trans fl μ A w ν C w' := by
    intro hr
    obtain ⟨vs, hEv, hrun⟩ := ares_sound (n := fn.ntmps) (fl := fl) _ _ _ hr
    simp only [List.nil_append] at hEv
    obtain ⟨vs', h1, h2⟩ := hrun μ' a' w' T' H'
    have hres : (fn.results.mapM (resOf a'.tmps)).run P w' = .ok vs'.toArray w' := by
      rw [Array.mapM_eq_mapM_toList, Sem.run_map, h1]; rfl
    have hv : VR μ' B (retv vs) (if h : vs'.toArray.size = 1 then vs'.toArray[0] else .tuple vs'.toArray) := by
      have hl : vs.length = vs'.length := by have := h2.1; simpa using this
      match vs, vs', hl with
      | [], [], _ => simp only [retv]; exact .tuple rfl fun i hi => by simp at hi
      | [x], [y], _ => have := h2.2 0 (by simp) (by simp); simpa [retv] using this
      | x :: x2 :: xs, y :: y2 :: ys, _ =>
        have : ¬ ((y :: y2 :: ys).toArray.size = 1) := by simp
        rw [dif_neg this]
        simp only [retv]
        exact .tuple h2.1 h2.2
    obtain ⟨ν, r1, r2, r3⟩ := hE hEv H hfl Tr' H' hv
    refine ⟨T'.defers, _, ?_, _, rfl, ν, r1, r2, r3⟩
    show (do let vs ← fn.results.mapM (resOf a'.tmps); pure (if h : vs.size = 1 then vs[0] else .tuple vs) : Sem Value).run P w' = _
    rw [Sem.run_bind, hres]
    rfl
  cases e with
  | normal => exact main hK
  | ret => exact main hK
  | _ => exact hK.elim

theorem calls_introM {f : FuncId} {fn : Func} {c c0 : Code} {args : List Value} {fl : Nat} {A C : Hp} {v : Value} (hmx : P.follows .mixedOrders = true) (hf : P.funcs[f]? = some fn) (hname : (fn.name == "runtime.NumGoroutine") = false)
    (hb : fn.body = some c0) (hu : unmark c = c0) (hok : okCode P fn.ntmps c = true) (hn : okArgs0 c fn.ntmps args.length = true)
    (h : Hok fl A → acode P G fl c (slots0 args) A (done fun τ B => ares G P τ B fn.results.toList [] fun vs => Ended A (retv vs) B v C)) : ∀ (μ : Mu) (w : World) (args' : Array Value), HR G μ fl A w → fl ≤ A.next → VRa μ A args.toArray args' →
    Calls P f args' w fun e w' => ∃ u, e = .returned u ∧ ∃ ν, VR ν C v u ∧ HR G ν fl C w' ∧ Trans fl μ A w ν C w' :=
  calls_introE (E := fun r B => Ended A r B v C) hmx hf hname hb hu hok hn h fun {r B} F {μ μ' w w' r'} H0 hfl T H hr => F.sound H0 hfl T H hr
theorem calls_intro {f : FuncId} {fn : Func} {c : Code} {args : List Value} {fl : Nat} {A C : Hp} {v : Value} (hmx : P.follows .mixedOrders = true) (hf : P.funcs[f]? = some fn) (hname : (fn.name == "runtime.NumGoroutine") = false)
    (hb : fn.body = some c) (hok : okCode P fn.ntmps c = true) (hn : okArgs c fn.ntmps args.length = true)
    (h : Hok fl A → acode P G fl c (slots0 args) A (done fun τ B => ares G P τ B fn.results.toList [] fun vs => Ended A (retv vs) B v C)) : ∀ (μ : Mu) (w : World) (args' : Array Value), HR G μ fl A w → fl ≤ A.next → VRa μ A args.toArray args' →
    Calls P f args' w fun e w' => ∃ u, e = .returned u ∧ ∃ ν, VR ν C v u ∧ HR G ν fl C w' ∧ Trans fl μ A w ν C w' := by
  simp only [okArgs, Bool.and_eq_true] at hn
  exact calls_introM hmx hf hname hb (unmark_plain hn.1) hok hn.2 h
theorem Sound.introM {f : FuncId} {fn : Func} {c c0 : Code} {args : List Value} {fl : Nat} {A C : Hp} {v : Value} (hmx : P.follows .mixedOrders = true) (hf : P.funcs[f]? = some fn) (hname : (fn.name == "runtime.NumGoroutine") = false)
    (hb : fn.body = some c0) (hu : unmark c = c0) (hok : okCode P fn.ntmps c = true) (hn : okArgs0 c fn.ntmps args.length = true)
    (h : Hok fl A → acode P G fl c (slots0 args) A (done fun τ B => ares G P τ B fn.results.toList [] fun vs => Ended A (retv vs) B v C)) : Sound P G f args fl A v C := by
  intro μ w args' H hfl hargs
  exact .inl ⟨⟨fn, hf, hname, by rw [hb]; rfl⟩, calls_introM hmx hf hname hb hu hok hn h μ w args' H hfl hargs⟩
/-- The body ends just so. -/
def EndS (r : Value) (B : Hp) (v : Value) (C : Hp) : Prop := r = v ∧ B = C
theorem Sound.introS {f : FuncId} {fn : Func} {c : Code} {args : List Value} {fl : Nat} {A C : Hp} {v : Value} (hmx : P.follows .mixedOrders = true) (hf : P.funcs[f]? = some fn) (hname : (fn.name == "runtime.NumGoroutine") = false)
    (hb : fn.body = some c) (hok : okCode P fn.ntmps c = true) (hn : okArgs c fn.ntmps args.length = true)
    (h : Hok fl A → acode P G fl c (slots0 args) A (done fun τ B => ares G P τ B fn.results.toList [] fun vs => EndS (retv vs) B v C)) : Sound P G f args fl A v C := by
  intro μ w args' H hfl hargs
  simp only [okArgs, Bool.and_eq_true] at hn
  refine .inl ⟨⟨fn, hf, hname, by rw [hb]; rfl⟩, calls_introE (E := fun r B => EndS r B v C) hmx hf hname hb (unmark_plain hn.1) hok hn.2 h (fun {r B} F {μ μ' w w' r'} H0 hfl T H hr => ?_) μ w args' H hfl hargs⟩
  obtain ⟨rfl, rfl⟩ := F
  exact ⟨_, hr, H, T⟩
theorem Sound.intro {f : FuncId} {fn : Func} {c : Code} {args : List Value} {fl : Nat} {A C : Hp} {v : Value} (hmx : P.follows .mixedOrders = true) (hf : P.funcs[f]? = some fn) (hname : (fn.name == "runtime.NumGoroutine") = false)
    (hb : fn.body = some c) (hok : okCode P fn.ntmps c = true) (hn : okArgs c fn.ntmps args.length = true)
    (h : Hok fl A → acode P G fl c (slots0 args) A (done fun τ B => ares G P τ B fn.results.toList [] fun vs => Ended A (retv vs) B v C)) : Sound P G f args fl A v C := by
  intro μ w args' H hfl hargs
  exact .inl ⟨⟨fn, hf, hname, by rw [hb]; rfl⟩, calls_intro hmx hf hname hb hok hn h μ w args' H hfl hargs⟩

theorem HR.of_below {fl : Nat} {μ : Mu} {A : Hp} {w w' : World} (H : HR G μ fl A w) (hfl : fl ≤ A.next) (b : Below w.heap.size w w') : HR G μ fl A w' ∧ Trans fl μ A w μ A w' := by
  have hf : ∀ bb j, bb < w.heap.size → w'.frozen? ⟨bb, j, none⟩ = w.frozen? ⟨bb, j, none⟩ := fun bb j hb => by simp only [World.frozen?, b.block bb hb]
  refine ⟨⟨H.wf, H.refs, fun id cs g e bb o S hb hm => ?_, fun id cs g e bb o S hfi hb hm j hj => ?_, H.apart, fun g cs hg => ?_, H.globApart, H.orefs, fun id k bb o S hb ho hm => ?_⟩, ⟨b.os, b.tape, b.output, b.size, Ext.refl _ _, fun _ _ => ⟨rfl, rfl⟩, fun _ _ h => h, fun k hk _ => b.block k hk, fun _ h => .inl h⟩⟩
  · obtain ⟨c, t, fr, h1, h2⟩ := H.row id cs g e bb o S hb hm
    exact ⟨c, t, fr, (b.block bb (Array.getElem?_eq_some_iff.1 h1).1).trans h1, h2⟩
  · rw [hf bb j (live_lt H (by rw [hb]; simp) hm)]
    exact H.free id cs g e bb o S hfi hb hm j hj
  · obtain ⟨c, t, fr, h1, h2⟩ := H.glob g cs hg
    exact ⟨c, t, fr, (b.block g (Array.getElem?_eq_some_iff.1 h1).1).trans h1, h2⟩
  · obtain ⟨ob, h1, h2⟩ := H.obj id k bb o S hb ho hm
    exact ⟨ob, (b.block bb (Array.getElem?_eq_some_iff.1 h1).1).trans h1, h2⟩

/-- A contract of the kit's, over scalars, as one of the machine's. -/
theorem Sound.of_scalar {f : FuncId} {args : List Value} {fl : Nat} {A : Hp} {v : Value} (hs : ∀ u ∈ args, zcA u = true ∧ ∀ (μ : Mu) (A : Hp) (u' : Value), VR μ A u u' → u' = u) (hv : zcA v = true)
    (h : ∀ w, CallsV P f args.toArray w fun v' w' => v' = v ∧ Below w.heap.size w w') : Sound P G f args fl A v A := by
  intro μ w args' H hfl hargs
  have : args' = args.toArray := by
    apply Array.ext'
    apply List.ext_getElem?
    intro i
    have hsz := hargs.1
    simp only [List.size_toArray] at hsz
    by_cases hi : i < args.length
    · have h1 := hargs.2 i (by simpa using hi) (by omega)
      have h2 := (hs _ (List.getElem_mem hi)).2 _ _ _ (by simpa using h1)
      rw [Array.getElem?_toList, Array.getElem?_eq_getElem (show i < args'.size by omega), h2]
      simp [hi]
    · rw [List.getElem?_eq_none (by simp; omega), List.getElem?_eq_none (by simp; omega)]
  subst this
  rcases h w with ⟨hfn, hc⟩ | ⟨v', w', hr, rfl, hb⟩
  · refine .inl ⟨hfn, hc.mono fun e w' he => ?_⟩
    obtain ⟨u, rfl, rfl, hb⟩ := he
    obtain ⟨h1, h2⟩ := H.of_below hfl hb
    exact ⟨_, rfl, μ, VR.of_zcA hv, h1, h2⟩
  · obtain ⟨h1, h2⟩ := H.of_below hfl hb
    exact .inr ⟨_, w', hr, μ, VR.of_zcA hv, h1, h2⟩

/-! ends -/
theorem RB.zc {n : Nat} {v : Value} (h : zcA v = true) : RB n v := ⟨v, VR.of_zcA h⟩
theorem RB.int {n : Nat} (k : IntKind) (x : Int) : RB n (.int k x) := ⟨_, .int k x⟩
theorem RB.bool {n : Nat} (b : Bool) : RB n (.bool b) := ⟨_, .bool b⟩
theorem RB.string {n : Nat} (s : ByteArray) : RB n (.string s) := ⟨_, .string s⟩
theorem RB.sl0 {n : Nat} (a b : Nat) : RB n (.slice none a b) := ⟨_, .sl0 a b⟩
theorem RB.all {n : Nat} {xs : Array Value} (h : ∀ v ∈ xs.toList, RB n v) : ∃ ys : Array Value, VRa (fun _ => none) ⟨n, fun _ => none⟩ xs ys := by
  have h' : ∀ (i : Nat) (hi : i < xs.size), RB n xs[i] := fun i hi => h _ (by simp)
  refine ⟨Array.ofFn fun i : Fin xs.size => (h' i.1 i.2).choose, by simp, fun i hi hi' => ?_⟩
  simp only [Array.getElem_ofFn]
  exact (h' i hi).choose_spec
theorem RB.agg {n : Nat} {xs : Array Value} (h : ∀ v ∈ xs.toList, RB n v) : RB n (.agg xs) := by
  obtain ⟨ys, h1, h2⟩ := RB.all h; exact ⟨_, .agg h1 h2⟩
theorem RB.tuple {n : Nat} {xs : Array Value} (h : ∀ v ∈ xs.toList, RB n v) : RB n (.tuple xs) := by
  obtain ⟨ys, h1, h2⟩ := RB.all h; exact ⟨_, .tuple h1 h2⟩

/-- Nothing old has turned, and the result leads nowhere new: the heap is told as it was. -/
theorem Ended.same {fl : Nat} {A B : Hp} {r : Value} (hA : Hok fl A) (hr : RB A.next r) (hb : ∀ id, id < A.next → B.blk id = A.blk id) : Ended A r B r A :=
  ⟨fun _ => none, ⟨Nat.le_refl _, fun id h => (hb id h).symm, fun id h k hbk => .inl (by rw [← hb id h]; exact hbk), hA.wf, fun k h1 h2 => (by omega), fun k p h => (by cases h), fun k k' id sh sh' h => (by cases h)⟩, .same hr⟩

end

/-! running by rewriting: what follows is handed on as an instance, which the rewriter leaves alone until it is reached -/
class Kt (α : Type) where
  run : α → Prop
class Pt where
  p : Prop

def bO {α : Type} (o : Option α) [K : Kt α] : Prop := ∃ x, o = some x ∧ K.run x
def bI (v : Value) [K : Kt (IntKind × Int)] : Prop := ∃ k n, v = .int k n ∧ K.run (k, n)
def bB (v : Value) [K : Kt Bool] : Prop := ∃ b, v = .bool b ∧ K.run b
def bS (v : Value) [K : Kt ByteArray] : Prop := ∃ b, v = .string b ∧ K.run b
def bP (v : Value) [K : Kt Addr] : Prop := ∃ p, v = .pointer (some p) ∧ K.run p
def bA (v : Value) [K : Kt (Array Value)] : Prop := ∃ p, v = .agg p ∧ K.run p
def bT (v : Value) [K : Kt (Array Value)] : Prop := ∃ p, v = .tuple p ∧ K.run p
def bF (v : Value) [K : Kt (FuncId × Array Value × Array Value)] : Prop := ∃ f a b, v = .func (.func f) a b ∧ K.run (f, a, b)
/-- Two ways, by a bool. -/
def brT (b : Bool) (X Y : Pt) : Prop := (b = true → X.p) ∧ (b = false → Y.p)
def brI (b : Bool) [X : Pt] (Y : Unit) [Z : Pt] : Prop := (b = true → X.p) ∧ (b = false → Z.p)

theorem bO_some {α : Type} (x : α) (f : α → Prop) : @bO α (some x) ⟨f⟩ = f x := by
  apply propext; constructor
  · rintro ⟨y, h, hk⟩; cases h; exact hk
  · intro h; exact ⟨x, rfl, h⟩
theorem bI_int (k : IntKind) (n : Int) (f : IntKind × Int → Prop) : @bI (.int k n) ⟨f⟩ = f (k, n) := by
  apply propext; constructor
  · rintro ⟨k', n', h, hk⟩; cases h; exact hk
  · intro h; exact ⟨k, n, rfl, h⟩
theorem bB_bool (b : Bool) (f : Bool → Prop) : @bB (.bool b) ⟨f⟩ = f b := by
  apply propext; constructor
  · rintro ⟨n', h, hk⟩; cases h; exact hk
  · intro h; exact ⟨b, rfl, h⟩
theorem bS_str (b : ByteArray) (f : ByteArray → Prop) : @bS (.string b) ⟨f⟩ = f b := by
  apply propext; constructor
  · rintro ⟨n', h, hk⟩; cases h; exact hk
  · intro h; exact ⟨b, rfl, h⟩
theorem bP_ptr (p : Addr) (f : Addr → Prop) : @bP (.pointer (some p)) ⟨f⟩ = f p := by
  apply propext; constructor
  · rintro ⟨n', h, hk⟩; cases h; exact hk
  · intro h; exact ⟨p, rfl, h⟩
theorem bA_agg (p : Array Value) (f : Array Value → Prop) : @bA (.agg p) ⟨f⟩ = f p := by
  apply propext; constructor
  · rintro ⟨n', h, hk⟩; cases h; exact hk
  · intro h; exact ⟨p, rfl, h⟩
theorem bT_tuple (p : Array Value) (f : Array Value → Prop) : @bT (.tuple p) ⟨f⟩ = f p := by
  apply propext; constructor
  · rintro ⟨n', h, hk⟩; cases h; exact hk
  · intro h; exact ⟨p, rfl, h⟩
theorem bF_func (g : FuncId) (a b : Array Value) (f : FuncId × Array Value × Array Value → Prop) : @bF (.func (.func g) a b) ⟨f⟩ = f (g, a, b) := by
  apply propext; constructor
  · rintro ⟨_, _, _, h, hk⟩; cases h; exact hk
  · intro h; exact ⟨g, a, b, rfl, h⟩
theorem brI_true {X Z : Prop} : @brI true ⟨X⟩ () ⟨Z⟩ = X := by simp [brI]
theorem brI_false {X Z : Prop} : @brI false ⟨X⟩ () ⟨Z⟩ = Z := by simp [brI]
theorem brI_dec {p : Prop} [Decidable p] {X Z : Prop} : @brI (decide p) ⟨X⟩ () ⟨Z⟩ = ((p → X) ∧ (¬ p → Z)) := by simp [brI]
theorem brI_any {b : Bool} {X Z : Prop} : @brI b ⟨X⟩ () ⟨Z⟩ = ((b = true → X) ∧ (b = false → Z)) := (rfl)
theorem brI_not {b : Bool} {X Z : Prop} : @brI (!b) ⟨X⟩ () ⟨Z⟩ = @brI b ⟨Z⟩ () ⟨X⟩ := by cases b <;> simp [brI]

section
variable {P : Program} {G : Gl} {fl : Nat} {flo : Oper → Hp → Nat} {ops os : List Oper} {τ : Tm} {A : Hp} {d : Option Tmp} {t : TypeId} {ps : String} {af : Array Edge} {g : Option (Nat × Bool)}

theorem r_skip {K} : acode P G fl .skip τ A K = K .normal τ A := (rfl)
theorem r_exit {id K} : acode P G fl (.exit id) τ A K = K (.exit id) τ A := (rfl)
theorem r_ret {K} : acode P G fl .ret τ A K = K .ret τ A := (rfl)
theorem r_region {id : Nat} {l : List Oper} {K} (h : id < 1000000) : acode P G fl (.region id l.toArray false) τ A K = aops P G (fun _ _ => fl) l l τ A (K .normal) := by simp only [acode, if_neg (show ¬ 1000000 ≤ id by omega)]; rfl
theorem r_regionD {id : Nat} {l : List Oper} {K} (h : id < 1000000) : acode P G fl (.region id l.toArray true) τ A K = aops P G (floOf P fl l.toArray true) l l τ A (K .normal) := by simp only [acode, if_neg (show ¬ 1000000 ≤ id by omega)]
theorem r_regionL {id : Nat} {l : List Oper} {K} (h : 1000000 ≤ id) (h' : id < 2000000) : acode P G fl (.region id l.toArray true) τ A K = lowRun P G fl l τ A (K .normal) := by simp only [acode, if_pos h, if_neg (show ¬ 2000000 ≤ id by omega)]
theorem r_regionA {id : Nat} {l : List Oper} {K} (h : 2000000 ≤ id) : acode P G fl (.region id l.toArray true) τ A K = anyOrd P G fl l.toArray τ A (K .normal) := by simp only [acode, if_pos h, if_pos (show 1000000 ≤ id by omega)]
/-- What follows a piece of code. -/
def thenK (P : Program) (G : Gl) (fl : Nat) (b : Code) (K : Exit → Tm → Hp → Prop) : Exit → Tm → Hp → Prop := fun e τ A => match e with | .normal => acode P G fl b τ A K | e => K e τ A
def blockK (id : Nat) (K : Exit → Tm → Hp → Prop) : Exit → Tm → Hp → Prop := fun e τ A => match e with | .exit i => if i = id then K .normal τ A else K (.exit i) τ A | e => K e τ A
theorem r_seq {a b K} : acode P G fl (.seq a b) τ A K = acode P G fl a τ A (thenK P G fl b K) := (rfl)
theorem r_block {id c K} : acode P G fl (.block id c) τ A K = acode P G fl c τ A (blockK id K) := (rfl)
theorem k_then {b K} : thenK P G fl b K .normal τ A = acode P G fl b τ A K := (rfl)
theorem k_then_ret {b K} : thenK P G fl b K .ret τ A = K .ret τ A := (rfl)
theorem k_then_exit {b K i} : thenK P G fl b K (.exit i) τ A = K (.exit i) τ A := (rfl)
theorem k_block {id K} : blockK id K .normal τ A = K .normal τ A := (rfl)
theorem k_block_ret {id K} : blockK id K .ret τ A = K .ret τ A := (rfl)
theorem k_block_here {id K} : blockK id K (.exit id) τ A = K .normal τ A := by simp [blockK]
theorem k_block_exit {id i K} (h : (i == id) = false) : blockK id K (.exit i) τ A = K (.exit i) τ A := by
  have : ¬ i = id := by simpa using h
  simp [blockK, this]
theorem k_done {K} : done K .normal τ A = K τ A := (rfl)
theorem k_done_ret {K} : done K .ret τ A = K τ A := (rfl)
theorem r_cond {c x y K} : acode P G fl (.cond c x y) τ A K = @bO _ (ev τ c) ⟨fun v => @bB v ⟨fun b => @brI b ⟨acode P G fl x (setb τ c true) A K⟩ () ⟨acode P G fl y (setb τ c false) A K⟩⟩⟩ := by
  apply propext; constructor
  · rintro ⟨b, h1, h2⟩; exact ⟨_, h1, b, rfl, h2⟩
  · rintro ⟨_, h1, b, rfl, h2⟩; exact ⟨b, h1, h2⟩

theorem r_nil {K} : aops P G flo ops [] τ A K = K τ A := (rfl)
theorem r_op {op K} : aops P G flo ops (⟨d, op, t, ps, af, none⟩ :: os) τ A K = aop P G (flo ⟨d, op, t, ps, af, none⟩ A) ⟨d, op, t, ps, af, none⟩ τ A fun v A' => aops P G flo ops os (updO τ d v) A' K := (rfl)
/-- A guarded operation, by what its guard yields. -/
def agd (u : Value) (w : Bool) [X : Pt] (m : Unit) [Y : Pt] (n : Unit) [Z : Pt] : Prop := (∃ b, u = .bool b ∧ (b = w → X.p) ∧ (b = !w → Y.p)) ∨ (u = undef ∧ Z.p)
theorem agd_yes {b : Bool} {X Y Z : Prop} : @agd (.bool b) true ⟨X⟩ () ⟨Y⟩ () ⟨Z⟩ = @brI b ⟨X⟩ () ⟨Y⟩ := by
  apply propext; constructor
  · rintro (⟨_, h, hk⟩ | ⟨h, _⟩)
    · cases h; exact hk
    · cases h
  · intro h; exact .inl ⟨b, rfl, h⟩
theorem agd_no {b : Bool} {X Y Z : Prop} : @agd (.bool b) false ⟨X⟩ () ⟨Y⟩ () ⟨Z⟩ = @brI b ⟨Y⟩ () ⟨X⟩ := by
  apply propext; constructor
  · rintro (⟨_, h, hk⟩ | ⟨h, _⟩)
    · cases h; exact ⟨hk.2, hk.1⟩
    · cases h
  · intro h; exact .inl ⟨b, rfl, h.2, h.1⟩
theorem agd_undef {w : Bool} {X Y Z : Prop} : @agd undef w ⟨X⟩ () ⟨Y⟩ () ⟨Z⟩ = Z := by
  apply propext; constructor
  · rintro (⟨_, h, hk⟩ | ⟨_, h⟩)
    · cases h
    · exact h
  · intro h; exact .inr ⟨rfl, h⟩
theorem r_guard {op j w K} : aops P G flo ops (⟨d, op, t, ps, af, some (j, w)⟩ :: os) τ A K = @bO _ ((ops[j]?).bind (·.dst)) ⟨fun x => @bO _ (τ x) ⟨fun u =>
    @agd u w ⟨aop P G (flo ⟨d, op, t, ps, af, some (j, w)⟩ A) ⟨d, op, t, ps, af, some (j, w)⟩ (upd τ x (.bool w)) A fun v A' => aops P G flo ops os (updO (upd τ x (.bool w)) d v) A' K⟩
      () ⟨aops P G flo ops os (updO (upd τ x (.bool (!w))) d undef) A K⟩ () ⟨aops P G flo ops os (updO τ d undef) A K⟩⟩⟩ := by
  apply propext
  simp only [aops, bO, agd]
  constructor
  · rintro ⟨x, h1, (⟨b, h2, h3⟩ | ⟨h2, h3⟩)⟩
    · exact ⟨x, h1, _, h2, .inl ⟨b, rfl, h3⟩⟩
    · exact ⟨x, h1, _, h2, .inr ⟨rfl, h3⟩⟩
  · rintro ⟨x, h1, u, h2, (⟨b, rfl, h3⟩ | ⟨rfl, h3⟩)⟩
    · exact ⟨x, h1, .inl ⟨b, h2, h3⟩⟩
    · exact ⟨x, h1, .inr ⟨h2, h3⟩⟩

/-- A call, met. -/
def aCall (P : Program) (G : Gl) (f : FuncId) (args : List Value) (fl : Nat) (A : Hp) [K : Kt (Value × Hp)] : Prop := acall P G f args fl A fun v A' => K.run (v, A')
/-- Arithmetic, met. -/
def aBin (P : Program) (op : BinOp) (e : TypeId) (a b : Value) [K : Kt Value] : Prop := abin P op e a b K.run
/-- A value read at a type. -/
def readT (G : Gl) (A : Hp) (T : Ty) (p : Addr) [K : Kt Value] : Prop := (T.agg = true ∧ rdn G A p 0 T.size [] fun vs => K.run (.agg vs.toArray)) ∨ (T.agg = false ∧ @bO _ (A.get G p) K)
def rdT (G : Gl) (A : Hp) (p : Addr) (i n : Nat) (acc : List Value) [K : Kt (List Value)] : Prop := rdn G A p i n acc K.run
/-- A part of an aggregate. -/
def partT (T : Ty) (cs : Array Value) (off : Nat) [K : Kt Value] : Prop := (T.agg = true ∧ K.run (.agg (cs.extract off (off + T.size)))) ∨ (T.agg = false ∧ @bO _ (cs[off]?) K)
/-- Several operands' values. -/
def eVs (τ : Tm) (xs : List Operand) (acc : List Value) [K : Kt (List Value)] : Prop := evs τ xs acc K.run
def eVp (τ : Tm) (xs : List (Nat × Operand)) (acc : List (Nat × Value)) [K : Kt (List (Nat × Value))] : Prop := evp τ xs acc K.run
def aRes (G : Gl) (P : Program) (τ : Tm) (A : Hp) (rs : List ResultVar) (acc : List Value) [K : Kt (List Value)] : Prop := ares G P τ A rs acc K.run
/-- A side condition, then what follows. -/
def side (p : Prop) [K : Pt] : Prop := p ∧ K.p
theorem side_true {X : Prop} : @side True ⟨X⟩ = X := by simp [side]
theorem side_of {p : Prop} [K : Pt] (h : p) (k : K.p) : side p := ⟨h, k⟩

section
variable {K : Value → Hp → Prop}
theorem r_move {x} : aop P G fl ⟨d, .move x, t, ps, af, g⟩ τ A K = @bO _ (ev τ x) ⟨fun v => K v A⟩ := (rfl)
theorem r_assign {x} : aop P G fl ⟨d, .assign x, t, ps, af, g⟩ τ A K = @bO _ (ev τ x) ⟨fun v => K v A⟩ := (rfl)
theorem r_pick {c x y} : aop P G fl ⟨d, .pick c x y, t, ps, af, g⟩ τ A K = @bO _ (ev τ c) ⟨fun v => @bB v ⟨fun b => @brI b ⟨@bO _ (ev τ x) ⟨fun v => K v A⟩⟩ () ⟨@bO _ (ev τ y) ⟨fun v => K v A⟩⟩⟩⟩ := by
  apply propext; constructor
  · rintro ⟨b, h1, h2, h3⟩; exact ⟨_, h1, b, rfl, h2, h3⟩
  · rintro ⟨_, h1, b, rfl, h2, h3⟩; exact ⟨b, h1, h2, h3⟩
theorem r_alloc {e} : aop P G fl ⟨d, .alloc e, t, ps, af, g⟩ τ A K = @bO _ (tyOf P e) ⟨fun T => @side (T.zero.all zc = true) ⟨K (.pointer (some ⟨A.next, 0, some 0⟩)) (A.push (.row T.zero 0 T.esz))⟩⟩ := (rfl)
theorem r_box {e x} : aop P G fl ⟨d, .box e x, t, ps, af, g⟩ τ A K = @bO _ (tyOf P e) ⟨fun T => @bO _ (ev τ x) ⟨fun v => K (.pointer (some ⟨A.next, 0, some 0⟩)) (A.push (.row v.cells.toList 0 T.esz))⟩⟩ := (rfl)
def nilC (v : Value) [K : Kt Value] : Prop := (∃ p, v = .pointer (some p) ∧ K.run (.pointer (some p))) ∨ (∃ f a b, v = .func (.func f) a b ∧ K.run (.func (.func f) a b))
theorem nilC_ptr {p : Addr} {f : Value → Prop} : @nilC (.pointer (some p)) ⟨f⟩ = f (.pointer (some p)) := by
  apply propext; constructor
  · rintro (⟨_, h, hk⟩ | ⟨_, _, _, h, _⟩)
    · cases h; exact hk
    · cases h
  · intro h; exact .inl ⟨p, rfl, h⟩
theorem nilC_func {i : FuncId} {a b : Array Value} {f : Value → Prop} : @nilC (.func (.func i) a b) ⟨f⟩ = f (.func (.func i) a b) := by
  apply propext; constructor
  · rintro (⟨_, h, hk⟩ | ⟨_, _, _, h, hk⟩)
    · cases h
    · cases h; exact hk
  · intro h; exact .inr ⟨i, a, b, rfl, h⟩
theorem r_nilCheck {x} : aop P G fl ⟨d, .nilCheck x, t, ps, af, g⟩ τ A K = @bO _ (ev τ x) ⟨fun v => @nilC v ⟨fun v => K v A⟩⟩ := by
  apply propext; constructor
  · rintro (⟨p, h1, h2⟩ | ⟨f, a, b, h1, h2⟩)
    · exact ⟨_, h1, .inl ⟨p, rfl, h2⟩⟩
    · exact ⟨_, h1, .inr ⟨f, a, b, rfl, h2⟩⟩
  · rintro ⟨_, h1, (⟨p, rfl, h2⟩ | ⟨f, a, b, rfl, h2⟩)⟩
    · exact .inl ⟨p, h1, h2⟩
    · exact .inr ⟨f, a, b, h1, h2⟩
theorem r_bin {op e x y u} : aop P G fl ⟨d, .binOp op e x y u, t, ps, af, g⟩ τ A K = @bO _ (ev τ x) ⟨fun a => @bO _ (ev τ y) ⟨fun b => @aBin P op e a b ⟨fun v => K v A⟩⟩⟩ := (rfl)
theorem r_not {e x} : aop P G fl ⟨d, .unOp .not e x, t, ps, af, g⟩ τ A K = @bO _ (ev τ x) ⟨fun v => @bB v ⟨fun b => K (.bool (!b)) A⟩⟩ := by
  apply propext; constructor
  · rintro ⟨b, h1, h2⟩; exact ⟨_, h1, b, rfl, h2⟩
  · rintro ⟨_, h1, b, rfl, h2⟩; exact ⟨b, h1, h2⟩
theorem r_neg {e x} : aop P G fl ⟨d, .unOp .neg e x, t, ps, af, g⟩ τ A K = @bO _ (ev τ x) ⟨fun v => @bI v ⟨fun kn => K (.int kn.1 (kn.1.wrap (0 - kn.2))) A⟩⟩ := by
  apply propext; constructor
  · rintro ⟨k, n, h1, h2⟩; exact ⟨_, h1, k, n, rfl, h2⟩
  · rintro ⟨_, h1, k, n, rfl, h2⟩; exact ⟨k, n, h1, h2⟩
theorem r_extract {x i} : aop P G fl ⟨d, .extract x i, t, ps, af, g⟩ τ A K = @bO _ (ev τ x) ⟨fun v => @bT v ⟨fun vs => @bO _ (vs[i]?) ⟨fun v => K v A⟩⟩⟩ := by
  apply propext; constructor
  · rintro ⟨vs, h1, v, h2, h3⟩; exact ⟨_, h1, vs, rfl, v, h2, h3⟩
  · rintro ⟨_, h1, vs, rfl, v, h2, h3⟩; exact ⟨vs, h1, v, h2, h3⟩
theorem r_load {e x} : aop P G fl ⟨d, .load e x, t, ps, af, g⟩ τ A K = @bO _ (ev τ x) ⟨fun v => @bP v ⟨fun p => @bO _ (tyOf P e) ⟨fun T => @readT G A T p ⟨fun v => K v A⟩⟩⟩⟩ := by
  apply propext; constructor
  · rintro ⟨p, h1, T, h2, h3⟩; exact ⟨_, h1, p, rfl, T, h2, h3⟩
  · rintro ⟨_, h1, p, rfl, T, h2, h3⟩; exact ⟨p, h1, T, h2, h3⟩
theorem readT_agg {D : TD} {sz by_ es : Nat} {z : List Value} {p : Addr} {f : Value → Prop} : @readT G A ⟨D, sz, by_, z, true, es⟩ p ⟨f⟩ = @rdT G A p 0 sz [] ⟨fun vs => f (.agg vs.toArray)⟩ := by simp [readT, rdT]
theorem readT_one {D : TD} {sz by_ es : Nat} {z : List Value} {p : Addr} {f : Value → Prop} : @readT G A ⟨D, sz, by_, z, false, es⟩ p ⟨f⟩ = @bO _ (A.get G p) ⟨f⟩ := by simp [readT]
theorem r_rdn0 {p i acc} {f : List Value → Prop} : @rdT G A p i 0 acc ⟨f⟩ = f acc := (rfl)
theorem r_rdn {p i n acc} {f : List Value → Prop} : @rdT G A p i (n + 1) acc ⟨f⟩ = @bO _ (A.get G (aadd p i)) ⟨fun v => @rdT G A p (i + 1) n (acc ++ [v]) ⟨f⟩⟩ := (rfl)
/-- A store into a block. -/
def stB (fl : Nat) (A : Hp) (p : Addr) (v : Value) (g : Nat) (b : Blk) [K : Kt Hp] : Prop := ∃ cs e, b = .row cs g e ∧ fl ≤ p.block ∧ p.off + v.cells.size ≤ cs.length ∧ K.run (A.put p.block (.row (wr cs p.off v.cells.toList) g e))
theorem stB_row {p : Addr} {v : Value} {g e : Nat} {cs : List Value} {f : Hp → Prop} : @stB fl A p v g (.row cs g e) ⟨f⟩ = @side (fl ≤ p.block) ⟨@side (p.off + v.cells.size ≤ cs.length) ⟨f (A.put p.block (.row (wr cs p.off v.cells.toList) g e))⟩⟩ := by
  apply propext; constructor
  · rintro ⟨_, _, h, h1, h2, h3⟩; cases h; exact ⟨h1, h2, h3⟩
  · rintro ⟨h1, h2, h3⟩; exact ⟨_, _, rfl, h1, h2, h3⟩
theorem r_store {e x y} : aop P G fl ⟨d, .store e x y, t, ps, af, g⟩ τ A K = @bO _ (ev τ x) ⟨fun v => @bP v ⟨fun p => @bO _ (ev τ y) ⟨fun v => @bO _ (tyOf P e) ⟨fun T => @side (v.cells.size = T.size) ⟨@side (ones v = true)
    ⟨@bO _ p.spot ⟨fun g => @bO _ (A.blk p.block) ⟨fun b => @stB fl A p v g b ⟨fun A' => K undef A'⟩⟩⟩⟩⟩⟩⟩⟩⟩ := by
  apply propext; constructor
  · rintro ⟨p, h1, v, h2, T, h3, h4, h5, g, cs, e, h6, h7, h8⟩; exact ⟨_, h1, p, rfl, v, h2, T, h3, h4, h5, g, h6, _, h7, cs, e, rfl, h8⟩
  · rintro ⟨_, h1, p, rfl, v, h2, T, h3, h4, h5, g, h6, _, h7, cs, e, rfl, h8⟩; exact ⟨p, h1, v, h2, T, h3, h4, h5, g, cs, e, h6, h7, h8⟩
theorem r_fieldAddr {s x i} : aop P G fl ⟨d, .fieldAddr s x i, t, ps, af, g⟩ τ A K = @bO _ (ev τ x) ⟨fun v => @bP v ⟨fun p => @bO _ (tyOf P s) ⟨fun S => @bO _ ((placesOf S.d)[i]?) ⟨fun f => @side (f.2.1 ≠ 0) ⟨K (.pointer (some (aadd p f.1))) A⟩⟩⟩⟩⟩ := by
  apply propext; constructor
  · rintro ⟨p, h1, h2⟩; exact ⟨_, h1, p, rfl, h2⟩
  · rintro ⟨_, h1, p, rfl, h2⟩; exact ⟨p, h1, h2⟩
theorem partT_agg {D : TD} {sz by_ es : Nat} {z : List Value} {cs : Array Value} {off : Nat} {f : Value → Prop} : @partT ⟨D, sz, by_, z, true, es⟩ cs off ⟨f⟩ = f (.agg (cs.extract off (off + sz))) := by simp [partT]
theorem partT_one {D : TD} {sz by_ es : Nat} {z : List Value} {cs : Array Value} {off : Nat} {f : Value → Prop} : @partT ⟨D, sz, by_, z, false, es⟩ cs off ⟨f⟩ = @bO _ (cs[off]?) ⟨f⟩ := by simp [partT]
theorem r_field {s x i} : aop P G fl ⟨d, .field s x i, t, ps, af, g⟩ τ A K = @bO _ (ev τ x) ⟨fun v => @bA v ⟨fun cs => @bO _ (tyOf P s) ⟨fun S => @bO _ ((placesOf S.d)[i]?) ⟨fun f => @bO _ (tyOf P f.2.2) ⟨fun T => @partT T cs f.1 ⟨fun v => K v A⟩⟩⟩⟩⟩⟩ := by
  apply propext; constructor
  · rintro ⟨cs, h1, h2⟩; exact ⟨_, h1, cs, rfl, h2⟩
  · rintro ⟨_, h1, cs, rfl, h2⟩; exact ⟨cs, h1, h2⟩
theorem r_makeFunc {f first captured} : aop P G fl ⟨d, .makeFunc (.func f) first captured, t, ps, af, g⟩ τ A K = @eVs τ first.toList [] ⟨fun xs => @eVs τ captured.toList [] ⟨fun ys => K (.func (.func f) xs.toArray ys.toArray) A⟩⟩ := by
  apply propext; constructor
  · rintro ⟨f', h1, h2⟩; exact h2
  · intro h; exact ⟨f, rfl, h⟩
theorem r_call {f} {args : Array Operand} {tys} : aop P G fl ⟨d, .call ⟨.value f, args, tys⟩, t, ps, af, g⟩ τ A K = @bO _ (ev τ f) ⟨fun v => @bF v ⟨fun q => @eVs τ args.toList [] ⟨fun xs => @aCall P G q.1 (q.2.1.toList ++ xs ++ q.2.2.toList) fl A ⟨fun r => K r.1 r.2⟩⟩⟩⟩ := by
  apply propext; constructor
  · rintro ⟨a, b, c, h1, h2⟩; exact ⟨_, h1, a, b, c, rfl, h2⟩
  · rintro ⟨_, h1, a, b, c, rfl, h2⟩; exact ⟨a, b, c, h1, h2⟩
theorem r_evs0 {acc} {f : List Value → Prop} : @eVs τ [] acc ⟨f⟩ = f acc := (rfl)
theorem r_evs {x xs acc} {f : List Value → Prop} : @eVs τ (x :: xs) acc ⟨f⟩ = @bO _ (ev τ x) ⟨fun v => @eVs τ xs (acc ++ [v]) ⟨f⟩⟩ := (rfl)
theorem r_evp0 {acc} {f : List (Nat × Value) → Prop} : @eVp τ [] acc ⟨f⟩ = f acc := (rfl)
theorem r_evp {i x xs acc} {f : List (Nat × Value) → Prop} : @eVp τ ((i, x) :: xs) acc ⟨f⟩ = @bO _ (ev τ x) ⟨fun v => @eVp τ xs (acc ++ [(i, v)]) ⟨f⟩⟩ := (rfl)
/-- The result of a body. -/
theorem r_ares {rs} {f : List Value → Prop} : ares G P τ A rs [] f = @aRes G P τ A rs [] ⟨f⟩ := (rfl)
theorem r_res0 {acc} {f : List Value → Prop} : @aRes G P τ A [] acc ⟨f⟩ = f acc := (rfl)
theorem r_res {x rs acc} {f : List Value → Prop} : @aRes G P τ A (.tmp x :: rs) acc ⟨f⟩ = @bO _ (τ x) ⟨fun v => @aRes G P τ A rs (acc ++ [v]) ⟨f⟩⟩ := (rfl)
theorem r_resc {x e rs acc} {f : List Value → Prop} : @aRes G P τ A (.cell x e :: rs) acc ⟨f⟩ = @bO _ (τ x) ⟨fun v => @bP v ⟨fun p => @bO _ (tyOf P e) ⟨fun T => @readT G A T p ⟨fun v => @aRes G P τ A rs (acc ++ [v]) ⟨f⟩⟩⟩⟩⟩ := by
  apply propext; constructor
  · rintro ⟨p, h1, T, h2, h3⟩; exact ⟨_, h1, p, rfl, T, h2, h3⟩
  · rintro ⟨_, h1, p, rfl, T, h2, h3⟩; exact ⟨p, h1, T, h2, h3⟩
end

section
variable {f : Value → Prop} {k : IntKind} {x y : Int} {e : TypeId}
theorem two_int {F : IntKind → Int → Int → Prop} : (∃ k' x' y', Value.int k x = .int k' x' ∧ Value.int k y = .int k' y' ∧ F k' x' y') = F k x y := by
  apply propext; constructor
  · rintro ⟨_, _, _, h1, h2, h3⟩; cases h1; cases h2; exact h3
  · intro h; exact ⟨_, _, _, rfl, rfl, h⟩
theorem two_int2 {k2 : IntKind} {F : IntKind → IntKind → Int → Int → Prop} : (∃ k' k'' x' y', Value.int k x = .int k' x' ∧ Value.int k2 y = .int k'' y' ∧ F k' k'' x' y') = F k k2 x y := by
  apply propext; constructor
  · rintro ⟨_, _, _, _, h1, h2, h3⟩; cases h1; cases h2; exact h3
  · intro h; exact ⟨_, _, _, _, rfl, rfl, h⟩
theorem b_add : @aBin P .add e (.int k x) (.int k y) ⟨f⟩ = f (.int k (k.wrap (x + y))) := by
  apply propext; constructor
  · rintro (⟨_, _, _, h1, h2, h3⟩ | ⟨_, _, h1, _⟩)
    · cases h1; cases h2; exact h3
    · cases h1
  · intro h; exact .inl ⟨_, _, _, rfl, rfl, h⟩
theorem b_cat {s u : ByteArray} : @aBin P .add e (.string s) (.string u) ⟨f⟩ = @side (s.size + u.size ≤ 9223372036854775807) ⟨f (.string (s ++ u))⟩ := by
  apply propext; constructor
  · rintro (⟨_, _, _, h1, h2, h3⟩ | ⟨_, _, h1, h2, h3⟩)
    · cases h1
    · cases h1; cases h2; exact h3
  · intro h; exact .inr ⟨_, _, rfl, rfl, h⟩
theorem b_sub : @aBin P .sub e (.int k x) (.int k y) ⟨f⟩ = f (.int k (k.wrap (x - y))) := two_int (F := _)
theorem b_mul : @aBin P .mul e (.int k x) (.int k y) ⟨f⟩ = f (.int k (k.wrap (x * y))) := two_int (F := _)
theorem b_quo : @aBin P .quo e (.int k x) (.int k y) ⟨f⟩ = @side (y ≠ 0) ⟨f (.int k (k.wrap (x.tdiv y)))⟩ := two_int (F := _)
theorem b_rem : @aBin P .rem e (.int k x) (.int k y) ⟨f⟩ = @side (y ≠ 0) ⟨f (.int k (x.tmod y))⟩ := two_int (F := _)
theorem b_or : @aBin P .or e (.int k x) (.int k y) ⟨f⟩ = f (.int k (k.wrap (BitVec.ofInt k.bits x ||| BitVec.ofInt k.bits y).toNat)) := two_int (F := _)
theorem b_and : @aBin P .and e (.int k x) (.int k y) ⟨f⟩ = f (.int k (k.wrap (BitVec.ofInt k.bits x &&& BitVec.ofInt k.bits y).toNat)) := two_int (F := _)
theorem b_shl {k' : IntKind} : @aBin P .shl e (.int k x) (.int k' y) ⟨f⟩ = @side (0 ≤ y) ⟨f (.int k (k.wrap (x * 2 ^ min y.toNat k.bits)))⟩ := two_int2 (F := _)
theorem b_shr {k' : IntKind} : @aBin P .shr e (.int k x) (.int k' y) ⟨f⟩ = @side (0 ≤ y) ⟨f (.int k (x.fdiv (2 ^ min y.toNat k.bits)))⟩ := two_int2 (F := _)
theorem b_lss : @aBin P .lss e (.int k x) (.int k y) ⟨f⟩ = f (.bool (decide (x < y))) := two_int (F := _)
theorem b_leq : @aBin P .leq e (.int k x) (.int k y) ⟨f⟩ = f (.bool (decide (x ≤ y))) := two_int (F := _)
theorem b_gtr : @aBin P .gtr e (.int k x) (.int k y) ⟨f⟩ = f (.bool (decide (y < x))) := two_int (F := _)
theorem b_geq : @aBin P .geq e (.int k x) (.int k y) ⟨f⟩ = f (.bool (decide (y ≤ x))) := two_int (F := _)
theorem aeq_no {t : TypeId} {a b : Value} {K : Bool → Prop} (h1 : ∀ xs, a ≠ .agg xs) (h2 : ∀ o n c, a ≠ .slice o n c) (h3 : ∀ o, a ≠ .pointer o) : ¬ aeq P t a b K := by
  rintro (⟨_, _, _, h, _⟩ | ⟨_, _, _, _, _, _, h, _⟩ | ⟨_, _, h, _⟩)
  · exact h1 _ h
  · exact h2 _ _ _ h
  · exact h3 _ h
theorem b_eql : @aBin P .eql e (.int k x) (.int k y) ⟨f⟩ = f (.bool (decide (x = y))) := by
  apply propext; constructor
  · rintro (⟨_, _, _, h1, h2, h3⟩ | ⟨_, _, h1, _⟩ | ⟨_, _, h1, _⟩ | h)
    · cases h1; cases h2; exact h3
    · cases h1
    · cases h1
    · exact absurd h (aeq_no (by simp) (by simp) (by simp))
  · intro h; exact .inl ⟨_, _, _, rfl, rfl, h⟩
theorem b_neq : @aBin P .neq e (.int k x) (.int k y) ⟨f⟩ = f (.bool (!decide (x = y))) := by
  have hd : decide (x ≠ y) = !decide (x = y) := by by_cases h : x = y <;> simp [h]
  rw [← hd]
  apply propext; constructor
  · rintro (⟨_, _, _, h1, h2, h3⟩ | ⟨_, _, h1, _⟩ | ⟨_, _, h1, _⟩ | h)
    · cases h1; cases h2; exact h3
    · cases h1
    · cases h1
    · exact absurd h (aeq_no (by simp) (by simp) (by simp))
  · intro h; exact .inl ⟨_, _, _, rfl, rfl, h⟩
theorem b_eqs {s u : ByteArray} : @aBin P .eql e (.string s) (.string u) ⟨f⟩ = f (.bool (decide (s = u))) := by
  apply propext; constructor
  · rintro (⟨_, _, _, h1, _⟩ | ⟨_, _, h1, h2, h3⟩ | ⟨_, _, h1, _⟩ | h)
    · cases h1
    · cases h1; cases h2; exact h3
    · cases h1
    · exact absurd h (aeq_no (by simp) (by simp) (by simp))
  · intro h; exact .inr (.inl ⟨_, _, rfl, rfl, h⟩)
theorem b_nes {s u : ByteArray} : @aBin P .neq e (.string s) (.string u) ⟨f⟩ = f (.bool (!decide (s = u))) := by
  have hd : decide (s ≠ u) = !decide (s = u) := by by_cases h : s = u <;> simp [h]
  rw [← hd]
  apply propext; constructor
  · rintro (⟨_, _, _, h1, _⟩ | ⟨_, _, h1, h2, h3⟩ | ⟨_, _, h1, _⟩ | h)
    · cases h1
    · cases h1; cases h2; exact h3
    · cases h1
    · exact absurd h (aeq_no (by simp) (by simp) (by simp))
  · intro h; exact .inr (.inl ⟨_, _, rfl, rfl, h⟩)
end

/-- The machine, as one rule: to be given to the rewriter from above (simp only [↓run, ..]). -/
theorem upd_here {τ : Tm} {u : Nat} {v : Value} : upd τ u v u = some v := by simp [upd]
theorem upd_there {τ : Tm} {u x : Nat} {v : Value} (h : (x == u) = false) : upd τ u v x = τ x := by
  have : ¬ x = u := by simpa using h
  simp [upd, this]
end
end Go.Proofs.Ytiiapkhdjchhjaa.Ab

/- The other operations, by rewriting; loops, calls; rows of elements in the heap. -/
namespace Go.Proofs.Ytiiapkhdjchhjaa.Ab
open Go.RowKit
set_option linter.unusedVariables false
set_option linter.unusedSimpArgs false

section
variable {P : Program} {G : Gl} {fl : Nat} {flo : Oper → Hp → Nat} {ops os : List Oper} {τ : Tm} {A : Hp} {d : Option Tmp} {t : TypeId} {ps : String} {af : Array Edge} {g : Option (Nat × Bool)}

/-- A function's contract, from its body. -/
theorem Sound.of {f : FuncId} {fn : Func} {c : Code} {rs : Array ResultVar} {nt : Nat} {args : List Value} {fl : Nat} {A C : Hp} {v : Value} (hmx : P.follows .mixedOrders = true) (hf : P.funcs[f]? = some fn) (hnt : fn.ntmps = nt) (hrs : fn.results = rs)
    (hname : (fn.name == "runtime.NumGoroutine") = false) (hb : fn.body = some c) (hok : okCode P nt c = true) (hn : okArgs c nt args.length = true)
    (h : Hok fl A → acode P G fl c (slots0 args) A (done fun τ B => @aRes G P τ B rs.toList [] ⟨fun vs => Ended A (retv vs) B v C⟩)) : Sound P G f args fl A v C := by
  subst hnt; subst hrs
  exact Sound.intro hmx hf hname hb hok hn h

/-- The same, where the body ends just so. -/
theorem Sound.ofS {f : FuncId} {fn : Func} {c : Code} {rs : Array ResultVar} {nt : Nat} {args : List Value} {fl : Nat} {A C : Hp} {v : Value} (hmx : P.follows .mixedOrders = true) (hf : P.funcs[f]? = some fn) (hnt : fn.ntmps = nt) (hrs : fn.results = rs)
    (hname : (fn.name == "runtime.NumGoroutine") = false) (hb : fn.body = some c) (hok : okCode P nt c = true) (hn : okArgs c nt args.length = true)
    (h : Hok fl A → acode P G fl c (slots0 args) A (done fun τ B => @aRes G P τ B rs.toList [] ⟨fun vs => EndS (retv vs) B v C⟩)) : Sound P G f args fl A v C := by
  subst hnt; subst hrs
  exact Sound.introS hmx hf hname hb hok hn h

/-- A function's contract, with marked regions. -/
theorem Sound.ofM {f : FuncId} {fn : Func} {c c0 : Code} {rs : Array ResultVar} {nt : Nat} {args : List Value} {fl : Nat} {A C : Hp} {v : Value} (hmx : P.follows .mixedOrders = true) (hf : P.funcs[f]? = some fn) (hnt : fn.ntmps = nt) (hrs : fn.results = rs)
    (hname : (fn.name == "runtime.NumGoroutine") = false) (hb : fn.body = some c0) (hu : unmark c = c0) (hok : okCode P nt c = true) (hn : okArgs0 c nt args.length = true)
    (h : Hok fl A → acode P G fl c (slots0 args) A (done fun τ B => @aRes G P τ B rs.toList [] ⟨fun vs => Ended A (retv vs) B v C⟩)) : Sound P G f args fl A v C := by
  subst hnt; subst hrs
  exact Sound.introM hmx hf hname hb hu hok hn h

/-- The same, as the call itself. -/
theorem calls_of {f : FuncId} {fn : Func} {c : Code} {rs : Array ResultVar} {nt : Nat} {args : List Value} {fl : Nat} {A C : Hp} {v : Value} (hmx : P.follows .mixedOrders = true) (hf : P.funcs[f]? = some fn) (hnt : fn.ntmps = nt) (hrs : fn.results = rs)
    (hname : (fn.name == "runtime.NumGoroutine") = false) (hb : fn.body = some c) (hok : okCode P nt c = true) (hn : okArgs c nt args.length = true)
    (h : Hok fl A → acode P G fl c (slots0 args) A (done fun τ B => @aRes G P τ B rs.toList [] ⟨fun vs => Ended A (retv vs) B v C⟩)) : ∀ (μ : Mu) (w : World) (args' : Array Value), HR G μ fl A w → fl ≤ A.next → VRa μ A args.toArray args' →
    Calls P f args' w fun e w' => ∃ u, e = .returned u ∧ ∃ ν, VR ν C v u ∧ HR G ν fl C w' ∧ Trans fl μ A w ν C w' := by
  subst hnt; subst hrs
  exact calls_intro hmx hf hname hb hok hn h

/-- The parts' values, put into the cells. -/
def putL (place : Nat → Option (Nat × Nat)) (cells : List Value) (pvs : List (Nat × Value)) [K : Kt (List Value)] : Prop := ∃ cs, buildL place cells pvs = some cs ∧ K.run cs
theorem putL_nil {place : Nat → Option (Nat × Nat)} {cells : List Value} {f : List Value → Prop} : @putL place cells [] ⟨f⟩ = f cells := by simp [putL, buildL]
theorem putL_cons {place : Nat → Option (Nat × Nat)} {cells : List Value} {i : Nat} {v : Value} {l : List (Nat × Value)} {f : List Value → Prop} :
    @putL place cells ((i, v) :: l) ⟨f⟩ = @bO _ (place i) ⟨fun p => @side (v.cells.size = p.2 ∧ p.1 + p.2 ≤ cells.length) ⟨@putL place (wr cells p.1 v.cells.toList) l ⟨f⟩⟩⟩ := by
  apply propext
  simp only [putL, buildL, bO, side]
  constructor
  · rintro ⟨cs, h1, h2⟩
    cases hp : place i with
    | none => simp [hp] at h1
    | some p =>
      obtain ⟨off, size⟩ := p
      simp only [hp] at h1
      split at h1
      · rename_i hc; exact ⟨_, rfl, hc, cs, h1, h2⟩
      · cases h1
  · rintro ⟨p, h1, hc, cs, h2, h3⟩
    obtain ⟨off, size⟩ := p
    exact ⟨cs, by simp only [h1]; rw [if_pos hc]; exact h2, h3⟩
/-- A built value. -/
def bldT (P : Program) (T : Ty) (pvs : List (Nat × Value)) [K : Kt (List Value)] : Prop :=
  (∃ fs, T.d = .st fs ∧ ∃ cs, buildL (fun i => (fs[i]?).map fun f => (f.1, f.2.1)) T.zero pvs = some cs ∧ K.run cs) ∨
  (∃ n e E, T.d = .arr n e ∧ tyOf P e = some E ∧ ∃ cs, buildL (fun i => some (i * E.size, E.size)) T.zero pvs = some cs ∧ K.run cs)
theorem bldT_st {fs : List (Nat × Nat × TypeId)} {sz by_ es : Nat} {z : List Value} {ag : Bool} {pvs : List (Nat × Value)} {f : List Value → Prop} :
    @bldT P ⟨.st fs, sz, by_, z, ag, es⟩ pvs ⟨f⟩ = @putL (fun i => (fs[i]?).map fun f => (f.1, f.2.1)) z pvs ⟨f⟩ := by
  apply propext; constructor
  · rintro (⟨_, h, hk⟩ | ⟨_, _, _, h, _⟩)
    · cases h; exact hk
    · cases h
  · intro h; exact .inl ⟨_, rfl, h⟩
theorem bldT_arr {n : Nat} {e : TypeId} {sz by_ es : Nat} {z : List Value} {ag : Bool} {pvs : List (Nat × Value)} {f : List Value → Prop} :
    @bldT P ⟨.arr n e, sz, by_, z, ag, es⟩ pvs ⟨f⟩ = @bO _ (tyOf P e) ⟨fun E => @putL (fun i => some (i * E.size, E.size)) z pvs ⟨f⟩⟩ := by
  apply propext; constructor
  · rintro (⟨_, h, hk⟩ | ⟨_, _, E, h, hE, hk⟩)
    · cases h
    · cases h; exact ⟨E, hE, hk⟩
  · rintro ⟨E, hE, h⟩; exact .inr ⟨_, _, E, rfl, hE, h⟩
/-- The element type of a slice type. -/
def slT (P : Program) (T : Ty) [K : Kt Ty] : Prop := ∃ e E, T.d = .sl e ∧ tyOf P e = some E ∧ K.run E
theorem slT_sl {e : TypeId} {sz by_ es : Nat} {z : List Value} {ag : Bool} {f : Ty → Prop} : @slT P ⟨.sl e, sz, by_, z, ag, es⟩ ⟨f⟩ = @bO _ (tyOf P e) ⟨f⟩ := by
  apply propext; constructor
  · rintro ⟨_, E, h, hE, hk⟩; cases h; exact ⟨E, hE, hk⟩
  · rintro ⟨E, hE, h⟩; exact ⟨_, E, rfl, hE, h⟩
/-- Bounds of a slice expression. -/
def aLo (τ : Tm) (lo : Option Operand) [K : Kt Nat] : Prop := alo τ lo K.run
def aHi (τ : Tm) (hi : Option Operand) [K : Kt (Option Nat)] : Prop := ahi τ hi K.run
theorem aLo_none {f : Nat → Prop} : @aLo τ none ⟨f⟩ = f 0 := (rfl)
theorem aHi_none {f : Option Nat → Prop} : @aHi τ none ⟨f⟩ = f none := (rfl)
theorem aLo_some {i : Operand} {f : Nat → Prop} : @aLo τ (some i) ⟨f⟩ = @bO _ (ev τ i) ⟨fun v => @bI v ⟨fun q => @side (0 ≤ q.2) ⟨f q.2.toNat⟩⟩⟩ := by
  apply propext; constructor
  · rintro ⟨k, x, h1, h2, h3⟩; exact ⟨_, h1, k, x, rfl, h2, h3⟩
  · rintro ⟨_, h1, k, x, rfl, h2, h3⟩; exact ⟨k, x, h1, h2, h3⟩
theorem aHi_some {i : Operand} {f : Option Nat → Prop} : @aHi τ (some i) ⟨f⟩ = @bO _ (ev τ i) ⟨fun v => @bI v ⟨fun q => @side (0 ≤ q.2) ⟨f (some q.2.toNat)⟩⟩⟩ := by
  apply propext; constructor
  · rintro ⟨k, x, h1, h2, h3⟩; exact ⟨_, h1, k, x, rfl, h2, h3⟩
  · rintro ⟨_, h1, k, x, rfl, h2, h3⟩; exact ⟨k, x, h1, h2, h3⟩
/-- Elements of a block take so many cells. -/
def eszOK (A : Hp) (id sz : Nat) : Prop := ∀ cs g e', A.blk id = some (.row cs g e') → e' = sz
def aSlc (P : Program) (A : Hp) (t : TypeId) (v : Value) (l : Nat) (h : Option Nat) [K : Kt Value] : Prop := aslice P A t v l h K.run
theorem aSlc_str {s : ByteArray} {l : Nat} {h : Option Nat} {f : Value → Prop} : @aSlc P A t (.string s) l h ⟨f⟩ =
    @side ((tyOf P t).map (·.d) = some .str) ⟨@side (l ≤ h.getD s.size) ⟨@side (h.getD s.size ≤ s.size) ⟨f (.string (s.extract l (h.getD s.size)))⟩⟩⟩ := by
  apply propext; constructor
  · rintro (⟨_, e, h⟩ | ⟨_, _, e, _⟩ | ⟨_, _, _, _, _, e, _⟩ | ⟨_, _, _, _, _, _, _, e, _⟩)
    · cases e; exact h
    all_goals cases e
  · intro h; exact .inl ⟨_, rfl, h⟩
theorem aSlc_nil {n c l : Nat} {h : Option Nat} {f : Value → Prop} : @aSlc P A t (.slice none n c) l h ⟨f⟩ =
    @side (∃ e T, (tyOf P t).map (·.d) = some (.sl e) ∧ tyOf P e = some T) ⟨@side (l = 0) ⟨@side (h.getD n = 0) ⟨@side (n = 0) ⟨@side (c = 0) ⟨f (.slice none 0 0)⟩⟩⟩⟩⟩ := by
  apply propext; constructor
  · rintro (⟨_, e, h⟩ | ⟨_, _, e, h⟩ | ⟨_, _, _, _, _, e, _⟩ | ⟨_, _, _, _, _, _, _, e, _⟩)
    · cases e
    · cases e; exact h
    all_goals cases e
  · intro h; exact .inr (.inl ⟨_, _, rfl, h⟩)
theorem aSlc_sl {a : Addr} {n c l : Nat} {h : Option Nat} {f : Value → Prop} : @aSlc P A t (.slice (some a) n c) l h ⟨f⟩ =
    @bO _ (tyOf P t) ⟨fun T => @slT P T ⟨fun E => @side (l ≤ h.getD n) ⟨@side (h.getD n ≤ n ∨ h.getD n ≤ c) ⟨@side (eszOK A a.block E.size) ⟨f (.slice (some (aadd a (l * E.size))) (h.getD n - l) (c - l))⟩⟩⟩⟩⟩ := by
  apply propext; constructor
  · rintro (⟨_, e, h⟩ | ⟨_, _, e, h⟩ | ⟨_, _, _, e', E, e, h1, h2, h3, h4, h5, h6⟩ | ⟨_, _, _, _, _, _, _, e, _⟩)
    · cases e
    · cases e
    · cases e
      cases hT : tyOf P t with
      | none => simp [hT] at h1
      | some T => exact ⟨T, rfl, e', E, by simpa [hT] using h1, h2, h3, h4, h5, h6⟩
    · cases e
  · rintro ⟨T, hT, e', E, h1, h2, h3, h4, h5, h6⟩
    exact .inr (.inr (.inl ⟨_, _, _, e', E, rfl, by simp [hT, h1], h2, h3, h4, h5, h6⟩))
/-- An array type; a block's row. -/
def arT (P : Program) (T : Ty) [K : Kt (Nat × Ty)] : Prop := ∃ n e E, T.d = .arr n e ∧ tyOf P e = some E ∧ K.run (n, E)
theorem arT_arr {n : Nat} {e : TypeId} {sz by_ es : Nat} {z : List Value} {ag : Bool} {f : Nat × Ty → Prop} : @arT P ⟨.arr n e, sz, by_, z, ag, es⟩ ⟨f⟩ = @bO _ (tyOf P e) ⟨fun E => f (n, E)⟩ := by
  apply propext; constructor
  · rintro ⟨_, _, E, h, hE, hk⟩; cases h; exact ⟨E, hE, hk⟩
  · rintro ⟨E, hE, h⟩; exact ⟨_, _, E, rfl, hE, h⟩
def rowB (b : Blk) (g : Nat) [K : Kt (List Value × Nat)] : Prop := ∃ cs e, b = .row cs g e ∧ K.run (cs, e)
theorem rowB_row {cs : List Value} {g e : Nat} {f : List Value × Nat → Prop} : @rowB (.row cs g e) g ⟨f⟩ = f (cs, e) := by
  apply propext; constructor
  · rintro ⟨_, _, h, hk⟩; cases h; exact hk
  · intro h; exact ⟨_, _, rfl, h⟩
theorem aSlc_ptr {a : Addr} {l : Nat} {h : Option Nat} {f : Value → Prop} : @aSlc P A t (.pointer (some a)) l h ⟨f⟩ =
    @bO _ (tyOf P t) ⟨fun T => @arT P T ⟨fun q => @side (l ≤ h.getD q.1) ⟨@side (h.getD q.1 ≤ q.1) ⟨@bO _ a.spot ⟨fun g => @bO _ (A.blk a.block) ⟨fun b => @rowB b g ⟨fun r => @side (r.2 = q.2.size) ⟨@side (a.off + q.1 * q.2.size ≤ r.1.length)
      ⟨f (.slice (some (aadd a (l * q.2.size))) (h.getD q.1 - l) (q.1 - l))⟩⟩⟩⟩⟩⟩⟩⟩⟩ := by
  apply propext; constructor
  · rintro (⟨_, e, h⟩ | ⟨_, _, e, h⟩ | ⟨_, _, _, _, _, e, _⟩ | ⟨_, n, e', T, g, cs, e'', e, h1, h2, h3, h4, h5, h6, h7, h8, h9⟩)
    · cases e
    · cases e
    · cases e
    · cases e
      cases hT : tyOf P t with
      | none => simp [hT] at h1
      | some U => exact ⟨U, rfl, n, e', T, by simpa [hT] using h1, h2, h3, h4, g, h5, _, h6, cs, e'', rfl, h7, h8, h9⟩
  · rintro ⟨U, hT, n, e', T, h1, h2, h3, h4, g, h5, _, h6, cs, e'', rfl, h7, h8, h9⟩
    exact .inr (.inr (.inr ⟨_, n, e', T, g, cs, e'', rfl, by simp [hT, h1], h2, h3, h4, h5, h6, h7, h8, h9⟩))
theorem b_eqb {e : TypeId} {x y : Bool} {f : Value → Prop} : @aBin P .eql e (.bool x) (.bool y) ⟨f⟩ = @side ((tyOf P e).map (·.d) = some .bool) ⟨f (.bool (x == y))⟩ := by
  apply propext; constructor
  · rintro (⟨_, _, _, h1, _⟩ | ⟨_, _, h1, _⟩ | ⟨_, _, h1, h2, h3, h4⟩ | h)
    · cases h1
    · cases h1
    · cases h1; cases h2; exact ⟨h3, h4⟩
    · exact absurd h (aeq_no (by simp) (by simp) (by simp))
  · rintro ⟨h3, h4⟩; exact .inr (.inr (.inl ⟨_, _, rfl, rfl, h3, h4⟩))
theorem b_neb {e : TypeId} {x y : Bool} {f : Value → Prop} : @aBin P .neq e (.bool x) (.bool y) ⟨f⟩ = @side ((tyOf P e).map (·.d) = some .bool) ⟨f (.bool (!(x == y)))⟩ := by
  apply propext; constructor
  · rintro (⟨_, _, _, h1, _⟩ | ⟨_, _, h1, _⟩ | ⟨_, _, h1, h2, h3, h4⟩ | h)
    · cases h1
    · cases h1
    · cases h1; cases h2; exact ⟨h3, h4⟩
    · exact absurd h (aeq_no (by simp) (by simp) (by simp))
  · rintro ⟨h3, h4⟩; exact .inr (.inr (.inl ⟨_, _, rfl, rfl, h3, h4⟩))
def isSl : Option TD → Bool
  | some (.sl _) => true
  | _ => false
def isPtr : Option TD → Bool
  | some (.ptr _) => true
  | _ => false
theorem isSl_sl {e : TypeId} : isSl (some (.sl e)) = true := rfl
theorem isPtr_ptr {e : TypeId} : isPtr (some (.ptr e)) = true := rfl
theorem aeq_agg {e : TypeId} {xs ys : Array Value} {K : Bool → Prop} : aeq P e (.agg xs) (.agg ys) K = (P.eqGuardType P.depth e = false ∧ ∃ r, eqD P 20 e (.agg xs) (.agg ys) = some r ∧ K r) := by
  apply propext; constructor
  · rintro (⟨_, _, r, h1, h2, h3⟩ | ⟨_, _, _, _, _, _, h, _⟩ | ⟨_, _, h, _⟩)
    · cases h1; cases h2; exact ⟨h3.1, r, h3.2⟩
    · cases h
    · cases h
  · rintro ⟨h1, r, h2⟩; exact .inl ⟨_, _, r, rfl, rfl, h1, h2⟩
theorem aeq_nil {e : TypeId} {o : Option Addr} {n c n' c' : Nat} {K : Bool → Prop} : aeq P e (.slice o n c) (.slice none n' c') K = (isSl ((tyOf P e).map (·.d)) = true ∧ K o.isNone) := by
  apply propext; constructor
  · rintro (⟨_, _, r, h1, _⟩ | ⟨_, _, _, _, _, _, h1, h2, h3, h4⟩ | ⟨_, _, h, _⟩)
    · cases h1
    · cases h1; cases h2; exact ⟨by rw [h3]; rfl, h4⟩
    · cases h
  · rintro ⟨h1, h2⟩
    refine .inr (.inl ?_)
    cases hT : (tyOf P e).map (·.d) with
    | none => rw [hT] at h1; cases h1
    | some T =>
      rw [hT] at h1
      cases T <;> first | exact ⟨_, _, _, _, _, _, rfl, rfl, rfl, h2⟩ | cases h1
theorem aeq_ptr {e : TypeId} {o : Option Addr} {K : Bool → Prop} : aeq P e (.pointer o) (.pointer none) K = (isPtr ((tyOf P e).map (·.d)) = true ∧ K o.isNone) := by
  apply propext; constructor
  · rintro (⟨_, _, r, h1, _⟩ | ⟨_, _, _, _, _, _, h1, _⟩ | ⟨_, _, h1, h2, h3, h4⟩)
    · cases h1
    · cases h1
    · cases h1; cases h2; exact ⟨by rw [h3]; rfl, h4⟩
  · rintro ⟨h1, h2⟩
    refine .inr (.inr ?_)
    cases hT : (tyOf P e).map (·.d) with
    | none => rw [hT] at h1; cases h1
    | some T =>
      rw [hT] at h1
      cases T <;> first | exact ⟨_, _, rfl, rfl, rfl, h2⟩ | cases h1
theorem eql_aeq {e : TypeId} {a b : Value} {f : Value → Prop} (h1 : ∀ k x, a ≠ .int k x) (h2 : ∀ s, a ≠ .string s) (h3 : ∀ s, a ≠ .bool s) : @aBin P .eql e a b ⟨f⟩ = aeq P e a b fun r => f (.bool r) := by
  apply propext; constructor
  · rintro (⟨_, _, _, h, _⟩ | ⟨_, _, h, _⟩ | ⟨_, _, h, _⟩ | h)
    · exact absurd h (h1 _ _)
    · exact absurd h (h2 _)
    · exact absurd h (h3 _)
    · exact h
  · intro h; exact .inr (.inr (.inr h))
theorem neq_aeq {e : TypeId} {a b : Value} {f : Value → Prop} (h1 : ∀ k x, a ≠ .int k x) (h2 : ∀ s, a ≠ .string s) (h3 : ∀ s, a ≠ .bool s) : @aBin P .neq e a b ⟨f⟩ = aeq P e a b fun r => f (.bool (!r)) := by
  apply propext; constructor
  · rintro (⟨_, _, _, h, _⟩ | ⟨_, _, h, _⟩ | ⟨_, _, h, _⟩ | h)
    · exact absurd h (h1 _ _)
    · exact absurd h (h2 _)
    · exact absurd h (h3 _)
    · exact h
  · intro h; exact .inr (.inr (.inr h))
theorem b_eqa {e : TypeId} {xs ys : Array Value} {f : Value → Prop} : @aBin P .eql e (.agg xs) (.agg ys) ⟨f⟩ = @side (P.eqGuardType P.depth e = false) ⟨@bO _ (eqD P 20 e (.agg xs) (.agg ys)) ⟨fun r => f (.bool r)⟩⟩ := by
  rw [eql_aeq (by simp) (by simp) (by simp), aeq_agg]; rfl
theorem b_nea {e : TypeId} {xs ys : Array Value} {f : Value → Prop} : @aBin P .neq e (.agg xs) (.agg ys) ⟨f⟩ = @side (P.eqGuardType P.depth e = false) ⟨@bO _ (eqD P 20 e (.agg xs) (.agg ys)) ⟨fun r => f (.bool (!r))⟩⟩ := by
  rw [neq_aeq (by simp) (by simp) (by simp), aeq_agg]; rfl
theorem b_eqn {e : TypeId} {o : Option Addr} {n c n' c' : Nat} {f : Value → Prop} : @aBin P .eql e (.slice o n c) (.slice none n' c') ⟨f⟩ = @side (isSl ((tyOf P e).map (·.d)) = true) ⟨f (.bool o.isNone)⟩ := by
  rw [eql_aeq (by simp) (by simp) (by simp), aeq_nil]; rfl
theorem b_nen {e : TypeId} {o : Option Addr} {n c n' c' : Nat} {f : Value → Prop} : @aBin P .neq e (.slice o n c) (.slice none n' c') ⟨f⟩ = @side (isSl ((tyOf P e).map (·.d)) = true) ⟨f (.bool (!o.isNone))⟩ := by
  rw [neq_aeq (by simp) (by simp) (by simp), aeq_nil]; rfl
theorem b_eqp {e : TypeId} {o : Option Addr} {f : Value → Prop} : @aBin P .eql e (.pointer o) (.pointer none) ⟨f⟩ = @side (isPtr ((tyOf P e).map (·.d)) = true) ⟨f (.bool o.isNone)⟩ := by
  rw [eql_aeq (by simp) (by simp) (by simp), aeq_ptr]; rfl
theorem b_nep {e : TypeId} {o : Option Addr} {f : Value → Prop} : @aBin P .neq e (.pointer o) (.pointer none) ⟨f⟩ = @side (isPtr ((tyOf P e).map (·.d)) = true) ⟨f (.bool (!o.isNone))⟩ := by
  rw [neq_aeq (by simp) (by simp) (by simp), aeq_ptr]; rfl
/-- The place of an element. -/
def ixA (P : Program) (T : Ty) (n : Int) (v : Value) [K : Kt Value] : Prop :=
  (∃ e E a len c, T.d = .sl e ∧ tyOf P e = some E ∧ v = .slice (some a) len c ∧ n < len ∧ K.run (.pointer (some (aadd a (n.toNat * E.size))))) ∨
  (∃ len e E a, T.d = .arr len e ∧ tyOf P e = some E ∧ v = .pointer (some a) ∧ n < len ∧ K.run (.pointer (some (aadd a (n.toNat * E.size)))))
theorem ixA_sl {e : TypeId} {sz by_ es : Nat} {z : List Value} {ag : Bool} {n : Int} {a : Addr} {len c : Nat} {f : Value → Prop} :
    @ixA P ⟨.sl e, sz, by_, z, ag, es⟩ n (.slice (some a) len c) ⟨f⟩ = @bO _ (tyOf P e) ⟨fun E => @side (n < len) ⟨f (.pointer (some (aadd a (n.toNat * E.size))))⟩⟩ := by
  apply propext; constructor
  · rintro (⟨_, E, _, _, _, h1, h2, h3, h4, h5⟩ | ⟨_, _, _, _, h, _⟩)
    · cases h1; cases h3; exact ⟨E, h2, h4, h5⟩
    · cases h
  · rintro ⟨E, h2, h4, h5⟩; exact .inl ⟨_, E, _, _, _, rfl, h2, rfl, h4, h5⟩
theorem ixA_arr {e : TypeId} {sz by_ es len : Nat} {z : List Value} {ag : Bool} {n : Int} {a : Addr} {f : Value → Prop} :
    @ixA P ⟨.arr len e, sz, by_, z, ag, es⟩ n (.pointer (some a)) ⟨f⟩ = @bO _ (tyOf P e) ⟨fun E => @side (n < len) ⟨f (.pointer (some (aadd a (n.toNat * E.size))))⟩⟩ := by
  apply propext; constructor
  · rintro (⟨_, E, _, _, _, h1, h2, h3, h4, h5⟩ | ⟨_, _, E, _, h1, h2, h3, h4, h5⟩)
    · cases h1
    · cases h1; cases h3; exact ⟨E, h2, h4, h5⟩
  · rintro ⟨E, h2, h4, h5⟩; exact .inr ⟨_, _, E, _, rfl, h2, rfl, h4, h5⟩
def ixV (P : Program) (T : Ty) (n : Int) (v : Value) [K : Kt Value] : Prop :=
  (∃ s, T.d = .str ∧ v = .string s ∧ n < s.size ∧ K.run (.int .u8 (byteAt s n))) ∨
  (∃ len e E cs, T.d = .arr len e ∧ tyOf P e = some E ∧ v = .agg cs ∧ n < len ∧
    ((E.agg = true ∧ K.run (.agg (cs.extract (n.toNat * E.size) (n.toNat * E.size + E.size)))) ∨ (E.agg = false ∧ ∃ u, cs[n.toNat * E.size]? = some u ∧ K.run u)))
theorem ixV_str {sz by_ es : Nat} {z : List Value} {ag : Bool} {n : Int} {s : ByteArray} {f : Value → Prop} :
    @ixV P ⟨.str, sz, by_, z, ag, es⟩ n (.string s) ⟨f⟩ = @side (n < s.size) ⟨f (.int .u8 (byteAt s n))⟩ := by
  apply propext; constructor
  · rintro (⟨_, h1, h3, h4, h5⟩ | ⟨_, _, _, _, h, _⟩)
    · cases h3; exact ⟨h4, h5⟩
    · cases h
  · rintro ⟨h4, h5⟩; exact .inl ⟨_, rfl, rfl, h4, h5⟩
theorem ixV_arr {e : TypeId} {sz by_ es len : Nat} {z : List Value} {ag : Bool} {n : Int} {cs : Array Value} {f : Value → Prop} :
    @ixV P ⟨.arr len e, sz, by_, z, ag, es⟩ n (.agg cs) ⟨f⟩ = @bO _ (tyOf P e) ⟨fun E => @side (n < len) ⟨@partT E cs (n.toNat * E.size) ⟨f⟩⟩⟩ := by
  apply propext; constructor
  · rintro (⟨_, h, _⟩ | ⟨_, _, E, _, h1, h2, h3, h4, h5⟩)
    · cases h
    · cases h1; cases h3
      exact ⟨E, h2, h4, h5⟩
  · rintro ⟨E, h2, h4, h5⟩
    exact .inr ⟨_, _, E, _, rfl, h2, rfl, h4, h5⟩
/-- A map's block, met. -/
def bM (b : Option Blk) [K : Kt (List (Value × Value × Nat) × Nat)] : Prop := ∃ es ck, b = some (.mp es ck) ∧ K.run (es, ck)
theorem bM_some {es : List (Value × Value × Nat)} {ck : Nat} {f : List (Value × Value × Nat) × Nat → Prop} : @bM (some (.mp es ck)) ⟨f⟩ = f (es, ck) := by
  apply propext; constructor
  · rintro ⟨_, _, h, hk⟩; cases h; exact hk
  · intro h; exact ⟨es, ck, rfl, h⟩
def lnV (A : Hp) (T : Ty) (v : Value) [K : Kt Int] : Prop :=
  (∃ s, T.d = .str ∧ v = .string s ∧ K.run s.size) ∨ (∃ e, ∃ a : Option Addr, ∃ n cp : Nat, T.d = .sl e ∧ v = .slice a n cp ∧ K.run (n : Int)) ∨ (∃ n : Nat, ∃ e, T.d = .arr n e ∧ K.run (n : Int)) ∨ (∃ kt et es, T.d = .mp kt et ∧ amap A v es ∧ K.run (es.length : Int))
theorem lnV_str {sz by_ es : Nat} {z : List Value} {ag : Bool} {s : ByteArray} {f : Int → Prop} : @lnV A ⟨.str, sz, by_, z, ag, es⟩ (.string s) ⟨f⟩ = f s.size := by
  apply propext; constructor
  · rintro (⟨_, _, h, hk⟩ | ⟨_, _, _, _, h, _⟩ | ⟨_, _, h, _⟩ | ⟨_, _, _, h, _⟩)
    · cases h; exact hk
    all_goals cases h
  · intro h; exact .inl ⟨_, rfl, rfl, h⟩
theorem lnV_mp {kt e : TypeId} {sz by_ es id : Nat} {z : List Value} {ag : Bool} {f : Int → Prop} : @lnV A ⟨.mp kt e, sz, by_, z, ag, es⟩ (.map (some id)) ⟨f⟩ = @bM (A.blk id) ⟨fun q => f (q.1.length : Int)⟩ := by
  apply propext; constructor
  · rintro (⟨_, h, _⟩ | ⟨_, _, _, _, h, _⟩ | ⟨_, _, h, _⟩ | ⟨_, _, _, h, hm, hk⟩)
    · cases h
    · cases h
    · cases h
    · rcases hm with ⟨h, _⟩ | ⟨_, ck, h, hb⟩
      · cases h
      · cases h; exact ⟨_, ck, hb, hk⟩
  · rintro ⟨es, ck, hb, hk⟩; exact .inr (.inr (.inr ⟨_, _, es, rfl, .inr ⟨_, ck, rfl, hb⟩, hk⟩))
theorem lnV_sl {e : TypeId} {sz by_ es n c : Nat} {z : List Value} {ag : Bool} {o : Option Addr} {f : Int → Prop} : @lnV A ⟨.sl e, sz, by_, z, ag, es⟩ (.slice o n c) ⟨f⟩ = f n := by
  apply propext; constructor
  · rintro (⟨_, h, _⟩ | ⟨_, _, _, _, _, h, hk⟩ | ⟨_, _, h, _⟩ | ⟨_, _, _, h, _⟩)
    · cases h
    · cases h; exact hk
    · cases h
    · cases h
  · intro h; exact .inr (.inl ⟨_, _, _, _, rfl, rfl, h⟩)
theorem lnV_arr {e : TypeId} {sz by_ es n : Nat} {z : List Value} {ag : Bool} {v : Value} {f : Int → Prop} : @lnV A ⟨.arr n e, sz, by_, z, ag, es⟩ v ⟨f⟩ = f n := by
  apply propext; constructor
  · rintro (⟨_, h, _⟩ | ⟨_, _, _, _, h, _⟩ | ⟨_, _, h, hk⟩ | ⟨_, _, _, h, _⟩)
    · cases h
    · cases h
    · cases h; exact hk
    · cases h
  · intro h; exact .inr (.inr (.inl ⟨_, _, rfl, h⟩))
/-- clear, met. -/
def clr (P : Program) (fl : Nat) (A : Hp) (ts : Array TypeId) (xs : List Value) [K : Kt (Value × Hp)] : Prop := aclear P fl A ts xs fun v A' => K.run (v, A')
/-- append, met. -/
def apn (P : Program) (G : Gl) (fl : Nat) (A : Hp) (ts : Array TypeId) (xs : List Value) [K : Kt (Value × Hp)] : Prop := ∃ s x, xs = [s, x] ∧ aappend P G fl A ts s x fun v A' => K.run (v, A')
/-- Two integers. -/
def twoI (xs : List Value) [K : Kt (IntKind × Int × Int)] : Prop := ∃ k x y, xs = [.int k x, .int k y] ∧ K.run (k, x, y)
theorem twoI_two {k : IntKind} {x y : Int} {f : IntKind × Int × Int → Prop} : @twoI [.int k x, .int k y] ⟨f⟩ = f (k, x, y) := by
  apply propext; constructor
  · rintro ⟨_, _, _, h, hk⟩; cases h; exact hk
  · intro h; exact ⟨_, _, _, rfl, h⟩
/-- A conversion, met. -/
def cnv (P : Program) (G : Gl) (S D : Ty) (v : Value) (A : Hp) [K : Kt (Value × Hp)] : Prop :=
  (∃ k k' n, D.d = .int k ∧ v = .int k' n ∧ K.run (.int k (k.wrap n), A)) ∨
  (∃ b, D.d = .str ∧ v = .string b ∧ K.run (.string b, A)) ∨
  (∃ e E b, S.d = .str ∧ D.d = .sl e ∧ tyOf P e = some E ∧ E.d = .int .u8 ∧ v = .string b ∧ K.run (.slice (some ⟨A.next, 0, some 0⟩) b.size b.size, A.push (.row (b.data.toList.map fun c => Value.int .u8 (c.toNat : Int)) 0 1))) ∨
  (∃ e E, S.d = .sl e ∧ D.d = .str ∧ tyOf P e = some E ∧ E.d = .int .u8 ∧
    ((∃ n c, v = .slice none n c ∧ K.run (.string ByteArray.empty, A)) ∨
     (∃ a n c, ∃ l : List UInt8, v = .slice (some a) n c ∧ a.spot ≠ none ∧ l.length = n ∧ (∀ j (u : UInt8), l[j]? = some u → A.get G (aadd a j) = some (.int .u8 (u.toNat : Int))) ∧ K.run (.string ⟨l.toArray⟩, A))))
theorem cnv_int {k k' : IntKind} {S : Ty} {n : Int} {sz by_ es : Nat} {z : List Value} {ag : Bool} {f : Value × Hp → Prop} : @cnv P G S ⟨.int k, sz, by_, z, ag, es⟩ (.int k' n) A ⟨f⟩ = f (.int k (k.wrap n), A) := by
  apply propext; constructor
  · rintro (⟨_, _, _, h1, h2, h3⟩ | ⟨_, h, _⟩ | ⟨_, _, _, _, h, _⟩ | ⟨_, _, _, h, _⟩)
    · cases h1; cases h2; exact h3
    all_goals cases h
  · intro h; exact .inl ⟨_, _, _, rfl, rfl, h⟩
theorem cnv_bytes {e : TypeId} {s1 b1 e1 : Nat} {z1 : List Value} {a1 : Bool} {b : ByteArray} {sz by_ es : Nat} {z : List Value} {ag : Bool} {f : Value × Hp → Prop} :
    @cnv P G ⟨.str, s1, b1, z1, a1, e1⟩ ⟨.sl e, sz, by_, z, ag, es⟩ (.string b) A ⟨f⟩ =
      @bO _ (tyOf P e) ⟨fun E => @side (E.d = .int .u8) ⟨f (.slice (some ⟨A.next, 0, some 0⟩) b.size b.size, A.push (.row (b.data.toList.map fun c => Value.int .u8 (c.toNat : Int)) 0 1))⟩⟩ := by
  apply propext; constructor
  · rintro (⟨_, _, _, h, _⟩ | ⟨_, h, _⟩ | ⟨_, E, _, _, h, h1, h2, h3, h4⟩ | ⟨_, _, _, h, _⟩)
    · cases h
    · cases h
    · cases h; cases h3; exact ⟨E, h1, h2, h4⟩
    · cases h
  · rintro ⟨E, h1, h2, h4⟩; exact .inr (.inr (.inl ⟨_, E, _, rfl, rfl, h1, h2, rfl, h4⟩))
theorem cnv_str {S : Ty} {b : ByteArray} {sz by_ es : Nat} {z : List Value} {ag : Bool} {f : Value × Hp → Prop} : @cnv P G S ⟨.str, sz, by_, z, ag, es⟩ (.string b) A ⟨f⟩ = f (.string b, A) := by
  apply propext; constructor
  · rintro (⟨_, _, _, h1, h2, h3⟩ | ⟨_, h, h2, h3⟩ | ⟨_, _, _, _, h, _⟩ | ⟨_, _, _, _, _, _, (⟨_, _, h, _⟩ | ⟨_, _, _, _, h, _⟩)⟩)
    · cases h1
    · cases h2; exact h3
    all_goals cases h
  · intro h; exact .inr (.inl ⟨_, rfl, rfl, h⟩)

section
variable {K : Value → Hp → Prop}
theorem r_build {e} {pz : Array (Nat × Operand)} : aop P G fl ⟨d, .build e pz, t, ps, af, g⟩ τ A K = @bO _ (tyOf P e) ⟨fun T => @side (T.zero.all zc = true) ⟨@eVp τ pz.toList [] ⟨fun pvs => @bldT P T pvs ⟨fun cs => K (.agg cs.toArray) A⟩⟩⟩⟩ := (rfl)
theorem r_buildSlice {e len} {pz : Array (Nat × Operand)} : aop P G fl ⟨d, .buildSlice e len pz, t, ps, af, g⟩ τ A K = @bO _ (tyOf P e) ⟨fun T => @slT P T ⟨fun E => @side (E.zero.all zc = true) ⟨@side (len * E.size ≤ 16777216) ⟨@eVp τ pz.toList [] ⟨fun pvs =>
    @putL (fun i => some (i * E.size, E.size)) (zl E.zero (len * E.size)) pvs ⟨fun cs => K (.slice (some ⟨A.next, 0, some 0⟩) len len) (A.push (.row cs 0 E.size))⟩⟩⟩⟩⟩⟩ := (rfl)
theorem r_makeSlice {e x y} : aop P G fl ⟨d, .makeSlice e x y, t, ps, af, g⟩ τ A K = @bO _ (tyOf P e) ⟨fun T => @slT P T ⟨fun E => @side (E.zero.all zc = true) ⟨@bO _ (ev τ x) ⟨fun v => @bI v ⟨fun l => @bO _ (ev τ y) ⟨fun v => @bI v ⟨fun c =>
    @side (0 ≤ l.2) ⟨@side (l.2 ≤ c.2) ⟨@side ((E.bytes : Int) * c.2 ≤ 281474976710656) ⟨@side (c.2 ≤ 9223372036854775807) ⟨K (.slice (some ⟨A.next, 0, some 0⟩) l.2.toNat c.2.toNat) (A.push (.row (zl E.zero (c.2.toNat * E.size)) 0 E.size))⟩⟩⟩⟩⟩⟩⟩⟩⟩⟩⟩ := by
  apply propext; constructor
  · rintro ⟨T, hT, e', E, h1, h2, h3, k, k', l, c, h4, h5, h6⟩; exact ⟨T, hT, e', E, h1, h2, h3, _, h4, k, l, rfl, _, h5, k', c, rfl, h6⟩
  · rintro ⟨T, hT, e', E, h1, h2, h3, _, h4, k, l, rfl, _, h5, k', c, rfl, h6⟩; exact ⟨T, hT, e', E, h1, h2, h3, k, k', l, c, h4, h5, h6⟩
theorem r_slice {x e lo hi} : aop P G fl ⟨d, .slice e x lo hi none, t, ps, af, g⟩ τ A K = @bO _ (ev τ x) ⟨fun v => @aLo τ lo ⟨fun l => @aHi τ hi ⟨fun h => @aSlc P A e v l h ⟨fun r => K r A⟩⟩⟩⟩ := by
  apply propext; constructor
  · rintro ⟨_, h⟩; exact h
  · intro h; exact ⟨rfl, h⟩
theorem r_indexAddr {e x i} : aop P G fl ⟨d, .indexAddr e x i, t, ps, af, g⟩ τ A K = @bO _ (tyOf P e) ⟨fun T => @bO _ (ev τ i) ⟨fun v => @bI v ⟨fun q => @side (0 ≤ q.2) ⟨@bO _ (ev τ x) ⟨fun v => @ixA P T q.2 v ⟨fun r => K r A⟩⟩⟩⟩⟩⟩ := by
  apply propext; constructor
  · rintro ⟨T, hT, k, n, h1, h2, v, h3, h4⟩; exact ⟨T, hT, _, h1, k, n, rfl, h2, v, h3, h4⟩
  · rintro ⟨T, hT, _, h1, k, n, rfl, h2, v, h3, h4⟩; exact ⟨T, hT, k, n, h1, h2, v, h3, h4⟩
theorem r_index {e x i} : aop P G fl ⟨d, .index e x i, t, ps, af, g⟩ τ A K = @bO _ (tyOf P e) ⟨fun T => @bO _ (ev τ i) ⟨fun v => @bI v ⟨fun q => @side (0 ≤ q.2) ⟨@bO _ (ev τ x) ⟨fun v => @ixV P T q.2 v ⟨fun r => K r A⟩⟩⟩⟩⟩⟩ := by
  apply propext; constructor
  · rintro ⟨T, hT, k, n, h1, h2, v, h3, h4⟩; exact ⟨T, hT, _, h1, k, n, rfl, h2, v, h3, h4⟩
  · rintro ⟨T, hT, _, h1, k, n, rfl, h2, v, h3, h4⟩; exact ⟨T, hT, k, n, h1, h2, v, h3, h4⟩
theorem r_len {args : Array Operand} {tys : Array TypeId} : aop P G fl ⟨d, .call ⟨.builtin .len, args, tys⟩, t, ps, af, g⟩ τ A K = @bO _ (tys[0]?) ⟨fun u => @bO _ (tyOf P u) ⟨fun T => @eVs τ args.toList [] ⟨fun xs => @bO _ (xs[0]?) ⟨fun v => @lnV A T v ⟨fun n => K (.int .i64 n) A⟩⟩⟩⟩⟩ := by
  apply propext; constructor
  · rintro ⟨u, T, h1, h2, h3⟩; exact ⟨u, h1, T, h2, h3⟩
  · rintro ⟨u, h1, T, h2, h3⟩; exact ⟨u, T, h1, h2, h3⟩
theorem r_append {args : Array Operand} {tys : Array TypeId} : aop P G fl ⟨d, .call ⟨.builtin .append, args, tys⟩, t, ps, af, g⟩ τ A K = @eVs τ args.toList [] ⟨fun xs => @apn P G fl A tys xs ⟨fun r => K r.1 r.2⟩⟩ := (rfl)
theorem r_clear {args : Array Operand} {tys : Array TypeId} : aop P G fl ⟨d, .call ⟨.builtin .clear, args, tys⟩, t, ps, af, g⟩ τ A K = @eVs τ args.toList [] ⟨fun xs => @clr P fl A tys xs ⟨fun r => K r.1 r.2⟩⟩ := (rfl)
theorem r_min {args : Array Operand} {tys : Array TypeId} : aop P G fl ⟨d, .call ⟨.builtin .min, args, tys⟩, t, ps, af, g⟩ τ A K = @eVs τ args.toList [] ⟨fun xs => @twoI xs ⟨fun q => K (.int q.1 (if q.2.2 < q.2.1 then q.2.2 else q.2.1)) A⟩⟩ := (rfl)
theorem r_max {args : Array Operand} {tys : Array TypeId} : aop P G fl ⟨d, .call ⟨.builtin .max, args, tys⟩, t, ps, af, g⟩ τ A K = @eVs τ args.toList [] ⟨fun xs => @twoI xs ⟨fun q => K (.int q.1 (if q.2.2 > q.2.1 then q.2.2 else q.2.1)) A⟩⟩ := (rfl)
theorem r_convert {s e x} : aop P G fl ⟨d, .convert s e x, t, ps, af, g⟩ τ A K = @bO _ (tyOf P s) ⟨fun S => @bO _ (tyOf P e) ⟨fun D => @bO _ (ev τ x) ⟨fun v => @cnv P G S D v A ⟨fun r => K r.1 r.2⟩⟩⟩⟩ := (rfl)
end

/-! calls, loops -/
theorem call_of {f : FuncId} {args : List Value} {v : Value} {A' : Hp} {F : Value × Hp → Prop} (h : Sound P G f args fl A v A') (k : F (v, A')) : @aCall P G f args fl A ⟨F⟩ := ⟨v, A', h, k⟩

/-- What follows a round of a loop. -/
def loopK (I : Tm → Hp → Prop) (m : Tm → Hp → Nat) (τ : Tm) (A : Hp) (K : Exit → Tm → Hp → Prop) : Exit → Tm → Hp → Prop := fun e τ' A' => match e with
  | .normal => ∃ σ B, (∀ t v, σ t = some v → τ' t = some v) ∧ Weak A σ A' B ∧ I σ B ∧ m σ B < m τ A
  | e => K e τ' A'
theorem loop_of {c : Code} {K : Exit → Tm → Hp → Prop} (I : Tm → Hp → Prop) (m : Tm → Hp → Nat) (h0 : I τ A) (h : ∀ τ A, I τ A → acode P G fl c τ A (loopK I m τ A K)) : acode P G fl (.loop c) τ A K := .inl ⟨I, m, h0, h⟩
/-- A loop of few rounds, round by round. -/
theorem unroll_of {c : Code} {K : Exit → Tm → Hp → Prop} (l : List Unit) (h : acode P G fl c τ A (unrF (acode P G fl c) K l)) : acode P G fl (.loop c) τ A K := .inr ⟨l, h⟩
section
variable {I : Tm → Hp → Prop} {m : Tm → Hp → Nat} {τ0 τ' : Tm} {A0 A' : Hp} {K : Exit → Tm → Hp → Prop}
/-- Another round, from where this one ended. -/
theorem loop_on (h : I τ' A') (hm : m τ' A' < m τ A) : loopK I m τ A K .normal τ' A' := ⟨τ', A', fun _ _ h => h, .inl rfl, h, hm⟩
/-- Another round, with the heap as it was. -/
theorem loop_back (ks : List Nat) (hw : ∀ id, A.next ≤ id → A.blk id = none) (hA : ∀ id, id < A.next → A'.blk id = A.blk id) (hτ : ∀ t ∈ ks, ∀ v, τ' t = some v → RB A.next v)
    (h : I (keep ks τ') A) (hm : m (keep ks τ') A < m τ A) : loopK I m τ A K .normal τ' A' := by
  have e : A'.trunc A.next = A := by
    cases A with | mk n b =>
    simp only [Hp.trunc, Hp.mk.injEq, true_and]
    funext id
    split
    · rename_i h; exact hA id h
    · rename_i h; exact (hw id (by simpa using h)).symm
  refine ⟨keep ks τ', A, fun t v ht => ?_, .inr ⟨e.symm, fun id hid k hb => .inl (by rw [← hA id hid]; exact hb), fun t v ht => ?_⟩, h, hm⟩
  · simp only [keep] at ht; split at ht
    · exact ht
    · cases ht
  · simp only [keep] at ht; split at ht
    · rename_i hk; exact hτ t hk v ht
    · cases ht
theorem k_loop_ret : loopK I m τ A K .ret τ' A' = K .ret τ' A' := (rfl)
theorem k_unr_normal {f : Tm → Hp → (Exit → Tm → Hp → Prop) → Prop} {u : Unit} {l : List Unit} {K : Exit → Tm → Hp → Prop} : unrF f K (u :: l) .normal τ A = f τ A (unrF f K l) := (rfl)
theorem k_unr_ret {f : Tm → Hp → (Exit → Tm → Hp → Prop) → Prop} {l : List Unit} {K : Exit → Tm → Hp → Prop} : unrF f K l .ret τ A = K .ret τ A := by cases l <;> rfl
theorem k_unr_exit {f : Tm → Hp → (Exit → Tm → Hp → Prop) → Prop} {l : List Unit} {K : Exit → Tm → Hp → Prop} {i : Nat} : unrF f K l (.exit i) τ A = K (.exit i) τ A := by cases l <;> rfl
theorem k_loop_exit {i : Nat} : loopK I m τ A K (.exit i) τ' A' = K (.exit i) τ' A' := (rfl)
end
theorem keep_of {ks : List Nat} {x : Nat} (h : (ks.contains x) = true) : keep ks τ x = τ x := by
  have : x ∈ ks := by simpa using h
  simp [keep, this]

/-! arithmetic -/
theorem wrapI {x : Int} (h : -9223372036854775808 ≤ x ∧ x ≤ 9223372036854775807) : IntKind.i64.wrap x = x := by rw [IntKind.wrap_i64]; omega

/-! rows of elements -/
/-- A slice whose elements' cells these are. -/
def Sl (A : Hp) (sz : Nat) (v : Value) (css : List (List Value)) : Prop :=
  (∀ c ∈ css, c.length = sz) ∧ ((v = .slice none 0 0 ∧ css = []) ∨ (∃ a g, v = .slice (some a) 0 0 ∧ css = [] ∧ a.spot = some g ∧ a.block < A.next ∧ A.blk a.block = none) ∨
    ∃ a n c g ds, v = .slice (some a) n c ∧ css.length = n ∧ a.spot = some g ∧ A.blk a.block = some (.row ds g sz) ∧ ∀ j x, css.flatten[j]? = some x → ds[a.off + j]? = some x)

theorem flatten_get {α : Type} {sz : Nat} : ∀ {css : List (List α)}, (∀ c ∈ css, c.length = sz) → ∀ {i j : Nat} {c : List α} {v : α}, css[i]? = some c → c[j]? = some v → css.flatten[i * sz + j]? = some v
  | [], _, i, j, c, v, h, _ => by simp at h
  | d :: ds, hl, i, j, c, v, h, hv => by
    have hd : d.length = sz := hl d (by simp)
    cases i with
    | zero =>
      simp only [List.getElem?_cons_zero, Option.some.injEq] at h
      subst h
      have : j < d.length := (List.getElem?_eq_some_iff.1 hv).1
      rw [List.flatten_cons, Nat.zero_mul, Nat.zero_add, List.getElem?_append_left this]; exact hv
    | succ i =>
      have := flatten_get (css := ds) (fun c hc => hl c (by simp [hc])) (by simpa using h) hv
      rw [List.flatten_cons, List.getElem?_append_right (by rw [hd, Nat.succ_mul]; omega), hd]
      rw [show (i + 1) * sz + j - sz = i * sz + j by rw [Nat.succ_mul]; omega]; exact this

theorem Sl.len {sz : Nat} {v : Value} {css : List (List Value)} (h : Sl A sz v css) : ∃ o c, v = .slice o css.length c := by
  rcases h.2 with ⟨rfl, rfl⟩ | ⟨a, g, rfl, rfl, _⟩ | ⟨a, n, c, g, ds, rfl, rfl, _⟩
  · exact ⟨none, 0, rfl⟩
  · exact ⟨some a, 0, rfl⟩
  · exact ⟨some a, c, rfl⟩
theorem Sl.at {sz n c : Nat} {o : Option Addr} {css : List (List Value)} (h : Sl A sz (.slice o n c) css) {i : Nat} (hi : i < css.length) :
    ∃ a, o = some a ∧ ∀ j x, (css[i])[j]? = some x → A.get G (aadd a (i * sz + j)) = some x := by
  rcases h.2 with ⟨h1, rfl⟩ | ⟨a, g, h1, rfl, _⟩ | ⟨a, n, c, g, ds, h1, hn, hg, hb, hr⟩
  · simp at hi
  · simp at hi
  · cases h1
    refine ⟨a, rfl, fun j x hj => ?_⟩
    have := hr _ _ (flatten_get h.1 (List.getElem?_eq_getElem hi) hj)
    simp only [Hp.get, aadd, hg, hb, if_true]
    exact this
theorem Sl.esz {sz n c : Nat} {a : Addr} {css : List (List Value)} (h : Sl A sz (.slice (some a) n c) css) : eszOK A a.block sz := by
  rcases h.2 with ⟨h1, rfl⟩ | ⟨a, g, h1, rfl, _, _, hb⟩ | ⟨a, n, c, g, ds, h1, hn, hg, hb, hr⟩
  · cases h1
  · cases h1
    intro cs g' e' hb'
    rw [hb] at hb'; cases hb'
  · cases h1
    intro cs g' e' hb'
    rw [hb] at hb'; cases hb'; rfl
/-- It lies as well in a heap that agrees on its block. -/
theorem Sl.keep {A' : Hp} {sz : Nat} {v : Value} {css : List (List Value)} (h : Sl A sz v css) (hn : A.next ≤ A'.next) (hA : ∀ a n c, v = .slice (some a) n c → A'.blk a.block = A.blk a.block) : Sl A' sz v css := by
  refine ⟨h.1, ?_⟩
  rcases h.2 with h1 | ⟨a, g, h1, h2, h3, h4, h5⟩ | ⟨a, n, c, g, ds, h1, hn, hg, hb, hr⟩
  · exact .inl h1
  · exact .inr (.inl ⟨a, g, h1, h2, h3, Nat.lt_of_lt_of_le h4 hn, by rw [hA a 0 0 h1]; exact h5⟩)
  · exact .inr (.inr ⟨a, n, c, g, ds, h1, hn, hg, by rw [hA a n c h1]; exact hb, hr⟩)

/-! reading a heap that has been written -/
theorem aadd_mk {b o k : Nat} {s : Option Nat} : aadd ⟨b, o, s⟩ k = ⟨b, o + k, s⟩ := rfl
theorem aadd_aadd {a : Addr} {i j : Nat} : aadd (aadd a i) j = aadd a (i + j) := by simp [aadd, Nat.add_assoc]
theorem get_push_new {cs : List Value} {e o i : Nat} (h : i = A.next) : (A.push (.row cs 0 e)).get G ⟨i, o, some 0⟩ = cs[o]? := by subst h; simp [Hp.get, Hp.push_blk]
theorem get_push_old {b : Blk} {a : Addr} (h : a.block < A.next) : (A.push b).get G a = A.get G a := by
  have : ¬ a.block = A.next := by omega
  simp [Hp.get, Hp.push_blk, this]
theorem get_put_same {cs : List Value} {id g e o i : Nat} (h : i = id) : (A.put id (.row cs g e)).get G ⟨i, o, some g⟩ = cs[o]? := by subst h; simp [Hp.get, Hp.put_blk]
theorem get_put_other {b : Blk} {id : Nat} {a : Addr} (h : (a.block = id) = False) : (A.put id b).get G a = A.get G a := by simp [Hp.get, Hp.put_blk, h]
theorem get_blk {cs : List Value} {id g e o : Nat} (h : A.blk id = some (.row cs g e)) : A.get G ⟨id, o, some g⟩ = cs[o]? := by simp [Hp.get, h]
theorem get_glob {b o : Nat} : A.get G ⟨b, o, none⟩ = (G b).bind (·[o]?) := rfl
end
end Go.Proofs.Ytiiapkhdjchhjaa.Ab

/- Rewriting rules for maps. -/
namespace Go.Proofs.Ytiiapkhdjchhjaa.Ab
open Go.RowKit
set_option linter.unusedVariables false

section
variable {P : Program} {G : Gl} {fl : Nat} {τ : Tm} {A : Hp} {d : Option Tmp} {t : TypeId} {ps : String} {af : Array Edge} {g : Option (Nat × Bool)} {K : Value → Hp → Prop}

/-- A map's type, met. -/
def mpT (o : Option Ty) [K : Kt (TypeId × TypeId)] : Prop := ∃ T kt et, o = some T ∧ T.d = .mp kt et ∧ K.run (kt, et)
theorem mpT_some {kt et : TypeId} {sz by_ es : Nat} {z : List Value} {ag : Bool} {f : TypeId × TypeId → Prop} : @mpT (some ⟨.mp kt et, sz, by_, z, ag, es⟩) ⟨f⟩ = f (kt, et) := by
  apply propext; constructor
  · rintro ⟨_, _, _, h, hd, hk⟩; cases h; cases hd; exact hk
  · intro h; exact ⟨_, _, _, rfl, rfl, h⟩
theorem r_makeMap {e : TypeId} : aop P G fl ⟨d, .makeMap e none, t, ps, af, g⟩ τ A K = K (.map (some A.next)) (A.push (.mp [] 0)) := by
  apply propext; constructor
  · rintro ⟨_, h⟩; exact h
  · intro h; exact ⟨.inl rfl, h⟩
theorem r_makeMap1 {e : TypeId} {x : Operand} : aop P G fl ⟨d, .makeMap e (some x), t, ps, af, g⟩ τ A K = @bO _ (ev τ x) ⟨fun v => @bI v ⟨fun _ => @mpT (tyOf P e) ⟨fun _ => K (.map (some A.next)) (A.push (.mp [] 0))⟩⟩⟩ := by
  apply propext; constructor
  · rintro ⟨h | ⟨x, T, kt, et, k, n, h, hx, hT, hd⟩, hk⟩
    · cases h
    · cases h; exact ⟨_, hx, k, n, rfl, T, kt, et, hT, hd, hk⟩
  · rintro ⟨_, hx, k, n, rfl, T, kt, et, hT, hd, hk⟩
    exact ⟨.inr ⟨_, T, kt, et, k, n, rfl, hx, hT, hd⟩, hk⟩

/-- A look-up, met. -/
def lkp (P : Program) (A : Hp) (t : TypeId) (m k : Value) (cok : Bool) [K : Kt Value] : Prop := alookup P A t m k cok K.run
/-- What a look-up yields. -/
def lkV (cok : Bool) (E : Ty) : Option (Nat × Value) → Value
  | some (_, v) => if cok then .tuple #[v, .bool true] else v
  | none => if cok then .tuple #[E.zv, .bool false] else E.zv
theorem lkV_ok {E : Ty} {i : Nat} {v : Value} : lkV true E (some (i, v)) = .tuple #[v, .bool true] := (rfl)
theorem lkV_one {E : Ty} {i : Nat} {v : Value} : lkV false E (some (i, v)) = v := (rfl)
theorem lkV_no {E : Ty} : lkV true E none = .tuple #[E.zv, .bool false] := (rfl)
theorem lkV_zero {E : Ty} : lkV false E none = E.zv := (rfl)
theorem zv_agg {d : TD} {sz by_ es : Nat} {z : List Value} : Ty.zv ⟨d, sz, by_, z, true, es⟩ = .agg z.toArray := (rfl)
theorem zv_one {d : TD} {sz by_ es : Nat} {v : Value} {z : List Value} : Ty.zv ⟨d, sz, by_, v :: z, false, es⟩ = v := (rfl)
theorem r_lookup {e : TypeId} {x i : Operand} {cok : Bool} : aop P G fl ⟨d, .lookup e x i cok, t, ps, af, g⟩ τ A K = @bO _ (ev τ x) ⟨fun m => @bO _ (ev τ i) ⟨fun k => @lkp P A e m k cok ⟨fun v => K v A⟩⟩⟩ := by
  apply propext; constructor
  · rintro ⟨m, hm, k, hk, h⟩; exact ⟨m, hm, k, hk, h⟩
  · rintro ⟨m, hm, k, hk, h⟩; exact ⟨m, hm, k, hk, h⟩
theorem lkV_eq {cok : Bool} {E : Ty} {r : Option (Nat × Value)} : (match r with | some (_, v) => if cok then .tuple #[v, .bool true] else v | none => if cok then .tuple #[E.zv, .bool false] else E.zv) = lkV cok E r := by
  cases r <;> rfl
theorem lkp_map {e : TypeId} {id : Nat} {k : Value} {cok : Bool} {f : Value → Prop} : @lkp P A e (.map (some id)) k cok ⟨f⟩ = @mpT (tyOf P e) ⟨fun q => @bO _ (tyOf P q.2) ⟨fun E => @side (E.zero.all zc = true) ⟨@side (ckK P 20 q.1 k = true) ⟨@bM (A.blk id) ⟨fun m => @bO _ (mfind P q.1 k m.1 0) ⟨fun r => f (lkV cok E r)⟩⟩⟩⟩⟩⟩ := by
  apply propext; constructor
  · rintro ⟨T, kt, et, E, hT, hd, hE, hz, hck, es, hm, r, hr, hk⟩
    rcases hm with ⟨h, _⟩ | ⟨_, ck, h, hb⟩
    · cases h
    · cases h; exact ⟨T, kt, et, hT, hd, E, hE, hz, hck, es, ck, hb, r, hr, Eq.mp (congrArg f lkV_eq) hk⟩
  · rintro ⟨T, kt, et, hT, hd, E, hE, hz, hck, es, ck, hb, r, hr, hk⟩
    exact ⟨T, kt, et, E, hT, hd, hE, hz, hck, es, .inr ⟨id, ck, rfl, hb⟩, r, hr, Eq.mpr (congrArg f lkV_eq) hk⟩

/-- An entry laid into a map, met. -/
def mpu (P : Program) (fl : Nat) (A : Hp) (t : TypeId) (m k v : Value) [K : Kt (Value × Hp)] : Prop := amput P fl A t m k v fun v A => K.run (v, A)
def mpuR (A : Hp) (id : Nat) (k v : Value) (r : Option (Nat × Value)) (es : List (Value × Value × Nat)) (ck : Nat) [K : Kt (Value × Hp)] : Prop :=
  (∀ i u, r = some (i, u) → kflat k = true ∧ (es[i]?).map (·.1) = some k) ∧ K.run (undef, A.put id (mput k v r es ck))
theorem mpuR_none {id : Nat} {k v : Value} {es : List (Value × Value × Nat)} {ck : Nat} {f : Value × Hp → Prop} : @mpuR A id k v none es ck ⟨f⟩ = f (undef, A.put id (.mp (es ++ [(k, v, ck)]) (ck + 1))) := by
  apply propext; constructor
  · rintro ⟨_, h⟩; exact h
  · intro h; exact ⟨(fun i u h => by cases h), h⟩
theorem mpuR_some {id i : Nat} {k v u : Value} {es : List (Value × Value × Nat)} {ck : Nat} {f : Value × Hp → Prop} : @mpuR A id k v (some (i, u)) es ck ⟨f⟩ = @side (kflat k = true) ⟨@side ((es[i]?).map (·.1) = some k) ⟨f (undef, A.put id (.mp (es.modify i fun e => (k, v, e.2.2)) ck))⟩⟩ := by
  apply propext; constructor
  · rintro ⟨h1, h⟩; obtain ⟨h2, h3⟩ := h1 i u rfl; exact ⟨h2, h3, h⟩
  · rintro ⟨h1, h2, h⟩; exact ⟨(fun i u h => by cases h; exact ⟨h1, h2⟩), h⟩
theorem r_mapUpdate {e : TypeId} {x y z : Operand} : aop P G fl ⟨d, .mapUpdate e x y z, t, ps, af, g⟩ τ A K = @bO _ (ev τ x) ⟨fun m => @bO _ (ev τ y) ⟨fun k => @bO _ (ev τ z) ⟨fun v => @mpu P fl A e m k v ⟨fun r => K r.1 r.2⟩⟩⟩⟩ := (rfl)
theorem r_insert {e : TypeId} {x y z : Operand} : aop P G fl ⟨d, .insert e x y z, t, ps, af, g⟩ τ A K = @bO _ (ev τ x) ⟨fun m => @bO _ (ev τ y) ⟨fun k => @bO _ (ev τ z) ⟨fun v => @mpu P fl A e m k v ⟨fun r => K r.1 r.2⟩⟩⟩⟩ := (rfl)
theorem mpu_map {e : TypeId} {id : Nat} {k v : Value} {f : Value × Hp → Prop} : @mpu P fl A e (.map (some id)) k v ⟨f⟩ = @mpT (tyOf P e) ⟨fun q => @side (ckK P 20 q.1 k = true) ⟨@bM (A.blk id) ⟨fun m => @side (fl ≤ id) ⟨@bO _ (mfind P q.1 k m.1 0) ⟨fun r => @mpuR A id k v r m.1 m.2 ⟨f⟩⟩⟩⟩⟩⟩ := by
  apply propext; constructor
  · rintro ⟨T, kt, et, hT, hd, hck, _, es, ck, h, hb, hfl, r, hr, h1, hk⟩
    cases h; exact ⟨T, kt, et, hT, hd, hck, es, ck, hb, hfl, r, hr, h1, hk⟩
  · rintro ⟨T, kt, et, hT, hd, hck, es, ck, hb, hfl, r, hr, h1, hk⟩
    exact ⟨T, kt, et, hT, hd, hck, id, es, ck, rfl, hb, hfl, r, hr, h1, hk⟩

/-- An entry taken out of a map, met. -/
def mde (P : Program) (fl : Nat) (A : Hp) (ts : Array TypeId) (xs : List Value) [K : Kt (Value × Hp)] : Prop := amdel P fl A ts xs fun v A => K.run (v, A)
theorem r_delete {args : Array Operand} {tys : Array TypeId} : aop P G fl ⟨d, .call ⟨.builtin .delete, args, tys⟩, t, ps, af, g⟩ τ A K = @eVs τ args.toList [] ⟨fun xs => @mde P fl A tys xs ⟨fun r => K r.1 r.2⟩⟩ := (rfl)
theorem mde_map {ts : Array TypeId} {id : Nat} {k : Value} {f : Value × Hp → Prop} : @mde P fl A ts [.map (some id), k] ⟨f⟩ = @bO _ (ts[0]?) ⟨fun e => @mpT (tyOf P e) ⟨fun q => @side (ckK P 20 q.1 k = true) ⟨@bM (A.blk id) ⟨fun m => @side (fl ≤ id) ⟨@bO _ (mfind P q.1 k m.1 0) ⟨fun r => f (.tuple #[], A.put id (.mp (mdel r m.1) m.2))⟩⟩⟩⟩⟩⟩ := by
  apply propext; constructor
  · rintro ⟨e, T, kt, et, m, k', ht, hT, hd, h0, hck, _, es, ck, h, hb, hfl, r, hr, hk⟩
    cases h0; cases h; exact ⟨e, ht, T, kt, et, hT, hd, hck, es, ck, hb, hfl, r, hr, hk⟩
  · rintro ⟨e, ht, T, kt, et, hT, hd, hck, es, ck, hb, hfl, r, hr, hk⟩
    exact ⟨e, T, kt, et, _, _, ht, hT, hd, rfl, hck, id, es, ck, rfl, hb, hfl, r, hr, hk⟩

/-- A loop over a map begins. -/
def rgm (P : Program) (A : Hp) (t : TypeId) (m : Value) [K : Kt (Value × Hp)] : Prop := amrange P A t m fun v A => K.run (v, A)
theorem r_range {e : TypeId} {x : Operand} : aop P G fl ⟨d, .range e x, t, ps, af, g⟩ τ A K = @bO _ (ev τ x) ⟨fun m => @rgm P A e m ⟨fun r => K r.1 r.2⟩⟩ := (rfl)
theorem rgm_map {e : TypeId} {id : Nat} {f : Value × Hp → Prop} : @rgm P A e (.map (some id)) ⟨f⟩ = @mpT (tyOf P e) ⟨fun q => @bM (A.blk id) ⟨fun m => f (.chan (some A.next), A.push (.it (some id) m.2 [] m.2))⟩⟩ := by
  apply propext; constructor
  · rintro ⟨T, kt, et, hT, hd, ⟨h, _⟩ | ⟨_, es, ck, h, hb, hk⟩⟩
    · cases h
    · cases h; exact ⟨T, kt, et, hT, hd, es, ck, hb, hk⟩
  · rintro ⟨T, kt, et, hT, hd, es, ck, hb, hk⟩
    exact ⟨T, kt, et, hT, hd, .inr ⟨id, es, ck, rfl, hb, hk⟩⟩

/-- A step of an iterator, met. -/
def nxt (fl : Nat) (A : Hp) (v : Value) [K : Kt (Value × Hp)] : Prop := anext fl A v fun v A => K.run (v, A)
theorem r_next {x : Operand} : aop P G fl ⟨d, .next x false, t, ps, af, g⟩ τ A K = @bO _ (ev τ x) ⟨fun v => @nxt fl A v ⟨fun r => K r.1 r.2⟩⟩ := by
  apply propext; constructor
  · rintro ⟨_, h⟩; exact h
  · intro h; exact ⟨rfl, h⟩
theorem next_of {id r since last ck : Nat} {seen : List Nat} {es : List (Value × Value × Nat)} {f : Value × Hp → Prop} (h1 : A.blk id = some (.it (some r) since seen last)) (h2 : A.blk r = some (.mp es ck)) (hf : fl ≤ id) (hsl : since ≤ last) (hold : ∀ e ∈ es, e.2.2 < since)
    (k0 : (∀ e ∈ es, e.2.2 ∈ seen) → f (.tuple #[.bool false], A)) (k1 : ∀ e ∈ es, e.2.2 ∉ seen → f (.tuple #[.bool true, e.1, e.2.1], A.put id (.it (some r) since (seen ++ [e.2.2]) ck))) : @nxt fl A (.chan (some id)) ⟨f⟩ :=
  ⟨id, some r, since, seen, last, rfl, h1, hf, .inr ⟨r, es, ck, rfl, h2, hsl, hold, k0, k1⟩⟩
/-- The entry handed out last, met. -/
def enr (A : Hp) (v : Value) [K : Kt Value] : Prop := aentry A v K.run
theorem r_entry {x : Operand} : aop P G fl ⟨d, .entry x, t, ps, af, g⟩ τ A K = @bO _ (ev τ x) ⟨fun v => @enr A v ⟨fun u => K u A⟩⟩ := (rfl)
theorem entry_of {id r since last b : Nat} {seen : List Nat} {es : List (Value × Value × Nat)} {e : Value × Value × Nat} {f : Value → Prop} (h1 : A.blk id = some (.it (some r) since (seen ++ [b]) last)) (h2 : A.blk r = some (.mp es last)) (h3 : es.find? (fun e => e.2.2 == b) = some e)
    (k : f (.tuple #[e.1, e.2.1])) : @enr A (.chan (some id)) ⟨f⟩ :=
  ⟨id, r, since, _, last, rfl, h1, b, by simp, es, h2, e, h3, k⟩

/-! looking for keys -/
theorem mfind_nil {kt : TypeId} {k : Value} {i : Nat} : mfind P kt k [] i = some none := (rfl)
theorem mfind_cons {kt : TypeId} {k : Value} {e : Value × Value × Nat} {es : List (Value × Value × Nat)} {i : Nat} : mfind P kt k (e :: es) i = (eqD P 20 kt k e.1).bind fun r => if r then some (some (i, e.2.1)) else mfind P kt k es (i + 1) := (rfl)
theorem eqD_int {kt : TypeId} {k k' : IntKind} (h : P.underlying kt = some (.int k)) (a b : Int) : eqD P 20 kt (.int k' a) (.int k' b) = some (decide (a = b)) := by
  simp [eqD, h]; rfl
theorem ckK_int {kt : TypeId} {k : IntKind} (h : P.underlying kt = some (.int k)) (v : Value) : ckK P 20 kt v = true := by simp [ckK, h]
theorem eqD_string {kt : TypeId} (h : P.underlying kt = some .string) (a b : ByteArray) : eqD P 20 kt (.string a) (.string b) = some (decide (a = b)) := by
  simp [eqD, h]
theorem ckK_string {kt : TypeId} (h : P.underlying kt = some .string) (v : Value) : ckK P 20 kt v = true := by simp [ckK, h]
theorem mdel_none {es : List (Value × Value × Nat)} : mdel none es = es := (rfl)
theorem mdel_some {i : Nat} {v : Value} {es : List (Value × Value × Nat)} : mdel (some (i, v)) es = es.eraseIdx i := (rfl)

/-- A list's entry of a key. -/
def lfind {α : Type} [DecidableEq α] (k : α) : List (α × Value × Nat) → Nat → Option (Nat × Value)
  | [], _ => none
  | e :: es, i => if k = e.1 then some (i, e.2.1) else lfind k es (i + 1)
def ents {α : Type} (key : α → Value) (l : List (α × Value × Nat)) : List (Value × Value × Nat) := l.map fun e => (key e.1, e.2)
theorem mfind_of {α : Type} [DecidableEq α] {kt : TypeId} {key : α → Value} (h : ∀ a b, eqD P 20 kt (key a) (key b) = some (decide (a = b))) (k : α) : ∀ (l : List (α × Value × Nat)) (i : Nat), mfind P kt (key k) (ents key l) i = some (lfind k l i)
  | [], _ => rfl
  | e :: l, i => by
    have ih := mfind_of h k l (i + 1)
    simp only [ents, List.map_cons, mfind_cons, h, lfind] at ih ⊢
    by_cases hk : k = e.1
    · simp [hk]
    · simp only [hk, decide_false, Option.bind_some, Bool.false_eq_true, if_false]; exact ih
theorem lfind_none {α : Type} [DecidableEq α] {k : α} : ∀ {l : List (α × Value × Nat)} {i : Nat}, lfind k l i = none → ∀ e ∈ l, e.1 ≠ k
  | [], _, _, e, he => by simp at he
  | x :: l, i, h, e, he => by
    simp only [lfind] at h
    split at h
    · cases h
    · rename_i hk
      rcases List.mem_cons.1 he with rfl | he
      · exact fun q => hk q.symm
      · exact lfind_none h e he
theorem lfind_some {α : Type} [DecidableEq α] {k : α} : ∀ {l : List (α × Value × Nat)} {i j : Nat} {v : Value}, lfind k l i = some (j, v) → ∃ b, i ≤ j ∧ l[j - i]? = some (k, v, b)
  | [], _, _, _, h => by cases h
  | x :: l, i, j, v, h => by
    simp only [lfind] at h
    split at h
    · rename_i hk
      cases h
      obtain ⟨a, b, c⟩ := x
      simp only at hk; subst hk
      exact ⟨c, Nat.le_refl _, by simp⟩
    · obtain ⟨b, h1, h2⟩ := lfind_some h
      refine ⟨b, by omega, ?_⟩
      rw [show j - i = (j - (i + 1)) + 1 by omega]
      simpa using h2
theorem ents_get {α : Type} {key : α → Value} {l : List (α × Value × Nat)} {i : Nat} {k : α} {v : Value} {b : Nat} (h : l[i]? = some (k, v, b)) : ((ents key l)[i]?).map (·.1) = some (key k) := by simp [ents, h]
theorem ents_append {α : Type} {key : α → Value} {l : List (α × Value × Nat)} {k : α} {v : Value} {b : Nat} : ents key l ++ [(key k, v, b)] = ents key (l ++ [(k, v, b)]) := by simp [ents]
theorem ents_modify {α : Type} {key : α → Value} {k : α} {v : Value} : ∀ {l : List (α × Value × Nat)} {i : Nat}, (ents key l).modify i (fun e => (key k, v, e.2.2)) = ents key (l.modify i fun e => (k, v, e.2.2))
  | [], i => by simp [ents]
  | x :: l, 0 => by simp [ents, List.modify_zero_cons]
  | x :: l, i + 1 => by
    have := @ents_modify α key k v l i
    simp only [ents, List.map_cons, List.modify_succ_cons] at this ⊢
    rw [this]
theorem ents_erase {α : Type} {key : α → Value} : ∀ {l : List (α × Value × Nat)} {i : Nat}, (ents key l).eraseIdx i = ents key (l.eraseIdx i)
  | [], i => by simp [ents]
  | x :: l, 0 => by simp [ents]
  | x :: l, i + 1 => by
    have := @ents_erase α key l i
    simp only [ents, List.map_cons, List.eraseIdx_cons_succ] at this ⊢
    rw [this]
end
end Go.Proofs.Ytiiapkhdjchhjaa.Ab

/- The rules in bundles, for the rewriter. -/
namespace Go.Proofs.Ytiiapkhdjchhjaa.Ab
open Go.RowKit
set_option linter.unusedVariables false
set_option linter.defProp false

section
variable {τ : Tm} {v : Value} {t : Nat}
theorem e_tmp : ev τ (.tmp t) = τ t := (rfl)
theorem e_const : ev τ (.const v) = some v := (rfl)
theorem e_func {f : FuncId} : ev τ (.func f) = some (.func (.func f) #[] #[]) := (rfl)
theorem e_global {g : Nat} : ev τ (.global g) = some (.pointer (some ⟨g, 0, none⟩)) := (rfl)
theorem upd_eq {u : Nat} : upd τ t v u = if u = t then some v else τ u := (rfl)
theorem updO_some : updO τ (some t) v = upd τ t v := (rfl)
theorem updO_none : updO τ none v = τ := (rfl)
theorem setb_tmp {b : Bool} : setb τ (.tmp t) b = upd τ t (.bool b) := (rfl)
theorem setb_const {b : Bool} : setb τ (.const v) b = τ := (rfl)
theorem slots_eq {args : List Value} : slots0 args t = some (args.getD t undef) := (rfl)
theorem retv_one : retv [v] = v := (rfl)
theorem retv_none : retv [] = .tuple #[] := (rfl)
theorem retv_more {u : Value} {l : List Value} : retv (v :: u :: l) = .tuple (v :: u :: l).toArray := (rfl)
theorem cells_agg {xs : Array Value} : (Value.agg xs).cells = xs := (rfl)
theorem cells_int {k : IntKind} {n : Int} : (Value.int k n).cells = [Value.int k n].toArray := (rfl)
theorem cells_bool {b : Bool} : (Value.bool b).cells = [Value.bool b].toArray := (rfl)
theorem cells_string {b : ByteArray} : (Value.string b).cells = [Value.string b].toArray := (rfl)
theorem cells_pointer {b : Option Addr} : (Value.pointer b).cells = [Value.pointer b].toArray := (rfl)
theorem cells_slice {b : Option Addr} {n c : Nat} : (Value.slice b n c).cells = [Value.slice b n c].toArray := (rfl)
theorem cells_tuple {xs : Array Value} : (Value.tuple xs).cells = [Value.tuple xs].toArray := (rfl)
theorem cells_undef : undef.cells = [undef].toArray := (rfl)
theorem places_st {fs : List (Nat × Nat × TypeId)} : placesOf (.st fs) = fs := (rfl)
theorem ones_eq {v : Value} : ones v = v.cells.toList.all Value.oneCell' := (rfl)
theorem zc_bool {b : Bool} : zc (.bool b) = true := (rfl)
theorem zc_int {k : IntKind} {n : Int} : zc (.int k n) = true := (rfl)
theorem zc_string {b : ByteArray} : zc (.string b) = true := (rfl)
theorem zc_ptr : zc (.pointer none) = true := (rfl)
theorem zc_slice {n c : Nat} : zc (.slice none n c) = true := (rfl)
theorem zc_map : zc (.map none) = true := (rfl)
theorem zc_func : zc .nilFunc = true := (rfl)
theorem one_bool {b : Bool} : (Value.bool b).oneCell' = true := (rfl)
theorem one_int {k : IntKind} {n : Int} : (Value.int k n).oneCell' = true := (rfl)
theorem one_string {b : ByteArray} : (Value.string b).oneCell' = true := (rfl)
theorem one_ptr {p : Option Addr} : (Value.pointer p).oneCell' = true := (rfl)
theorem one_slice {p : Option Addr} {n c : Nat} : (Value.slice p n c).oneCell' = true := (rfl)
theorem one_map {p : Option Nat} : (Value.map p).oneCell' = true := (rfl)
theorem one_func {f : Fn} {a b : Array Value} : (Value.func f a b).oneCell' = true := (rfl)
theorem all_cons {f : Value → Bool} {v : Value} {l : List Value} : (v :: l).all f = (f v && l.all f) := (rfl)
theorem all_nil {f : Value → Bool} : ([] : List Value).all f = true := (rfl)
theorem and_t {b : Bool} : (b && true) = b := by cases b <;> rfl
theorem t_and {b : Bool} : (true && b) = b := (rfl)
theorem wr_nil {cs : List Value} {o : Nat} : wr cs o [] = cs := (rfl)
theorem wr_cons {cs vs : List Value} {o : Nat} : wr cs o (v :: vs) = wr (cs.set o v) (o + 1) vs := (rfl)
end

/-- Steps, from above. -/
def R1 := And.intro @r_makeMap (And.intro @r_makeMap1 (And.intro @r_lookup (And.intro @r_mapUpdate (And.intro @r_insert (And.intro @r_delete (And.intro @r_range (And.intro @r_next (And.intro @r_entry (And.intro @r_skip (And.intro @r_exit (And.intro @r_ret (And.intro @r_region (And.intro @r_regionD (And.intro @r_regionL (And.intro @r_seq (And.intro @r_block (And.intro @k_then (And.intro @k_then_ret (And.intro @k_then_exit (And.intro @k_block (And.intro @k_block_ret (And.intro @k_block_here (And.intro @k_done (And.intro @k_done_ret (And.intro @k_loop_ret (And.intro @k_loop_exit (And.intro @k_unr_normal (And.intro @k_unr_ret (And.intro @k_unr_exit (And.intro @r_cond (And.intro @r_nil (And.intro @r_op (And.intro @r_guard (And.intro @r_move (And.intro @r_assign (And.intro @r_pick (And.intro @r_alloc (And.intro @r_box (And.intro @r_nilCheck (And.intro @r_bin (And.intro @r_not (And.intro @r_neg (And.intro @r_extract (And.intro @r_load (And.intro @r_store (And.intro @r_fieldAddr (And.intro @r_field (And.intro @r_makeFunc (And.intro @r_call (And.intro @r_build (And.intro @r_buildSlice (And.intro @r_makeSlice (And.intro @r_slice (And.intro @r_indexAddr (And.intro @r_index (And.intro @r_len (And.intro @r_append (And.intro @r_clear (And.intro @r_min (And.intro @r_max @r_convert))))))))))))))))))))))))))))))))))))))))))))))))))))))))))))
/-- Steps, from above, without the step from one part of a sequence to the next: the run stops there. -/
def R1x := And.intro @r_makeMap (And.intro @r_makeMap1 (And.intro @r_lookup (And.intro @r_mapUpdate (And.intro @r_insert (And.intro @r_delete (And.intro @r_range (And.intro @r_next (And.intro @r_entry (And.intro @r_skip (And.intro @r_exit (And.intro @r_ret (And.intro @r_region (And.intro @r_regionD (And.intro @r_regionL (And.intro @r_seq (And.intro @r_block (And.intro @k_then_ret (And.intro @k_then_exit (And.intro @k_block (And.intro @k_block_ret (And.intro @k_block_here (And.intro @k_done (And.intro @k_done_ret (And.intro @k_loop_ret (And.intro @k_loop_exit (And.intro @k_unr_normal (And.intro @k_unr_ret (And.intro @k_unr_exit (And.intro @r_cond (And.intro @r_nil (And.intro @r_op (And.intro @r_guard (And.intro @r_move (And.intro @r_assign (And.intro @r_pick (And.intro @r_alloc (And.intro @r_box (And.intro @r_nilCheck (And.intro @r_bin (And.intro @r_not (And.intro @r_neg (And.intro @r_extract (And.intro @r_load (And.intro @r_store (And.intro @r_fieldAddr (And.intro @r_field (And.intro @r_makeFunc (And.intro @r_call (And.intro @r_build (And.intro @r_buildSlice (And.intro @r_makeSlice (And.intro @r_slice (And.intro @r_indexAddr (And.intro @r_index (And.intro @r_len (And.intro @r_append (And.intro @r_clear (And.intro @r_min (And.intro @r_max @r_convert)))))))))))))))))))))))))))))))))))))))))))))))))))))))))))
/-- Values. -/
def R2 := And.intro @bM_some (And.intro @lnV_mp (And.intro @mpT_some (And.intro @lkp_map (And.intro @lkV_ok (And.intro @lkV_one (And.intro @lkV_no (And.intro @lkV_zero (And.intro @zv_agg (And.intro @zv_one (And.intro @mpu_map (And.intro @mpuR_none (And.intro @mpuR_some (And.intro @mde_map (And.intro @rgm_map (And.intro @mfind_nil (And.intro @mfind_cons (And.intro @mdel_none (And.intro @mdel_some (And.intro @bO_some (And.intro @bI_int (And.intro @bB_bool (And.intro @bS_str (And.intro @bP_ptr (And.intro @bA_agg (And.intro @bT_tuple (And.intro @bF_func (And.intro @brI_true (And.intro @brI_false (And.intro @brI_dec (And.intro @brI_not (And.intro @agd_yes (And.intro @agd_no (And.intro @agd_undef (And.intro @side_true (And.intro @nilC_ptr (And.intro @nilC_func (And.intro @readT_agg (And.intro @readT_one (And.intro @r_rdn0 (And.intro @r_rdn (And.intro @stB_row (And.intro @partT_agg (And.intro @partT_one (And.intro @r_evs0 (And.intro @r_evs (And.intro @r_evp0 (And.intro @r_evp (And.intro @r_res0 (And.intro @r_res (And.intro @r_resc (And.intro @b_add (And.intro @b_cat (And.intro @b_sub (And.intro @b_mul (And.intro @b_quo (And.intro @b_rem (And.intro @b_or (And.intro @b_and (And.intro @b_shl (And.intro @b_shr (And.intro @b_lss (And.intro @b_leq (And.intro @b_gtr (And.intro @b_geq (And.intro @b_eql (And.intro @b_neq (And.intro @b_eqs (And.intro @b_nes (And.intro @putL_nil (And.intro @putL_cons (And.intro @bldT_st (And.intro @bldT_arr (And.intro @slT_sl (And.intro @aLo_none (And.intro @aHi_none (And.intro @aLo_some (And.intro @aHi_some (And.intro @aSlc_str (And.intro @aSlc_nil (And.intro @aSlc_sl (And.intro @aSlc_ptr (And.intro @arT_arr (And.intro @rowB_row (And.intro @b_eqb (And.intro @b_neb (And.intro @b_eqa (And.intro @b_nea (And.intro @b_eqn (And.intro @b_nen (And.intro @b_eqp (And.intro @b_nep (And.intro @isSl_sl (And.intro @isPtr_ptr (And.intro @ixA_sl (And.intro @ixA_arr (And.intro @ixV_str (And.intro @ixV_arr (And.intro @lnV_str (And.intro @lnV_sl (And.intro @lnV_arr (And.intro @twoI_two (And.intro @cnv_int (And.intro @cnv_bytes (And.intro @cnv_str (And.intro @e_tmp (And.intro @e_const (And.intro @e_func (And.intro @e_global (And.intro @upd_eq (And.intro @updO_some (And.intro @updO_none (And.intro @setb_tmp (And.intro @setb_const (And.intro @slots_eq (And.intro @retv_one (And.intro @retv_none (And.intro @retv_more (And.intro @aadd_mk (And.intro @aadd_aadd (And.intro @get_push_new (And.intro @get_put_same (And.intro @get_glob (And.intro @cells_agg (And.intro @cells_int (And.intro @cells_bool (And.intro @cells_string (And.intro @cells_pointer (And.intro @cells_slice (And.intro @cells_tuple (And.intro @cells_undef (And.intro @places_st (And.intro @wr_nil (And.intro @wr_cons (And.intro @ones_eq (And.intro @zc_bool (And.intro @zc_int (And.intro @zc_string (And.intro @zc_ptr (And.intro @zc_slice (And.intro @zc_map (And.intro @zc_func (And.intro @one_bool (And.intro @one_int (And.intro @one_string (And.intro @one_ptr (And.intro @one_slice (And.intro @one_map (And.intro @one_func (And.intro @all_cons (And.intro @all_nil (And.intro @and_t @t_and)))))))))))))))))))))))))))))))))))))))))))))))))))))))))))))))))))))))))))))))))))))))))))))))))))))))))))))))))))))))))))))))))))))))))))))))))))))))
/-- Lists, heaps, truth. -/
def R3 := And.intro @List.getElem?_toArray.{0} (And.intro @Hp.push_blk (And.intro @Hp.put_blk (And.intro @Hp.push_next (And.intro @Hp.put_next (And.intro @Nat.add_zero (And.intro @Nat.zero_add (And.intro @ne_eq.{1} (And.intro @not_false_eq_true (And.intro @not_true_eq_false (And.intro @List.nil_append.{0} (And.intro @List.cons_append.{0} (And.intro @true_and (And.intro @and_true (And.intro @Bool.not_true (And.intro @Bool.not_false (And.intro @true_implies (And.intro @false_imp_iff (And.intro @and_self (And.intro @List.getD_cons_zero.{0} (And.intro @List.getD_cons_succ.{0} (And.intro @List.getD_nil.{0} (And.intro @List.getElem?_cons_zero.{0} (And.intro @List.getElem?_cons_succ.{0} (And.intro @List.getElem?_nil.{0} (And.intro @Option.bind_some.{0,0} (And.intro @Option.map_some.{0,0} (And.intro @Option.getD_some.{0} (And.intro @Option.getD_none.{0} (And.intro @List.size_toArray.{0} (And.intro @List.length_cons.{0} (And.intro @List.length_nil.{0} (And.intro @List.set_cons_zero.{0} @List.set_cons_succ.{0}))))))))))))))))))))))))))))))))

end Go.Proofs.Ytiiapkhdjchhjaa.Ab

/- Heaps that have grown; counting loops; the end of a body that leaves nothing behind. -/
namespace Go.Proofs.Ytiiapkhdjchhjaa.Ab
open Go.RowKit
set_option linter.unusedVariables false
set_option linter.unusedSimpArgs false
set_option linter.defProp false

/-- B has the blocks of A below n. -/
structure Xt (n : Nat) (A B : Hp) : Prop where
  blk : ∀ id, id < n → B.blk id = A.blk id
  next : n ≤ B.next
theorem Xt.refl (A : Hp) : Xt A.next A A := ⟨fun _ _ => rfl, Nat.le_refl _⟩
theorem Xt.push {n : Nat} {A B : Hp} (h : Xt n A B) (b : Blk) : Xt n A (B.push b) :=
  ⟨fun id hid => by rw [Hp.push_blk, if_neg (by have := h.next; omega)]; exact h.blk id hid, by have := h.next; rw [Hp.push_next]; omega⟩
theorem Xt.put {n : Nat} {A B : Hp} (h : Xt n A B) {id : Nat} (hid : n ≤ id) (b : Blk) : Xt n A (B.put id b) :=
  ⟨fun i hi => by rw [Hp.put_blk, if_neg (by omega)]; exact h.blk i hi, h.next⟩
theorem Xt.trans {n : Nat} {A B C : Hp} (h : Xt n A B) (k : Xt B.next B C) : Xt n A C :=
  ⟨fun id hid => (k.blk id (Nat.lt_of_lt_of_le hid h.next)).trans (h.blk id hid), Nat.le_trans h.next k.next⟩
theorem Xt.get {n : Nat} {A B : Hp} {G : Gl} (h : Xt n A B) {a : Addr} (ha : a.block < n) : B.get G a = A.get G a := by simp only [Hp.get, h.blk _ ha]
theorem Xt.esz {n : Nat} {A B : Hp} (h : Xt n A B) {id sz : Nat} (ha : id < n) : eszOK B id sz = eszOK A id sz := by simp only [eszOK, h.blk _ ha]
theorem xt_push {n : Nat} {A B : Hp} {b : Blk} (h : Xt n A B) : Xt n A (B.push b) = True := eq_true (h.push b)
theorem xt_put {n id : Nat} {A B : Hp} {b : Blk} (h : Xt n A B) (hid : n ≤ id) : Xt n A (B.put id b) = True := eq_true (h.put hid b)
theorem xt_refl {A : Hp} : Xt A.next A A = True := eq_true (Xt.refl A)

section
variable {P : Program} {G : Gl} {fl : Nat} {τ : Tm} {A : Hp}

theorem floOf_wr {ops : Array Oper} {d : Bool} {o : Oper} (h : isWr (!okRegion P false ops) o = true) : floOf P fl ops d o A = fl := by
  simp [floOf, h]

theorem aadd_block {a : Addr} {k : Nat} : (aadd a k).block = a.block := rfl
theorem aadd_spot {a : Addr} {k : Nat} : (aadd a k).spot = a.spot := rfl
theorem lt_add {a b k : Nat} (h : a < b) : (a < b + k) = True := eq_true (Nat.lt_of_lt_of_le h (Nat.le_add_right _ _))
theorem le_add {a b k : Nat} (h : a ≤ b) : (a ≤ b + k) = True := eq_true (Nat.le_trans h (Nat.le_add_right _ _))
theorem ne_next {a b : Nat} (h : a < b) : (a = b) = False := eq_false (by omega)
theorem ne_next_add {a b k : Nat} (h : a < b) : (a = b + k) = False := eq_false (by omega)
theorem natc_nonneg {n : Nat} : (0 ≤ (n : Int)) = True := eq_true (Int.natCast_nonneg n)
theorem natc_toNat {n : Nat} : ((n : Int)).toNat = n := Int.toNat_natCast n
theorem natc_lt {a b : Nat} : ((a : Int) < (b : Int)) = (a < b) := propext Int.ofNat_lt
theorem natc_le {a b : Nat} : ((a : Int) ≤ (b : Int)) = (a ≤ b) := propext Int.ofNat_le
theorem natc_succ {a : Nat} : ((a : Int) + 1) = ((a + 1 : Nat) : Int) := by omega
theorem natc_eq {a b : Nat} : ((a : Int) = (b : Int)) = (a = b) := propext Int.ofNat_inj

theorem lt_self_add {a k : Nat} : (a < a + k) = (0 < k) := propext ⟨fun h => by omega, fun h => by omega⟩
theorem add_lt_add {a i k : Nat} : (a + i < a + k) = (i < k) := propext ⟨fun h => by omega, fun h => by omega⟩

theorem esz_push {b : Blk} {id sz : Nat} (h : id < A.next) : eszOK (A.push b) id sz = eszOK A id sz := by
  simp only [eszOK, Hp.push_blk, if_neg (show ¬ id = A.next by omega)]
theorem esz_put {b : Blk} {id i sz : Nat} (h : (i = id) = False) : eszOK (A.put id b) i sz = eszOK A i sz := by
  simp only [eszOK, Hp.put_blk, h, if_false]

theorem wrap_succ {j : Nat} (h : j < 9223372036854775807) : IntKind.i64.wrap ((j : Int) + 1) = ((j + 1 : Nat) : Int) := by rw [wrapI (by omega)]; omega

/-- More rules: heaps, counting. -/
def R4 := And.intro @aadd_block (And.intro @aadd_spot (And.intro @get_push_old (And.intro @get_put_other (And.intro @lt_add (And.intro @le_add (And.intro @ne_next (And.intro @ne_next_add (And.intro @natc_nonneg (And.intro @natc_toNat (And.intro @natc_lt (And.intro @natc_le (And.intro @lt_self_add (And.intro @add_lt_add (And.intro @esz_push (And.intro @esz_put (And.intro @Nat.zero_mul (And.intro @Nat.sub_zero (And.intro @Nat.zero_le (And.intro @Nat.le_refl (And.intro @true_or (And.intro @or_true (And.intro @Int.toNat_natCast (And.intro @Nat.lt_irrefl (And.intro @wrap_succ @Nat.mul_one))))))))))))))))))))))))

theorem dec_f {q : Prop} [Decidable q] (h : ¬ q) : false = decide q := (decide_eq_false h).symm
theorem dec_t {q : Prop} [Decidable q] (h : q) : true = decide q := (decide_eq_true h).symm
theorem dec_i {p q : Prop} [Decidable p] [Decidable q] (h : p ↔ q) : decide p = decide q := by by_cases hp : p <;> simp [hp, h.symm] <;> simp_all

/-- A block that is there is below the next. -/
theorem Hok.lt (h : Hok fl A) {id : Nat} {b : Blk} (hb : A.blk id = some b) : id < A.next := by
  rcases Nat.lt_or_ge id A.next with h' | h'
  · exact h'
  · rw [h.wf id h'] at hb; cases hb
theorem Sl.lt {sz n c : Nat} {a : Addr} {css : List (List Value)} (hA : Hok fl A) (h : Sl A sz (.slice (some a) n c) css) : a.block < A.next := by
  rcases h.2 with ⟨h1, rfl⟩ | ⟨a, g, h1, h2, h3, h4, h5⟩ | ⟨a, n, c, g, ds, h1, hn, hg, hb, hr⟩
  · cases h1
  · cases h1; exact h4
  · cases h1; exact hA.lt hb
theorem Sl.xt {B : Hp} {sz : Nat} {v : Value} {css : List (List Value)} (hA : Hok fl A) (h : Sl A sz v css) (x : Xt A.next A B) : Sl B sz v css :=
  h.keep x.next fun a n c e => x.blk _ (by subst e; exact h.lt hA)
theorem Sl.rb {sz : Nat} {v : Value} {css : List (List Value)} (hA : Hok fl A) (h : Sl A sz v css) : RB A.next v := by
  have h0 := h
  rcases h.2 with ⟨h1, rfl⟩ | ⟨a, g, h1, h2, h3, h4, h5⟩ | ⟨a, n, c, g, ds, h1, hn, hg, hb, hr⟩
  · subst h1; exact RB.sl0 _ _
  · subst h1
    exact ⟨.slice (some a) 0 0, .sl h4 (Nat.le_refl _) (Nat.le_refl _) ⟨g, h3, fun cs g e hb => by simp at hb⟩⟩
  · subst h1
    have hlt := h0.lt hA
    exact ⟨.slice (some a) n (max n c), .sl hlt (Nat.le_max_right _ _) (Nat.le_max_left _ _) ⟨g, hg, fun cs g e hb => by simp at hb⟩⟩

/-- The body has ended; nothing that was there has turned, and the result leads nowhere new. -/
theorem Ended.back {B : Hp} {r v : Value} (hA : Hok fl A) (x : Xt A.next A B) (hv : r = v) (hr : RB A.next v) : Ended A r B v A := by
  subst hv
  exact Ended.same hA hr x.blk

/-- A counting loop: slot ti counts from b on, n rounds. -/
def rangeI (J : Nat → Tm → Hp → Prop) (n : Nat) (τ : Tm) (A : Hp) : Prop := ∃ j, j ≤ n ∧ J j τ A
def rangeM (ti : Nat) (b : Int) (n : Nat) (τ : Tm) (A : Hp) : Nat := match τ ti with | some (.int _ x) => n - (x - b).toNat | _ => 0
theorem for_of {c : Code} {K : Exit → Tm → Hp → Prop} (ti : Nat) (b : Int) (n : Nat) (J : Nat → Tm → Hp → Prop) (h0 : J 0 τ A)
    (h : ∀ j τ A, j ≤ n → J j τ A → acode P G fl c τ A (loopK (rangeI J n) (rangeM ti b n) τ A K)) : acode P G fl (.loop c) τ A K :=
  loop_of (rangeI J n) (rangeM ti b n) ⟨0, Nat.zero_le _, h0⟩ fun τ A ⟨j, hj, hJj⟩ => h j τ A hj hJj
theorem for_on {J : Nat → Tm → Hp → Prop} {n j ti : Nat} {b x y : Int} {τ' : Tm} {A' : Hp} {K : Exit → Tm → Hp → Prop} (h1 : τ ti = some (.int .i64 x)) (hx : x = b + j) (hj : j < n)
    (h2 : τ' ti = some (.int .i64 y)) (hy : y = b + (j + 1 : Nat)) (h : J (j + 1) τ' A') : loopK (rangeI J n) (rangeM ti b n) τ A K .normal τ' A' := by
  refine loop_on ⟨j + 1, hj, h⟩ ?_
  simp only [rangeM, h1, h2]
  omega
theorem range_of {c : Code} {K : Exit → Tm → Hp → Prop} (ti n : Nat) (J : Nat → Tm → Hp → Prop) (h0 : J 0 τ A)
    (h : ∀ j τ A, j ≤ n → J j τ A → acode P G fl c τ A (loopK (rangeI J n) (rangeM ti 0 n) τ A K)) : acode P G fl (.loop c) τ A K := for_of ti 0 n J h0 h
theorem range_on {J : Nat → Tm → Hp → Prop} {n j ti : Nat} {τ' : Tm} {A' : Hp} {K : Exit → Tm → Hp → Prop} (h1 : τ ti = some (.int .i64 (j : Nat))) (hj : j < n)
    (h2 : τ' ti = some (.int .i64 ((j + 1 : Nat) : Int))) (h : J (j + 1) τ' A') : loopK (rangeI J n) (rangeM ti 0 n) τ A K .normal τ' A' :=
  for_on h1 (by omega) hj h2 (by omega) h

/-- A row of truth values. -/
def bools (n : Nat) (f : Nat → Bool) : List Value := (List.range n).map fun k => .bool (f k)
theorem bools_length {n : Nat} {f : Nat → Bool} : (bools n f).length = n := by simp [bools]
theorem bools_get {n k : Nat} {f : Nat → Bool} (h : k < n) : (bools n f)[k]? = some (.bool (f k)) := by simp [bools, h]
theorem bools_set {n k : Nat} {f : Nat → Bool} {b : Bool} : (bools n f).set k (.bool b) = bools n (fun i => if i = k then b else f i) := by
  apply List.ext_getElem?
  intro i
  rw [List.getElem?_set]
  by_cases hi : i < n
  · by_cases hk : k = i
    · subst hk; rw [if_pos rfl, if_pos (by rw [bools_length]; exact hi), bools_get hi, if_pos rfl]
    · rw [if_neg hk, bools_get hi, bools_get hi, if_neg (Ne.symm hk)]
  · have h1 : ∀ f, (bools n f)[i]? = none := fun f => List.getElem?_eq_none (by rw [bools_length]; omega)
    rw [h1, h1]
    split
    · rw [bools_length]; rename_i h; subst h; simp [hi]
    · rfl
theorem bools_zero {n : Nat} : List.replicate n (Value.bool false) = bools n (fun _ => false) := by
  apply List.ext_getElem?
  intro i
  by_cases hi : i < n
  · rw [bools_get hi]; simp [hi]
  · rw [List.getElem?_eq_none (by simp; omega), List.getElem?_eq_none (by rw [bools_length]; omega)]
theorem all_rep {n : Nat} {v : Value} {f : Value → Bool} (h : f v = true) : (List.replicate n v).all f = true := by simp [h]
theorem bools_ones {n : Nat} {f : Nat → Bool} {p : Value → Bool} (h : ∀ b, p (.bool b) = true) : (bools n f).all p = true := by simp [bools, h]
end
/-- Two cases of a run go on as one. -/
theorem merge {P : Program} {G : Gl} {fl : Nat} {c : Code} {K : Exit → Tm → Hp → Prop} {goal : Prop} (F : Tm → Hp → Prop) (main : (∀ τ B, F τ B → acode P G fl c τ B K) → goal) (tail : ∀ τ B, F τ B → acode P G fl c τ B K) : goal := main tail
/-- What is left of a sequence. -/
def dropC : List Unit → Code → Code
  | _ :: l, .seq _ b => dropC l b
  | _, c => c
theorem cut {P : Program} {G : Gl} {fl : Nat} {fn : Func} {c0 : Code} {l : List Unit} {τ : Tm} {B : Hp} {K : Exit → Tm → Hp → Prop} (hb : fn.body = some c0) (h : acode P G fl (dropC l c0) τ B K) : acode P G fl (dropC l (fn.body.getD .skip)) τ B K := by rw [hb]; exact h
/-- A run goes on with what is known of slots and heap. -/
theorem go_on {P : Program} {G : Gl} {fl : Nat} {b : Code} {K : Exit → Tm → Hp → Prop} {τ : Tm} {B : Hp} (F : Tm → Hp → Prop) (h0 : F τ B) (h : ∀ τ B, F τ B → acode P G fl b τ B K) : thenK P G fl b K .normal τ B := h τ B h0
section
variable {P : Program} {G : Gl} {fl m : Nat} {τ : Tm} {A : Hp} {d : Option Tmp} {t : TypeId} {ps : String} {af : Array Edge} {os : List Oper}
/-! marked regions -/
theorem any_of {ops : Array Oper} {K : Tm → Hp → Prop} (T : OT) (hc : T.chk ops ops.size (Region.ready .any ops (Array.replicate ops.size false)) (Array.replicate ops.size false) = true) (h : anyRun P G fl ops T τ A K) : anyOrd P G fl ops τ A K := ⟨T, hc, h⟩
def aPick (P : Program) (G : Gl) (fl : Nat) (o : Option Oper) (τ : Tm) (A : Hp) (k : Option Tmp → Value → Hp → Prop) : Prop := ∃ x, o = some x ∧ x.guard = none ∧ aop P G fl x τ A fun v A' => k x.dst v A'
theorem a_leaf {ops : Array Oper} {K : Tm → Hp → Prop} : anyRun P G fl ops .leaf τ A K = K τ A := (rfl)
theorem a_one {ops : Array Oper} {i : Nat} {s : OT} {K : Tm → Hp → Prop} : anyRun P G fl ops (.one i s) τ A K = aPick P G fl ops[i]? τ A fun d v A' => anyRun P G fl ops s (updO τ d v) A' K := (rfl)
theorem a_both {ops : Array Oper} {i : Nat} {s r : OT} {K : Tm → Hp → Prop} : anyRun P G fl ops (.both i s r) τ A K = ((aPick P G fl ops[i]? τ A fun d v A' => anyRun P G fl ops s (updO τ d v) A' K) ∧ anyRun P G fl ops r τ A K) := (rfl)
theorem a_pick {op : Op} {k : Option Tmp → Value → Hp → Prop} : aPick P G fl (some ⟨d, op, t, ps, af, none⟩) τ A k = aop P G fl ⟨d, op, t, ps, af, none⟩ τ A fun v A' => k d v A' := by
  apply propext
  simp only [aPick]
  exact ⟨fun ⟨x, hx, _, h⟩ => by cases hx; exact h, fun h => ⟨_, rfl, rfl, h⟩⟩
theorem low_here {l : List Oper} {K : Tm → Hp → Prop} (h : aopsL P G fl l τ A K) : lowRun P G fl l τ A K := .inl h
theorem low_next {l : List Oper} {K : Tm → Hp → Prop} (h : aopsL P G A.next l τ A K) : lowRun P G fl l τ A K := .inr h
def lowV (m : Nat) (v : Value) : Prop := ∃ p, v = .pointer (some p) ∧ p.block < m
theorem lowV_ptr {p : Addr} : lowV m (.pointer (some p)) = (p.block < m) := by
  apply propext
  unfold lowV
  exact ⟨fun ⟨q, h1, h2⟩ => by cases h1; exact h2, fun h => ⟨p, rfl, h⟩⟩
theorem l_nil {K : Tm → Hp → Prop} : aopsL P G m [] τ A K = K τ A := (rfl)
theorem l_nw {op : Op} {K : Tm → Hp → Prop} (h1 : isLd ⟨d, op, t, ps, af, none⟩ = none) (h2 : isWr true ⟨d, op, t, ps, af, none⟩ = false) :
    aopsL P G m (⟨d, op, t, ps, af, none⟩ :: os) τ A K = aop P G A.next ⟨d, op, t, ps, af, none⟩ τ A fun v A' => aopsL P G m os (updO τ d v) A' K := by
  apply propext
  simp only [aopsL, h1, h2]
  exact ⟨fun h => h.2.2, fun h => ⟨trivial, fun x hx => (by cases hx), h⟩⟩
theorem l_wr {op : Op} {K : Tm → Hp → Prop} (h1 : isLd ⟨d, op, t, ps, af, none⟩ = none) (h2 : isWr true ⟨d, op, t, ps, af, none⟩ = true) :
    aopsL P G m (⟨d, op, t, ps, af, none⟩ :: os) τ A K = aop P G m ⟨d, op, t, ps, af, none⟩ τ A fun v A' => aopsL P G m os (updO τ d v) A' K := by
  apply propext
  simp only [aopsL, h1, h2, if_true]
  exact ⟨fun h => h.2.2, fun h => ⟨trivial, fun x hx => (by cases hx), h⟩⟩
theorem l_ld {ty : TypeId} {x : Operand} {K : Tm → Hp → Prop} : aopsL P G m (⟨d, .load ty x, t, ps, af, none⟩ :: os) τ A K =
    @bO _ (ev τ x) ⟨fun v => @side (lowV m v) ⟨aop P G A.next ⟨d, .load ty x, t, ps, af, none⟩ τ A fun v A' => aopsL P G m os (updO τ d v) A' K⟩⟩ := by
  apply propext
  simp only [aopsL, isLd, isWr, bO, side]
  constructor
  · rintro ⟨-, h, k⟩
    obtain ⟨p, hp, hb⟩ := h x rfl
    exact ⟨_, hp, ⟨p, rfl, hb⟩, k⟩
  · rintro ⟨v, hv, ⟨p, rfl, hb⟩, k⟩
    exact ⟨trivial, fun y hy => (by cases hy; exact ⟨p, hv, hb⟩), k⟩
end
end Go.Proofs.Ytiiapkhdjchhjaa.Ab
