/- From a body to a contract; how the machine is run by rewriting. -/
import Derived.Test.YtpaffoiiipgkeaaDoorAb14
namespace Go.Proofs.YtpaffoiiipgkeaaDoor.Ab
open Go.RowKit
set_option linter.unusedVariables false
set_option linter.unusedSimpArgs false

structure Hok (fl : Nat) (A : Hp) : Prop where
  wf : ∀ id, A.next ≤ id → A.blk id = none
  floor : fl ≤ A.next
  refs : ∀ id cs g e, A.blk id = some (.row cs g e) → ∀ v ∈ cs, RB A.next v

def slots0 (args : List Value) : Tm := fun t => some (args.getD t undef)

section
variable {P : Program} {G : Gl}

def resOf (tmps : Array Value) : ResultVar → Sem Value
  | .tmp t => pure (tmps.getD t undef)
  | .cell a t => do loadVar t (← asAddr (tmps.getD a undef))

theorem ares_sound {n fl : Nat} {τ : Tm} {A : Hp} : ∀ (rs : List ResultVar) (acc : List Value) (K : List Value → Prop), ares G P τ A rs acc K →
    ∃ vs, K (acc ++ vs) ∧ ∀ (μ : Mu) (a : Act) (w : World), TR n μ A τ a → HR G μ fl A w → ∃ vs' : List Value, (rs.mapM (resOf a.tmps)).run P w = .ok vs' w ∧ VRa μ A vs.toArray vs'.toArray
  | [], acc, K, h => ⟨[], by rw [List.append_nil]; exact h, fun μ a w _ _ => ⟨[], by simp, ⟨rfl, fun i hi => by simp at hi⟩⟩⟩
  | r :: rs, acc, K, h => by
    have step : ∀ (v : Value), ares G P τ A rs (acc ++ [v]) K → (∀ (μ : Mu) (a : Act) (w : World), TR n μ A τ a → HR G μ fl A w → ∃ v', (resOf a.tmps r).run P w = .ok v' w ∧ VR μ A v v') →
        ∃ vs, K (acc ++ vs) ∧ ∀ (μ : Mu) (a : Act) (w : World), TR n μ A τ a → HR G μ fl A w → ∃ vs' : List Value, ((r :: rs).mapM (resOf a.tmps)).run P w = .ok vs' w ∧ VRa μ A vs.toArray vs'.toArray := by
      intro v h hv
      obtain ⟨vs, hK, hr⟩ := ares_sound rs _ _ h
      refine ⟨v :: vs, by simpa using hK, fun μ a w T H => ?_⟩
      obtain ⟨v', h1, h2⟩ := hv μ a w T H
      obtain ⟨vs', h3, h4⟩ := hr μ a w T H
      refine ⟨v' :: vs', by simp [List.mapM_cons, h1, h3], ⟨by have := h4.1; simpa using this, fun i hi hi' => ?_⟩⟩
      cases i with
      | zero => simpa using h2
      | succ i => have := h4.2 i (by simpa using hi) (by simpa using hi'); simpa using this
    cases r with
    | tmp t =>
      obtain ⟨v, hv, h⟩ := h
      exact step v h fun μ a w T H => ⟨_, by simp [resOf], T.tmp t v hv⟩
    | cell x t =>
      obtain ⟨p, hp, T, hT, h⟩ := h
      obtain ⟨i, d, z, hi, hd, hz', rfl⟩ := tyOf_inv hT
      rcases h with ⟨ha, h⟩ | ⟨ha, v, hv, h⟩
      · obtain ⟨vs, hK, hl, hg⟩ := rdn_spec _ _ _ _ h
        simp only [List.nil_append, Nat.zero_add] at hK hg
        refine step _ hK fun μ a w T H => ?_
        obtain ⟨p', hp', har⟩ := (T.tmp x _ hp).ptr_inv
        obtain ⟨vs', h1, h2, h3⟩ := loads H har vs hg
        have hl' : (loadCells p' i.size).run P w = .ok vs'.toArray w := by
          simp only at hl
          rw [← hl, h1]
          exact run_loadCells_list w p' vs' h2
        have ha' : aggB P t = true := ha
        refine ⟨.agg vs'.toArray, by simp [resOf, hp', asAddr, loadVar, run_isAgg' hd, ha', run_sizeOf' hi, hl'], ?_⟩
        have := VRa.list h1 h3
        exact .agg this.1 this.2
      · refine step _ h fun μ a w T H => ?_
        obtain ⟨p', hp', har⟩ := (T.tmp x _ hp).ptr_inv
        obtain ⟨v', h1, h2⟩ := H.get har hv
        have ha' : aggB P t = false := ha
        exact ⟨v', by simp [resOf, hp', asAddr, loadVar, run_isAgg' hd, ha', h1], h2⟩

/-- What may end a body. -/
def done (K : Tm → Hp → Prop) : Exit → Tm → Hp → Prop
  | .normal, τ, A | .ret, τ, A => K τ A
  | _, _, _ => False

/-- A call of a function with a body. -/
theorem calls_intro {f : FuncId} {fn : Func} {c : Code} {args : List Value} {fl : Nat} {A C : Hp} {v : Value} (hmx : P.follows .mixedOrders = true) (hf : P.funcs[f]? = some fn) (hname : (fn.name == "runtime.NumGoroutine") = false)
    (hb : fn.body = some c) (hok : okCode P fn.ntmps c = true) (hn : args.length ≤ fn.ntmps)
    (h : Hok fl A → acode P G fl c (slots0 args) A (done fun τ B => ares G P τ B fn.results.toList [] fun vs => Ended A (retv vs) B v C)) : ∀ (μ : Mu) (w : World) (args' : Array Value), HR G μ fl A w → fl ≤ A.next → VRa μ A args.toArray args' →
    Calls P f args' w fun e w' => ∃ u, e = .returned u ∧ ∃ ν, VR ν C v u ∧ HR G ν fl C w' ∧ Trans fl μ A w ν C w' := by
  intro μ w args' H hfl hargs
  have hsz := hargs.1
  simp only [List.size_toArray] at hsz
  have T : TR fn.ntmps μ A (slots0 args) { tmps := args' ++ Array.replicate (fn.ntmps - args'.size) undef, defers := [] } := by
    refine ⟨by simp; omega, rfl, fun t u hu => ?_⟩
    simp only [slots0, Option.some.injEq] at hu
    subst hu
    simp only [Array.getD_eq_getD_getElem?, List.getD_eq_getElem?_getD]
    by_cases ht : t < args.length
    · rw [Array.getElem?_append_left (by omega), List.getElem?_eq_getElem ht, Array.getElem?_eq_getElem (show t < args'.size by omega)]
      have := hargs.2 t (by simpa using ht) (by omega)
      simpa using this
    · rw [List.getElem?_eq_none (by omega), Array.getElem?_append_right (by omega)]
      have : ((Array.replicate (fn.ntmps - args'.size) undef)[t - args'.size]?).getD undef = undef := by
        by_cases hq : t - args'.size < fn.ntmps - args'.size <;> simp [hq]
      rw [this]
      exact VR.undef
  refine calls_of_wp hf hb (acode_sound hmx c hok (h ⟨H.wf, hfl, H.refs⟩) T H hfl fun e τ B μ' a' w' hK T' H' Tr' => ?_)
  have main : ares G P τ B fn.results.toList [] (fun vs => Ended A (retv vs) B v C) → a'.defers = [] ∧ ∃ r, (results fn a'.tmps).run P w' = .ok r w' ∧ ∃ u, Ending.returned r = .returned u ∧ ∃ ν, VR ν C v u ∧ HR G ν fl C w' ∧ Trans fl μ A w ν C w' := by
    intro hr
    obtain ⟨vs, hE, hrun⟩ := ares_sound (n := fn.ntmps) (fl := fl) _ _ _ hr
    simp only [List.nil_append] at hE
    obtain ⟨vs', h1, h2⟩ := hrun μ' a' w' T' H'
    have hres : (fn.results.mapM (resOf a'.tmps)).run P w' = .ok vs'.toArray w' := by
      rw [Array.mapM_eq_mapM_toList, Sem.run_map, h1]; rfl
    have hv : VR μ' B (retv vs) (if h : vs'.toArray.size = 1 then vs'.toArray[0] else .tuple vs'.toArray) := by
      have hl : vs.length = vs'.length := by have := h2.1; simpa using this
      match vs, vs', hl with
      | [], [], _ => simp only [retv]; exact .tuple rfl fun i hi => by simp at hi
      | [x], [y], _ => have := h2.2 0 (by simp) (by simp); simpa [retv] using this
      | x :: x2 :: xs, y :: y2 :: ys, _ =>
        have : ¬ ((y :: y2 :: ys).toArray.size = 1) := by simp
        rw [dif_neg this]
        simp only [retv]
        exact .tuple h2.1 h2.2
    obtain ⟨ν, r1, r2, r3⟩ := hE.sound H hfl Tr' H' hv
    refine ⟨T'.defers, _, ?_, _, rfl, ν, r1, r2, r3⟩
    show (do let vs ← fn.results.mapM (resOf a'.tmps); pure (if h : vs.size = 1 then vs[0] else .tuple vs) : Sem Value).run P w' = _
    rw [Sem.run_bind, hres]
    rfl
  cases e with
  | normal => exact main hK
  | ret => exact main hK
  | _ => exact hK.elim

theorem Sound.intro {f : FuncId} {fn : Func} {c : Code} {args : List Value} {fl : Nat} {A C : Hp} {v : Value} (hmx : P.follows .mixedOrders = true) (hf : P.funcs[f]? = some fn) (hname : (fn.name == "runtime.NumGoroutine") = false)
    (hb : fn.body = some c) (hok : okCode P fn.ntmps c = true) (hn : args.length ≤ fn.ntmps)
    (h : Hok fl A → acode P G fl c (slots0 args) A (done fun τ B => ares G P τ B fn.results.toList [] fun vs => Ended A (retv vs) B v C)) : Sound P G f args fl A v C := by
  intro μ w args' H hfl hargs
  exact .inl ⟨⟨fn, hf, hname, by rw [hb]; rfl⟩, calls_intro hmx hf hname hb hok hn h μ w args' H hfl hargs⟩

theorem HR.of_below {fl : Nat} {μ : Mu} {A : Hp} {w w' : World} (H : HR G μ fl A w) (hfl : fl ≤ A.next) (b : Below w.heap.size w w') : HR G μ fl A w' ∧ Trans fl μ A w μ A w' := by
  have hf : ∀ bb j, bb < w.heap.size → w'.frozen? ⟨bb, j, none⟩ = w.frozen? ⟨bb, j, none⟩ := fun bb j hb => by simp only [World.frozen?, b.block bb hb]
  refine ⟨⟨H.wf, H.refs, fun id cs g e bb o S hb hm => ?_, fun id cs g e bb o S hfi hb hm j hj => ?_, H.apart, fun g cs hg => ?_, H.globApart⟩, ⟨b.os, b.tape, b.output, b.size, Ext.refl _ _, fun _ _ => ⟨rfl, rfl⟩, fun _ _ h => h, fun k hk _ => b.block k hk, fun _ h => .inl h⟩⟩
  · obtain ⟨c, t, fr, h1, h2⟩ := H.row id cs g e bb o S hb hm
    exact ⟨c, t, fr, (b.block bb (Array.getElem?_eq_some_iff.1 h1).1).trans h1, h2⟩
  · rw [hf bb j (live_lt H (by rw [hb]; simp) hm)]
    exact H.free id cs g e bb o S hfi hb hm j hj
  · obtain ⟨c, t, fr, h1, h2⟩ := H.glob g cs hg
    exact ⟨c, t, fr, (b.block g (Array.getElem?_eq_some_iff.1 h1).1).trans h1, h2⟩

/-- A contract of the kit's, over scalars, as one of the machine's. -/
theorem Sound.of_scalar {f : FuncId} {args : List Value} {fl : Nat} {A : Hp} {v : Value} (hs : ∀ u ∈ args, zcA u = true ∧ ∀ (μ : Mu) (A : Hp) (u' : Value), VR μ A u u' → u' = u) (hv : zcA v = true)
    (h : ∀ w, CallsV P f args.toArray w fun v' w' => v' = v ∧ Below w.heap.size w w') : Sound P G f args fl A v A := by
  intro μ w args' H hfl hargs
  have : args' = args.toArray := by
    apply Array.ext'
    apply List.ext_getElem?
    intro i
    have hsz := hargs.1
    simp only [List.size_toArray] at hsz
    by_cases hi : i < args.length
    · have h1 := hargs.2 i (by simpa using hi) (by omega)
      have h2 := (hs _ (List.getElem_mem hi)).2 _ _ _ (by simpa using h1)
      rw [Array.getElem?_toList, Array.getElem?_eq_getElem (show i < args'.size by omega), h2]
      simp [hi]
    · rw [List.getElem?_eq_none (by simp; omega), List.getElem?_eq_none (by simp; omega)]
  subst this
  rcases h w with ⟨hfn, hc⟩ | ⟨v', w', hr, rfl, hb⟩
  · refine .inl ⟨hfn, hc.mono fun e w' he => ?_⟩
    obtain ⟨u, rfl, rfl, hb⟩ := he
    obtain ⟨h1, h2⟩ := H.of_below hfl hb
    exact ⟨_, rfl, μ, VR.of_zcA hv, h1, h2⟩
  · obtain ⟨h1, h2⟩ := H.of_below hfl hb
    exact .inr ⟨_, w', hr, μ, VR.of_zcA hv, h1, h2⟩

/-! ends -/
theorem RB.zc {n : Nat} {v : Value} (h : zcA v = true) : RB n v := ⟨v, VR.of_zcA h⟩
theorem RB.int {n : Nat} (k : IntKind) (x : Int) : RB n (.int k x) := ⟨_, .int k x⟩
theorem RB.bool {n : Nat} (b : Bool) : RB n (.bool b) := ⟨_, .bool b⟩
theorem RB.string {n : Nat} (s : ByteArray) : RB n (.string s) := ⟨_, .string s⟩
theorem RB.sl0 {n : Nat} (a b : Nat) : RB n (.slice none a b) := ⟨_, .sl0 a b⟩
theorem RB.all {n : Nat} {xs : Array Value} (h : ∀ v ∈ xs.toList, RB n v) : ∃ ys : Array Value, VRa (fun _ => none) ⟨n, fun _ => none⟩ xs ys := by
  have h' : ∀ (i : Nat) (hi : i < xs.size), RB n xs[i] := fun i hi => h _ (by simp)
  refine ⟨Array.ofFn fun i : Fin xs.size => (h' i.1 i.2).choose, by simp, fun i hi hi' => ?_⟩
  simp only [Array.getElem_ofFn]
  exact (h' i hi).choose_spec
theorem RB.agg {n : Nat} {xs : Array Value} (h : ∀ v ∈ xs.toList, RB n v) : RB n (.agg xs) := by
  obtain ⟨ys, h1, h2⟩ := RB.all h; exact ⟨_, .agg h1 h2⟩
theorem RB.tuple {n : Nat} {xs : Array Value} (h : ∀ v ∈ xs.toList, RB n v) : RB n (.tuple xs) := by
  obtain ⟨ys, h1, h2⟩ := RB.all h; exact ⟨_, .tuple h1 h2⟩

/-- Nothing old has turned, and the result leads nowhere new: the heap is told as it was. -/
theorem Ended.same {fl : Nat} {A B : Hp} {r : Value} (hA : Hok fl A) (hr : RB A.next r) (hb : ∀ id, id < A.next → B.blk id = A.blk id) : Ended A r B r A :=
  ⟨fun _ => none, ⟨Nat.le_refl _, fun id h => (hb id h).symm, fun id h cs g e hbk => .inl (by rw [← hb id h]; exact hbk), hA.wf, fun k h1 h2 => (by omega), fun k p h => (by cases h), fun k k' id sh sh' h => (by cases h)⟩, .same hr⟩

end

/-! running by rewriting: what follows is handed on as an instance, which the rewriter leaves alone until it is reached -/
class Kt (α : Type) where
  run : α → Prop
class Pt where
  p : Prop

def bO {α : Type} (o : Option α) [K : Kt α] : Prop := ∃ x, o = some x ∧ K.run x
def bI (v : Value) [K : Kt (IntKind × Int)] : Prop := ∃ k n, v = .int k n ∧ K.run (k, n)
def bB (v : Value) [K : Kt Bool] : Prop := ∃ b, v = .bool b ∧ K.run b
def bS (v : Value) [K : Kt ByteArray] : Prop := ∃ b, v = .string b ∧ K.run b
def bP (v : Value) [K : Kt Addr] : Prop := ∃ p, v = .pointer (some p) ∧ K.run p
def bA (v : Value) [K : Kt (Array Value)] : Prop := ∃ p, v = .agg p ∧ K.run p
def bT (v : Value) [K : Kt (Array Value)] : Prop := ∃ p, v = .tuple p ∧ K.run p
def bF (v : Value) [K : Kt (FuncId × Array Value × Array Value)] : Prop := ∃ f a b, v = .func (.func f) a b ∧ K.run (f, a, b)
/-- Two ways, by a bool. -/
def brT (b : Bool) (X Y : Pt) : Prop := (b = true → X.p) ∧ (b = false → Y.p)
def brI (b : Bool) [X : Pt] (Y : Unit) [Z : Pt] : Prop := (b = true → X.p) ∧ (b = false → Z.p)

theorem bO_some {α : Type} (x : α) (f : α → Prop) : @bO α (some x) ⟨f⟩ = f x := by
  apply propext; constructor
  · rintro ⟨y, h, hk⟩; cases h; exact hk
  · intro h; exact ⟨x, rfl, h⟩
theorem bI_int (k : IntKind) (n : Int) (f : IntKind × Int → Prop) : @bI (.int k n) ⟨f⟩ = f (k, n) := by
  apply propext; constructor
  · rintro ⟨k', n', h, hk⟩; cases h; exact hk
  · intro h; exact ⟨k, n, rfl, h⟩
theorem bB_bool (b : Bool) (f : Bool → Prop) : @bB (.bool b) ⟨f⟩ = f b := by
  apply propext; constructor
  · rintro ⟨n', h, hk⟩; cases h; exact hk
  · intro h; exact ⟨b, rfl, h⟩
theorem bS_str (b : ByteArray) (f : ByteArray → Prop) : @bS (.string b) ⟨f⟩ = f b := by
  apply propext; constructor
  · rintro ⟨n', h, hk⟩; cases h; exact hk
  · intro h; exact ⟨b, rfl, h⟩
theorem bP_ptr (p : Addr) (f : Addr → Prop) : @bP (.pointer (some p)) ⟨f⟩ = f p := by
  apply propext; constructor
  · rintro ⟨n', h, hk⟩; cases h; exact hk
  · intro h; exact ⟨p, rfl, h⟩
theorem bA_agg (p : Array Value) (f : Array Value → Prop) : @bA (.agg p) ⟨f⟩ = f p := by
  apply propext; constructor
  · rintro ⟨n', h, hk⟩; cases h; exact hk
  · intro h; exact ⟨p, rfl, h⟩
theorem bT_tuple (p : Array Value) (f : Array Value → Prop) : @bT (.tuple p) ⟨f⟩ = f p := by
  apply propext; constructor
  · rintro ⟨n', h, hk⟩; cases h; exact hk
  · intro h; exact ⟨p, rfl, h⟩
theorem bF_func (g : FuncId) (a b : Array Value) (f : FuncId × Array Value × Array Value → Prop) : @bF (.func (.func g) a b) ⟨f⟩ = f (g, a, b) := by
  apply propext; constructor
  · rintro ⟨_, _, _, h, hk⟩; cases h; exact hk
  · intro h; exact ⟨g, a, b, rfl, h⟩
theorem brI_true {X Z : Prop} : @brI true ⟨X⟩ () ⟨Z⟩ = X := by simp [brI]
theorem brI_false {X Z : Prop} : @brI false ⟨X⟩ () ⟨Z⟩ = Z := by simp [brI]
theorem brI_dec {p : Prop} [Decidable p] {X Z : Prop} : @brI (decide p) ⟨X⟩ () ⟨Z⟩ = ((p → X) ∧ (¬ p → Z)) := by simp [brI]
theorem brI_any {b : Bool} {X Z : Prop} : @brI b ⟨X⟩ () ⟨Z⟩ = ((b = true → X) ∧ (b = false → Z)) := (rfl)
theorem brI_not {b : Bool} {X Z : Prop} : @brI (!b) ⟨X⟩ () ⟨Z⟩ = @brI b ⟨Z⟩ () ⟨X⟩ := by cases b <;> simp [brI]

section
variable {P : Program} {G : Gl} {fl : Nat} {flo : Oper → Hp → Nat} {ops os : List Oper} {τ : Tm} {A : Hp} {d : Option Tmp} {t : TypeId} {ps : String} {af : Array Edge} {g : Option (Nat × Bool)}

theorem r_skip {K} : acode P G fl .skip τ A K = K .normal τ A := (rfl)
theorem r_exit {id K} : acode P G fl (.exit id) τ A K = K (.exit id) τ A := (rfl)
theorem r_ret {K} : acode P G fl .ret τ A K = K .ret τ A := (rfl)
theorem r_region {id : Nat} {l : List Oper} {K} : acode P G fl (.region id l.toArray false) τ A K = aops P G (fun _ _ => fl) l l τ A (K .normal) := (rfl)
theorem r_regionD {id : Nat} {l : List Oper} {K} : acode P G fl (.region id l.toArray true) τ A K = aops P G (floOf P fl l.toArray true) l l τ A (K .normal) := (rfl)
/-- What follows a piece of code. -/
def thenK (P : Program) (G : Gl) (fl : Nat) (b : Code) (K : Exit → Tm → Hp → Prop) : Exit → Tm → Hp → Prop := fun e τ A => match e with | .normal => acode P G fl b τ A K | e => K e τ A
def blockK (id : Nat) (K : Exit → Tm → Hp → Prop) : Exit → Tm → Hp → Prop := fun e τ A => match e with | .exit i => if i = id then K .normal τ A else K (.exit i) τ A | e => K e τ A
theorem r_seq {a b K} : acode P G fl (.seq a b) τ A K = acode P G fl a τ A (thenK P G fl b K) := (rfl)
theorem r_block {id c K} : acode P G fl (.block id c) τ A K = acode P G fl c τ A (blockK id K) := (rfl)
theorem k_then {b K} : thenK P G fl b K .normal τ A = acode P G fl b τ A K := (rfl)
theorem k_then_ret {b K} : thenK P G fl b K .ret τ A = K .ret τ A := (rfl)
theorem k_then_exit {b K i} : thenK P G fl b K (.exit i) τ A = K (.exit i) τ A := (rfl)
theorem k_block {id K} : blockK id K .normal τ A = K .normal τ A := (rfl)
theorem k_block_ret {id K} : blockK id K .ret τ A = K .ret τ A := (rfl)
theorem k_block_here {id K} : blockK id K (.exit id) τ A = K .normal τ A := by simp [blockK]
theorem k_block_exit {id i K} (h : (i == id) = false) : blockK id K (.exit i) τ A = K (.exit i) τ A := by
  have : ¬ i = id := by simpa using h
  simp [blockK, this]
theorem k_done {K} : done K .normal τ A = K τ A := (rfl)
theorem k_done_ret {K} : done K .ret τ A = K τ A := (rfl)
theorem r_cond {c x y K} : acode P G fl (.cond c x y) τ A K = @bO _ (ev τ c) ⟨fun v => @bB v ⟨fun b => @brI b ⟨acode P G fl x (setb τ c true) A K⟩ () ⟨acode P G fl y (setb τ c false) A K⟩⟩⟩ := by
  apply propext; constructor
  · rintro ⟨b, h1, h2⟩; exact ⟨_, h1, b, rfl, h2⟩
  · rintro ⟨_, h1, b, rfl, h2⟩; exact ⟨b, h1, h2⟩

theorem r_nil {K} : aops P G flo ops [] τ A K = K τ A := (rfl)
theorem r_op {op K} : aops P G flo ops (⟨d, op, t, ps, af, none⟩ :: os) τ A K = aop P G (flo ⟨d, op, t, ps, af, none⟩ A) ⟨d, op, t, ps, af, none⟩ τ A fun v A' => aops P G flo ops os (updO τ d v) A' K := (rfl)
/-- A guarded operation, by what its guard yields. -/
def agd (u : Value) (w : Bool) [X : Pt] (m : Unit) [Y : Pt] (n : Unit) [Z : Pt] : Prop := (∃ b, u = .bool b ∧ (b = w → X.p) ∧ (b = !w → Y.p)) ∨ (u = undef ∧ Z.p)
theorem agd_yes {b : Bool} {X Y Z : Prop} : @agd (.bool b) true ⟨X⟩ () ⟨Y⟩ () ⟨Z⟩ = @brI b ⟨X⟩ () ⟨Y⟩ := by
  apply propext; constructor
  · rintro (⟨_, h, hk⟩ | ⟨h, _⟩)
    · cases h; exact hk
    · cases h
  · intro h; exact .inl ⟨b, rfl, h⟩
theorem agd_no {b : Bool} {X Y Z : Prop} : @agd (.bool b) false ⟨X⟩ () ⟨Y⟩ () ⟨Z⟩ = @brI b ⟨Y⟩ () ⟨X⟩ := by
  apply propext; constructor
  · rintro (⟨_, h, hk⟩ | ⟨h, _⟩)
    · cases h; exact ⟨hk.2, hk.1⟩
    · cases h
  · intro h; exact .inl ⟨b, rfl, h.2, h.1⟩
theorem agd_undef {w : Bool} {X Y Z : Prop} : @agd undef w ⟨X⟩ () ⟨Y⟩ () ⟨Z⟩ = Z := by
  apply propext; constructor
  · rintro (⟨_, h, hk⟩ | ⟨_, h⟩)
    · cases h
    · exact h
  · intro h; exact .inr ⟨rfl, h⟩
theorem r_guard {op j w K} : aops P G flo ops (⟨d, op, t, ps, af, some (j, w)⟩ :: os) τ A K = @bO _ ((ops[j]?).bind (·.dst)) ⟨fun x => @bO _ (τ x) ⟨fun u =>
    @agd u w ⟨aop P G (flo ⟨d, op, t, ps, af, some (j, w)⟩ A) ⟨d, op, t, ps, af, some (j, w)⟩ (upd τ x (.bool w)) A fun v A' => aops P G flo ops os (updO (upd τ x (.bool w)) d v) A' K⟩
      () ⟨aops P G flo ops os (updO (upd τ x (.bool (!w))) d undef) A K⟩ () ⟨aops P G flo ops os (updO τ d undef) A K⟩⟩⟩ := by
  apply propext
  simp only [aops, bO, agd]
  constructor
  · rintro ⟨x, h1, (⟨b, h2, h3⟩ | ⟨h2, h3⟩)⟩
    · exact ⟨x, h1, _, h2, .inl ⟨b, rfl, h3⟩⟩
    · exact ⟨x, h1, _, h2, .inr ⟨rfl, h3⟩⟩
  · rintro ⟨x, h1, u, h2, (⟨b, rfl, h3⟩ | ⟨rfl, h3⟩)⟩
    · exact ⟨x, h1, .inl ⟨b, h2, h3⟩⟩
    · exact ⟨x, h1, .inr ⟨h2, h3⟩⟩

/-- A call, met. -/
def aCall (P : Program) (G : Gl) (f : FuncId) (args : List Value) (fl : Nat) (A : Hp) [K : Kt (Value × Hp)] : Prop := acall P G f args fl A fun v A' => K.run (v, A')
/-- Arithmetic, met. -/
def aBin (P : Program) (op : BinOp) (e : TypeId) (a b : Value) [K : Kt Value] : Prop := abin P op e a b K.run
/-- A value read at a type. -/
def readT (G : Gl) (A : Hp) (T : Ty) (p : Addr) [K : Kt Value] : Prop := (T.agg = true ∧ rdn G A p 0 T.size [] fun vs => K.run (.agg vs.toArray)) ∨ (T.agg = false ∧ @bO _ (A.get G p) K)
def rdT (G : Gl) (A : Hp) (p : Addr) (i n : Nat) (acc : List Value) [K : Kt (List Value)] : Prop := rdn G A p i n acc K.run
/-- A part of an aggregate. -/
def partT (T : Ty) (cs : Array Value) (off : Nat) [K : Kt Value] : Prop := (T.agg = true ∧ K.run (.agg (cs.extract off (off + T.size)))) ∨ (T.agg = false ∧ @bO _ (cs[off]?) K)
/-- Several operands' values. -/
def eVs (τ : Tm) (xs : List Operand) (acc : List Value) [K : Kt (List Value)] : Prop := evs τ xs acc K.run
def eVp (τ : Tm) (xs : List (Nat × Operand)) (acc : List (Nat × Value)) [K : Kt (List (Nat × Value))] : Prop := evp τ xs acc K.run
def aRes (G : Gl) (P : Program) (τ : Tm) (A : Hp) (rs : List ResultVar) (acc : List Value) [K : Kt (List Value)] : Prop := ares G P τ A rs acc K.run
/-- A side condition, then what follows. -/
def side (p : Prop) [K : Pt] : Prop := p ∧ K.p
theorem side_true {X : Prop} : @side True ⟨X⟩ = X := by simp [side]
theorem side_of {p : Prop} [K : Pt] (h : p) (k : K.p) : side p := ⟨h, k⟩

section
variable {K : Value → Hp → Prop}
theorem r_move {x} : aop P G fl ⟨d, .move x, t, ps, af, g⟩ τ A K = @bO _ (ev τ x) ⟨fun v => K v A⟩ := (rfl)
theorem r_assign {x} : aop P G fl ⟨d, .assign x, t, ps, af, g⟩ τ A K = @bO _ (ev τ x) ⟨fun v => K v A⟩ := (rfl)
theorem r_pick {c x y} : aop P G fl ⟨d, .pick c x y, t, ps, af, g⟩ τ A K = @bO _ (ev τ c) ⟨fun v => @bB v ⟨fun b => @brI b ⟨@bO _ (ev τ x) ⟨fun v => K v A⟩⟩ () ⟨@bO _ (ev τ y) ⟨fun v => K v A⟩⟩⟩⟩ := by
  apply propext; constructor
  · rintro ⟨b, h1, h2, h3⟩; exact ⟨_, h1, b, rfl, h2, h3⟩
  · rintro ⟨_, h1, b, rfl, h2, h3⟩; exact ⟨b, h1, h2, h3⟩
theorem r_alloc {e} : aop P G fl ⟨d, .alloc e, t, ps, af, g⟩ τ A K = @bO _ (tyOf P e) ⟨fun T => @side (T.zero.all zc = true) ⟨K (.pointer (some ⟨A.next, 0, some 0⟩)) (A.push (.row T.zero 0 T.esz))⟩⟩ := (rfl)
theorem r_box {e x} : aop P G fl ⟨d, .box e x, t, ps, af, g⟩ τ A K = @bO _ (tyOf P e) ⟨fun T => @bO _ (ev τ x) ⟨fun v => K (.pointer (some ⟨A.next, 0, some 0⟩)) (A.push (.row v.cells.toList 0 T.esz))⟩⟩ := (rfl)
def nilC (v : Value) [K : Kt Value] : Prop := (∃ p, v = .pointer (some p) ∧ K.run (.pointer (some p))) ∨ (∃ f a b, v = .func (.func f) a b ∧ K.run (.func (.func f) a b))
theorem nilC_ptr {p : Addr} {f : Value → Prop} : @nilC (.pointer (some p)) ⟨f⟩ = f (.pointer (some p)) := by
  apply propext; constructor
  · rintro (⟨_, h, hk⟩ | ⟨_, _, _, h, _⟩)
    · cases h; exact hk
    · cases h
  · intro h; exact .inl ⟨p, rfl, h⟩
theorem nilC_func {i : FuncId} {a b : Array Value} {f : Value → Prop} : @nilC (.func (.func i) a b) ⟨f⟩ = f (.func (.func i) a b) := by
  apply propext; constructor
  · rintro (⟨_, h, hk⟩ | ⟨_, _, _, h, hk⟩)
    · cases h
    · cases h; exact hk
  · intro h; exact .inr ⟨i, a, b, rfl, h⟩
theorem r_nilCheck {x} : aop P G fl ⟨d, .nilCheck x, t, ps, af, g⟩ τ A K = @bO _ (ev τ x) ⟨fun v => @nilC v ⟨fun v => K v A⟩⟩ := by
  apply propext; constructor
  · rintro (⟨p, h1, h2⟩ | ⟨f, a, b, h1, h2⟩)
    · exact ⟨_, h1, .inl ⟨p, rfl, h2⟩⟩
    · exact ⟨_, h1, .inr ⟨f, a, b, rfl, h2⟩⟩
  · rintro ⟨_, h1, (⟨p, rfl, h2⟩ | ⟨f, a, b, rfl, h2⟩)⟩
    · exact .inl ⟨p, h1, h2⟩
    · exact .inr ⟨f, a, b, h1, h2⟩
theorem r_bin {op e x y u} : aop P G fl ⟨d, .binOp op e x y u, t, ps, af, g⟩ τ A K = @bO _ (ev τ x) ⟨fun a => @bO _ (ev τ y) ⟨fun b => @aBin P op e a b ⟨fun v => K v A⟩⟩⟩ := (rfl)
theorem r_not {e x} : aop P G fl ⟨d, .unOp .not e x, t, ps, af, g⟩ τ A K = @bO _ (ev τ x) ⟨fun v => @bB v ⟨fun b => K (.bool (!b)) A⟩⟩ := by
  apply propext; constructor
  · rintro ⟨b, h1, h2⟩; exact ⟨_, h1, b, rfl, h2⟩
  · rintro ⟨_, h1, b, rfl, h2⟩; exact ⟨b, h1, h2⟩
theorem r_neg {e x} : aop P G fl ⟨d, .unOp .neg e x, t, ps, af, g⟩ τ A K = @bO _ (ev τ x) ⟨fun v => @bI v ⟨fun kn => K (.int kn.1 (kn.1.wrap (0 - kn.2))) A⟩⟩ := by
  apply propext; constructor
  · rintro ⟨k, n, h1, h2⟩; exact ⟨_, h1, k, n, rfl, h2⟩
  · rintro ⟨_, h1, k, n, rfl, h2⟩; exact ⟨k, n, h1, h2⟩
theorem r_extract {x i} : aop P G fl ⟨d, .extract x i, t, ps, af, g⟩ τ A K = @bO _ (ev τ x) ⟨fun v => @bT v ⟨fun vs => @bO _ (vs[i]?) ⟨fun v => K v A⟩⟩⟩ := by
  apply propext; constructor
  · rintro ⟨vs, h1, v, h2, h3⟩; exact ⟨_, h1, vs, rfl, v, h2, h3⟩
  · rintro ⟨_, h1, vs, rfl, v, h2, h3⟩; exact ⟨vs, h1, v, h2, h3⟩
theorem r_load {e x} : aop P G fl ⟨d, .load e x, t, ps, af, g⟩ τ A K = @bO _ (ev τ x) ⟨fun v => @bP v ⟨fun p => @bO _ (tyOf P e) ⟨fun T => @readT G A T p ⟨fun v => K v A⟩⟩⟩⟩ := by
  apply propext; constructor
  · rintro ⟨p, h1, T, h2, h3⟩; exact ⟨_, h1, p, rfl, T, h2, h3⟩
  · rintro ⟨_, h1, p, rfl, T, h2, h3⟩; exact ⟨p, h1, T, h2, h3⟩
theorem readT_agg {D : TD} {sz by_ es : Nat} {z : List Value} {p : Addr} {f : Value → Prop} : @readT G A ⟨D, sz, by_, z, true, es⟩ p ⟨f⟩ = @rdT G A p 0 sz [] ⟨fun vs => f (.agg vs.toArray)⟩ := by simp [readT, rdT]
theorem readT_one {D : TD} {sz by_ es : Nat} {z : List Value} {p : Addr} {f : Value → Prop} : @readT G A ⟨D, sz, by_, z, false, es⟩ p ⟨f⟩ = @bO _ (A.get G p) ⟨f⟩ := by simp [readT]
theorem r_rdn0 {p i acc} {f : List Value → Prop} : @rdT G A p i 0 acc ⟨f⟩ = f acc := (rfl)
theorem r_rdn {p i n acc} {f : List Value → Prop} : @rdT G A p i (n + 1) acc ⟨f⟩ = @bO _ (A.get G (aadd p i)) ⟨fun v => @rdT G A p (i + 1) n (acc ++ [v]) ⟨f⟩⟩ := (rfl)
/-- A store into a block. -/
def stB (fl : Nat) (A : Hp) (p : Addr) (v : Value) (g : Nat) (b : Blk) [K : Kt Hp] : Prop := ∃ cs e, b = .row cs g e ∧ fl ≤ p.block ∧ p.off + v.cells.size ≤ cs.length ∧ K.run (A.put p.block (.row (wr cs p.off v.cells.toList) g e))
theorem stB_row {p : Addr} {v : Value} {g e : Nat} {cs : List Value} {f : Hp → Prop} : @stB fl A p v g (.row cs g e) ⟨f⟩ = @side (fl ≤ p.block) ⟨@side (p.off + v.cells.size ≤ cs.length) ⟨f (A.put p.block (.row (wr cs p.off v.cells.toList) g e))⟩⟩ := by
  apply propext; constructor
  · rintro ⟨_, _, h, h1, h2, h3⟩; cases h; exact ⟨h1, h2, h3⟩
  · rintro ⟨h1, h2, h3⟩; exact ⟨_, _, rfl, h1, h2, h3⟩
theorem r_store {e x y} : aop P G fl ⟨d, .store e x y, t, ps, af, g⟩ τ A K = @bO _ (ev τ x) ⟨fun v => @bP v ⟨fun p => @bO _ (ev τ y) ⟨fun v => @bO _ (tyOf P e) ⟨fun T => @side (v.cells.size = T.size) ⟨@side (ones v = true)
    ⟨@bO _ p.spot ⟨fun g => @bO _ (A.blk p.block) ⟨fun b => @stB fl A p v g b ⟨fun A' => K undef A'⟩⟩⟩⟩⟩⟩⟩⟩⟩ := by
  apply propext; constructor
  · rintro ⟨p, h1, v, h2, T, h3, h4, h5, g, cs, e, h6, h7, h8⟩; exact ⟨_, h1, p, rfl, v, h2, T, h3, h4, h5, g, h6, _, h7, cs, e, rfl, h8⟩
  · rintro ⟨_, h1, p, rfl, v, h2, T, h3, h4, h5, g, h6, _, h7, cs, e, rfl, h8⟩; exact ⟨p, h1, v, h2, T, h3, h4, h5, g, cs, e, h6, h7, h8⟩
theorem r_fieldAddr {s x i} : aop P G fl ⟨d, .fieldAddr s x i, t, ps, af, g⟩ τ A K = @bO _ (ev τ x) ⟨fun v => @bP v ⟨fun p => @bO _ (tyOf P s) ⟨fun S => @bO _ ((placesOf S.d)[i]?) ⟨fun f => @side (f.2.1 ≠ 0) ⟨K (.pointer (some (aadd p f.1))) A⟩⟩⟩⟩⟩ := by
  apply propext; constructor
  · rintro ⟨p, h1, h2⟩; exact ⟨_, h1, p, rfl, h2⟩
  · rintro ⟨_, h1, p, rfl, h2⟩; exact ⟨p, h1, h2⟩
theorem partT_agg {D : TD} {sz by_ es : Nat} {z : List Value} {cs : Array Value} {off : Nat} {f : Value → Prop} : @partT ⟨D, sz, by_, z, true, es⟩ cs off ⟨f⟩ = f (.agg (cs.extract off (off + sz))) := by simp [partT]
theorem partT_one {D : TD} {sz by_ es : Nat} {z : List Value} {cs : Array Value} {off : Nat} {f : Value → Prop} : @partT ⟨D, sz, by_, z, false, es⟩ cs off ⟨f⟩ = @bO _ (cs[off]?) ⟨f⟩ := by simp [partT]
theorem r_field {s x i} : aop P G fl ⟨d, .field s x i, t, ps, af, g⟩ τ A K = @bO _ (ev τ x) ⟨fun v => @bA v ⟨fun cs => @bO _ (tyOf P s) ⟨fun S => @bO _ ((placesOf S.d)[i]?) ⟨fun f => @bO _ (tyOf P f.2.2) ⟨fun T => @partT T cs f.1 ⟨fun v => K v A⟩⟩⟩⟩⟩⟩ := by
  apply propext; constructor
  · rintro ⟨cs, h1, h2⟩; exact ⟨_, h1, cs, rfl, h2⟩
  · rintro ⟨_, h1, cs, rfl, h2⟩; exact ⟨cs, h1, h2⟩
theorem r_makeFunc {f first captured} : aop P G fl ⟨d, .makeFunc (.func f) first captured, t, ps, af, g⟩ τ A K = @eVs τ first.toList [] ⟨fun xs => @eVs τ captured.toList [] ⟨fun ys => K (.func (.func f) xs.toArray ys.toArray) A⟩⟩ := by
  apply propext; constructor
  · rintro ⟨f', h1, h2⟩; exact h2
  · intro h; exact ⟨f, rfl, h⟩
theorem r_call {f} {args : Array Operand} {tys} : aop P G fl ⟨d, .call ⟨.value f, args, tys⟩, t, ps, af, g⟩ τ A K = @bO _ (ev τ f) ⟨fun v => @bF v ⟨fun q => @eVs τ args.toList [] ⟨fun xs => @aCall P G q.1 (q.2.1.toList ++ xs ++ q.2.2.toList) fl A ⟨fun r => K r.1 r.2⟩⟩⟩⟩ := by
  apply propext; constructor
  · rintro ⟨a, b, c, h1, h2⟩; exact ⟨_, h1, a, b, c, rfl, h2⟩
  · rintro ⟨_, h1, a, b, c, rfl, h2⟩; exact ⟨a, b, c, h1, h2⟩
theorem r_evs0 {acc} {f : List Value → Prop} : @eVs τ [] acc ⟨f⟩ = f acc := (rfl)
theorem r_evs {x xs acc} {f : List Value → Prop} : @eVs τ (x :: xs) acc ⟨f⟩ = @bO _ (ev τ x) ⟨fun v => @eVs τ xs (acc ++ [v]) ⟨f⟩⟩ := (rfl)
theorem r_evp0 {acc} {f : List (Nat × Value) → Prop} : @eVp τ [] acc ⟨f⟩ = f acc := (rfl)
theorem r_evp {i x xs acc} {f : List (Nat × Value) → Prop} : @eVp τ ((i, x) :: xs) acc ⟨f⟩ = @bO _ (ev τ x) ⟨fun v => @eVp τ xs (acc ++ [(i, v)]) ⟨f⟩⟩ := (rfl)
/-- The result of a body. -/
theorem r_ares {rs} {f : List Value → Prop} : ares G P τ A rs [] f = @aRes G P τ A rs [] ⟨f⟩ := (rfl)
theorem r_res0 {acc} {f : List Value → Prop} : @aRes G P τ A [] acc ⟨f⟩ = f acc := (rfl)
theorem r_res {x rs acc} {f : List Value → Prop} : @aRes G P τ A (.tmp x :: rs) acc ⟨f⟩ = @bO _ (τ x) ⟨fun v => @aRes G P τ A rs (acc ++ [v]) ⟨f⟩⟩ := (rfl)
theorem r_resc {x e rs acc} {f : List Value → Prop} : @aRes G P τ A (.cell x e :: rs) acc ⟨f⟩ = @bO _ (τ x) ⟨fun v => @bP v ⟨fun p => @bO _ (tyOf P e) ⟨fun T => @readT G A T p ⟨fun v => @aRes G P τ A rs (acc ++ [v]) ⟨f⟩⟩⟩⟩⟩ := by
  apply propext; constructor
  · rintro ⟨p, h1, T, h2, h3⟩; exact ⟨_, h1, p, rfl, T, h2, h3⟩
  · rintro ⟨_, h1, p, rfl, T, h2, h3⟩; exact ⟨p, h1, T, h2, h3⟩
end

section
variable {f : Value → Prop} {k : IntKind} {x y : Int} {e : TypeId}
theorem two_int {F : IntKind → Int → Int → Prop} : (∃ k' x' y', Value.int k x = .int k' x' ∧ Value.int k y = .int k' y' ∧ F k' x' y') = F k x y := by
  apply propext; constructor
  · rintro ⟨_, _, _, h1, h2, h3⟩; cases h1; cases h2; exact h3
  · intro h; exact ⟨_, _, _, rfl, rfl, h⟩
theorem two_int2 {k2 : IntKind} {F : IntKind → IntKind → Int → Int → Prop} : (∃ k' k'' x' y', Value.int k x = .int k' x' ∧ Value.int k2 y = .int k'' y' ∧ F k' k'' x' y') = F k k2 x y := by
  apply propext; constructor
  · rintro ⟨_, _, _, _, h1, h2, h3⟩; cases h1; cases h2; exact h3
  · intro h; exact ⟨_, _, _, _, rfl, rfl, h⟩
theorem b_add : @aBin P .add e (.int k x) (.int k y) ⟨f⟩ = f (.int k (k.wrap (x + y))) := by
  apply propext; constructor
  · rintro (⟨_, _, _, h1, h2, h3⟩ | ⟨_, _, h1, _⟩)
    · cases h1; cases h2; exact h3
    · cases h1
  · intro h; exact .inl ⟨_, _, _, rfl, rfl, h⟩
theorem b_cat {s u : ByteArray} : @aBin P .add e (.string s) (.string u) ⟨f⟩ = @side (s.size + u.size ≤ 9223372036854775807) ⟨f (.string (s ++ u))⟩ := by
  apply propext; constructor
  · rintro (⟨_, _, _, h1, h2, h3⟩ | ⟨_, _, h1, h2, h3⟩)
    · cases h1
    · cases h1; cases h2; exact h3
  · intro h; exact .inr ⟨_, _, rfl, rfl, h⟩
theorem b_sub : @aBin P .sub e (.int k x) (.int k y) ⟨f⟩ = f (.int k (k.wrap (x - y))) := two_int (F := _)
theorem b_mul : @aBin P .mul e (.int k x) (.int k y) ⟨f⟩ = f (.int k (k.wrap (x * y))) := two_int (F := _)
theorem b_quo : @aBin P .quo e (.int k x) (.int k y) ⟨f⟩ = @side (y ≠ 0) ⟨f (.int k (k.wrap (x.tdiv y)))⟩ := two_int (F := _)
theorem b_rem : @aBin P .rem e (.int k x) (.int k y) ⟨f⟩ = @side (y ≠ 0) ⟨f (.int k (x.tmod y))⟩ := two_int (F := _)
theorem b_or : @aBin P .or e (.int k x) (.int k y) ⟨f⟩ = f (.int k (k.wrap (BitVec.ofInt k.bits x ||| BitVec.ofInt k.bits y).toNat)) := two_int (F := _)
theorem b_and : @aBin P .and e (.int k x) (.int k y) ⟨f⟩ = f (.int k (k.wrap (BitVec.ofInt k.bits x &&& BitVec.ofInt k.bits y).toNat)) := two_int (F := _)
theorem b_shl {k' : IntKind} : @aBin P .shl e (.int k x) (.int k' y) ⟨f⟩ = @side (0 ≤ y) ⟨f (.int k (k.wrap (x * 2 ^ min y.toNat k.bits)))⟩ := two_int2 (F := _)
theorem b_shr {k' : IntKind} : @aBin P .shr e (.int k x) (.int k' y) ⟨f⟩ = @side (0 ≤ y) ⟨f (.int k (x.fdiv (2 ^ min y.toNat k.bits)))⟩ := two_int2 (F := _)
theorem b_lss : @aBin P .lss e (.int k x) (.int k y) ⟨f⟩ = f (.bool (decide (x < y))) := two_int (F := _)
theorem b_leq : @aBin P .leq e (.int k x) (.int k y) ⟨f⟩ = f (.bool (decide (x ≤ y))) := two_int (F := _)
theorem b_gtr : @aBin P .gtr e (.int k x) (.int k y) ⟨f⟩ = f (.bool (decide (y < x))) := two_int (F := _)
theorem b_geq : @aBin P .geq e (.int k x) (.int k y) ⟨f⟩ = f (.bool (decide (y ≤ x))) := two_int (F := _)
theorem aeq_no {t : TypeId} {a b : Value} {K : Bool → Prop} (h1 : ∀ xs, a ≠ .agg xs) (h2 : ∀ o n c, a ≠ .slice o n c) (h3 : ∀ o, a ≠ .pointer o) : ¬ aeq P t a b K := by
  rintro (⟨_, _, _, h, _⟩ | ⟨_, _, _, _, _, _, h, _⟩ | ⟨_, _, h, _⟩)
  · exact h1 _ h
  · exact h2 _ _ _ h
  · exact h3 _ h
theorem b_eql : @aBin P .eql e (.int k x) (.int k y) ⟨f⟩ = f (.bool (decide (x = y))) := by
  apply propext; constructor
  · rintro (⟨_, _, _, h1, h2, h3⟩ | ⟨_, _, h1, _⟩ | ⟨_, _, h1, _⟩ | h)
    · cases h1; cases h2; exact h3
    · cases h1
    · cases h1
    · exact absurd h (aeq_no (by simp) (by simp) (by simp))
  · intro h; exact .inl ⟨_, _, _, rfl, rfl, h⟩
theorem b_neq : @aBin P .neq e (.int k x) (.int k y) ⟨f⟩ = f (.bool (!decide (x = y))) := by
  have hd : decide (x ≠ y) = !decide (x = y) := by by_cases h : x = y <;> simp [h]
  rw [← hd]
  apply propext; constructor
  · rintro (⟨_, _, _, h1, h2, h3⟩ | ⟨_, _, h1, _⟩ | ⟨_, _, h1, _⟩ | h)
    · cases h1; cases h2; exact h3
    · cases h1
    · cases h1
    · exact absurd h (aeq_no (by simp) (by simp) (by simp))
  · intro h; exact .inl ⟨_, _, _, rfl, rfl, h⟩
theorem b_eqs {s u : ByteArray} : @aBin P .eql e (.string s) (.string u) ⟨f⟩ = f (.bool (decide (s = u))) := by
  apply propext; constructor
  · rintro (⟨_, _, _, h1, _⟩ | ⟨_, _, h1, h2, h3⟩ | ⟨_, _, h1, _⟩ | h)
    · cases h1
    · cases h1; cases h2; exact h3
    · cases h1
    · exact absurd h (aeq_no (by simp) (by simp) (by simp))
  · intro h; exact .inr (.inl ⟨_, _, rfl, rfl, h⟩)
theorem b_nes {s u : ByteArray} : @aBin P .neq e (.string s) (.string u) ⟨f⟩ = f (.bool (!decide (s = u))) := by
  have hd : decide (s ≠ u) = !decide (s = u) := by by_cases h : s = u <;> simp [h]
  rw [← hd]
  apply propext; constructor
  · rintro (⟨_, _, _, h1, _⟩ | ⟨_, _, h1, h2, h3⟩ | ⟨_, _, h1, _⟩ | h)
    · cases h1
    · cases h1; cases h2; exact h3
    · cases h1
    · exact absurd h (aeq_no (by simp) (by simp) (by simp))
  · intro h; exact .inr (.inl ⟨_, _, rfl, rfl, h⟩)
end

/-- The machine, as one rule: to be given to the rewriter from above (simp only [↓run, ..]). -/
theorem upd_here {τ : Tm} {u : Nat} {v : Value} : upd τ u v u = some v := by simp [upd]
theorem upd_there {τ : Tm} {u x : Nat} {v : Value} (h : (x == u) = false) : upd τ u v x = τ x := by
  have : ¬ x = u := by simpa using h
  simp [upd, this]
end
end Go.Proofs.YtpaffoiiipgkeaaDoor.Ab
