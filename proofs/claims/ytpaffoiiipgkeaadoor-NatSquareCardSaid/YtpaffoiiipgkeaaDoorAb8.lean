/- Each operation of the abstract machine is sound: slices, append, calls; and all of them in one theorem. -/
import Derived.Test.YtpaffoiiipgkeaaDoorAb7
namespace Go.Proofs.YtpaffoiiipgkeaaDoor.Ab
open Go.RowKit
set_option linter.unusedVariables false
set_option linter.unusedSimpArgs false

section
variable {P : Program} {G : Gl} {fl : Nat} {τ : Tm} {A : Hp} {o : Oper}

/-- A bound of a slice expression, in the abstract and in the world. -/
def LoOf (x : Option Value) (l : Nat) : Prop := (x = none ∧ l = 0) ∨ ∃ k, x = some (.int k (l : Int))
def HiOf (x : Option Value) (h : Option Nat) : Prop := (x = none ∧ h = none) ∨ ∃ (k : IntKind) (m : Nat), x = some (.int k (m : Int)) ∧ h = some m

theorem alo_spec {lo : Option Operand} {K : Nat → Prop} (h : alo τ lo K) : ∃ l, K l ∧ ∀ (μ : Mu) (A : Hp) (ρ : Operand → Value), (∀ x ∈ lo.toArray, ∀ u, ev τ x = some u → VR μ A u (ρ x)) → LoOf (lo.map ρ) l := by
  cases lo with
  | none => exact ⟨0, h, fun _ _ _ _ => .inl ⟨rfl, rfl⟩⟩
  | some i =>
    obtain ⟨k, x, hx, h0, hK⟩ := h
    refine ⟨_, hK, fun μ A ρ hop => .inr ⟨k, ?_⟩⟩
    have := (hop i (by simp) _ hx).int_inv
    rw [Option.map_some, this, Int.toNat_of_nonneg h0]

theorem ahi_spec {hi : Option Operand} {K : Option Nat → Prop} (h : ahi τ hi K) : ∃ l, K l ∧ ∀ (μ : Mu) (A : Hp) (ρ : Operand → Value), (∀ x ∈ hi.toArray, ∀ u, ev τ x = some u → VR μ A u (ρ x)) → HiOf (hi.map ρ) l := by
  cases hi with
  | none => exact ⟨none, h, fun _ _ _ _ => .inl ⟨rfl, rfl⟩⟩
  | some i =>
    obtain ⟨k, x, hx, h0, hK⟩ := h
    refine ⟨_, hK, fun μ A ρ hop => .inr ⟨k, x.toNat, ?_, rfl⟩⟩
    have := (hop i (by simp) _ hx).int_inv
    rw [Option.map_some, this, Int.toNat_of_nonneg h0]

theorem run_bounds {isS : Bool} {len cap l : Nat} {h : Option Nat} {lo hi : Option Value} (hl : LoOf lo l) (hh : HiOf hi h) (h1 : l ≤ h.getD len) (h2 : h.getD len ≤ cap) (w : World) :
    (Instr.sliceBounds isS len cap lo hi none).run P w = .ok (l, h.getD len, cap) w := by
  have b0 : ∀ (k : IntKind) (x y : Nat) (c : BoundsCode) (w : World), x ≤ y → (Instr.sliceBound (.int k (x : Int)) y c).run P w = .ok x w := fun k x y c w hxy => by
    have : (0 : Int) ≤ (x : Int) ∧ (x : Int) ≤ (y : Int) := by omega
    simp [Instr.sliceBound, asIntOf, this]
  rcases hl with ⟨rfl, rfl⟩ | ⟨k, rfl⟩ <;> rcases hh with ⟨rfl, rfl⟩ | ⟨k', m, rfl, rfl⟩ <;> simp only [Option.getD_none, Option.getD_some] at h1 h2 ⊢
  · simp [Instr.sliceBounds]
  · simp [Instr.sliceBounds, b0 _ _ _ _ _ h2]
  · simp [Instr.sliceBounds, b0 _ _ _ _ _ h1]
  · simp [Instr.sliceBounds, b0 _ _ _ _ _ h1, b0 _ _ _ _ _ h2]

theorem ok_slice {t : TypeId} {x : Operand} {lo hi : Option Operand} (ho : o.op = .slice t x lo hi none) {v : Value} (hx : ev τ x = some v) {l : Nat} {h : Option Nat}
    (hl : ∀ (μ : Mu) (A : Hp) (ρ : Operand → Value), (∀ x ∈ lo.toArray, ∀ u, ev τ x = some u → VR μ A u (ρ x)) → LoOf (lo.map ρ) l)
    (hh : ∀ (μ : Mu) (A : Hp) (ρ : Operand → Value), (∀ x ∈ hi.toArray, ∀ u, ev τ x = some u → VR μ A u (ρ x)) → HiOf (hi.map ρ) h)
    {K : Value → Prop} (hs : aslice P A t v l h K) : ∃ r, K r ∧ OpOK P G o fl τ A r A := by
  have opl : ∀ {μ : Mu} {ac : Act}, (∀ x ∈ o.op.operands, ∀ u, ev τ x = some u → VR μ A u (ac.eval x)) → LoOf (lo.map ac.eval) l := fun {μ ac} hop =>
    hl μ A ac.eval fun y hy => hop y (by rw [ho]; simp only [Op.operands, Array.mem_append]; exact .inl (.inl (.inr hy)))
  have oph : ∀ {μ : Mu} {ac : Act}, (∀ x ∈ o.op.operands, ∀ u, ev τ x = some u → VR μ A u (ac.eval x)) → HiOf (hi.map ac.eval) h := fun {μ ac} hop =>
    hh μ A ac.eval fun y hy => hop y (by rw [ho]; simp only [Op.operands, Array.mem_append]; exact .inl (.inr hy))
  have opx : ∀ {μ : Mu} {ac : Act}, (∀ x ∈ o.op.operands, ∀ u, ev τ x = some u → VR μ A u (ac.eval x)) → VR μ A v (ac.eval x) := fun hop => hop x (by simp [ho, Op.operands]) v hx
  rcases hs with ⟨s, rfl, hT, h1, h2, hK⟩ | ⟨n, c, rfl, ⟨e, T, hT, hE⟩, rfl, h1, rfl, rfl, hK⟩ | ⟨a, n, c, e, T, rfl, hT, hE, h1, h2, he, hK⟩ | ⟨a, n, e, T, g, cs, e', rfl, hT, hE, h1, h2, hsp, hb, rfl, hlen, hK⟩
  · refine ⟨_, hK, .same fun μ w ac H hop => ⟨.string (s.extract l (h.getD s.size)), ?_, .string _⟩⟩
    cases hTy : tyOf P t with
    | none => simp [hTy] at hT
    | some T =>
      obtain ⟨i, d, z, hi', hu, _, rfl⟩ := tyOf_inv hTy
      simp only [hTy, Option.map_some, Option.some.injEq] at hT
      have := td_str hT; subst this
      have hb := run_bounds (P := P) (isS := false) (opl hop) (oph hop) h1 h2 w
      simp [execOp, ho, (opx hop).string_inv, Instr.sliceAt, run_underlying hu, Instr.slice, hb]
  · refine ⟨_, hK, .same fun μ w ac H hop => ⟨.slice none 0 0, ?_, .sl0 _ _⟩⟩
    cases hTy : tyOf P t with
    | none => simp [hTy] at hT
    | some T' =>
      obtain ⟨i, d, z, hi', hu, _, rfl⟩ := tyOf_inv hTy
      obtain ⟨ie, de, ze, hie, hue, _, rfl⟩ := tyOf_inv hE
      simp only [hTy, Option.map_some, Option.some.injEq] at hT
      have := td_sl hT; subst this
      have hb := run_bounds (P := P) (isS := true) (opl hop) (oph hop) (by omega) (show h.getD 0 ≤ 0 by omega) w
      simp [execOp, ho, (opx hop).sl0_inv, Instr.sliceAt, run_underlying hu, Instr.slice, hb, run_sizeOf' hie, h1]
  · refine ⟨_, hK, .same fun μ w ac H hop => ?_⟩
    cases hTy : tyOf P t with
    | none => simp [hTy] at hT
    | some T' =>
      obtain ⟨i, d, z, hi', hu, _, rfl⟩ := tyOf_inv hTy
      obtain ⟨ie, de, ze, hie, hue, _, rfl⟩ := tyOf_inv hE
      simp only [hTy, Option.map_some, Option.some.injEq] at hT
      have := td_sl hT; subst this
      simp only at he
      have hv := opx hop
      cases hxe : ac.eval x with
      | slice a' n' c' =>
        rw [hxe] at hv
        cases hv with
        | @sl _ a' _ _ _ hlt hcc hn hl' =>
          have hle : h.getD n ≤ c' := by omega
          have hb := run_bounds (P := P) (isS := true) (opl hop) (oph hop) h1 hle w
          refine ⟨.slice (some (if c' = l then a' else a'.add (l * ie.size))) (h.getD n - l) (c' - l), ?_, .sl hlt (by omega) (by omega) ?_⟩
          · simp [execOp, ho, hxe, Instr.sliceAt, run_underlying hu, Instr.slice, hb, run_sizeOf' hie]
            split <;> rfl
          · obtain ⟨g', hg', hl'⟩ := hl'
            refine ⟨g', hg', fun cs g e2 hbk => ⟨(hl' cs g e2 hbk).1, fun hgg => ?_⟩⟩
            obtain ⟨b, ob, S, hm, hplace⟩ := (hl' cs g e2 hbk).2 hgg
            refine ⟨b, ob, S, hm, fun hne => ?_⟩
            obtain ⟨rfl, hS⟩ := hplace (by omega)
            have hes := he cs g e2 hbk
            subst hes
            rw [if_neg (by omega)]
            refine ⟨?_, ?_⟩
            · unfold Addr.add aadd
              split
              · rename_i h0; simp [h0]
              · simp [Nat.add_assoc]
            · simp only [aadd]
              have : c' * ie.size = l * ie.size + (c' - l) * ie.size := by rw [← Nat.add_mul]; congr 1; omega
              omega
      | _ => rw [hxe] at hv; cases hv
  · refine ⟨_, hK, .same fun μ w ac H hop => ?_⟩
    cases hTy : tyOf P t with
    | none => simp [hTy] at hT
    | some T' =>
      obtain ⟨i, d, z, hi', hu, _, rfl⟩ := tyOf_inv hTy
      obtain ⟨ie, de, ze, hie, hue, _, rfl⟩ := tyOf_inv hE
      simp only [hTy, Option.map_some, Option.some.injEq] at hT
      have := td_arr hT; subst this
      simp only at hlen hb
      obtain ⟨p', hp', har⟩ := (opx hop).ptr_inv
      obtain ⟨b, ob, S, hm, rfl⟩ := har.live hsp hb
      obtain ⟨c, tt, fr, hw, hS, hle, _⟩ := H.row _ _ _ _ _ _ _ hb hm
      have hbd := run_bounds (P := P) (isS := false) (opl hop) (oph hop) h1 h2 w
      refine ⟨.slice (some (if n = l then ⟨b, ob + a.off, none⟩ else (⟨b, ob + a.off, none⟩ : Addr).add (l * ie.size))) (h.getD n - l) (n - l), ?_, .sl ?_ (Nat.le_refl _) (by omega) ?_⟩
      · simp [execOp, ho, hp', Instr.sliceAt, run_underlying hu, Instr.sureAddr, hbd, run_sizeOf' hie]
      · rcases Nat.lt_or_ge a.block A.next with hh | hh
        · exact hh
        · rw [H.wf _ hh] at hb; cases hb
      · refine ⟨g, hsp, fun cs2 g2 e2 hb2 => ?_⟩
        simp only [aadd] at hb2
        rw [hb] at hb2; cases hb2
        refine ⟨Nat.le_refl _, fun _ => ⟨b, ob, S, hm, fun hne => ⟨?_, ?_⟩⟩⟩
        · rw [if_neg (by omega)]
          unfold Addr.add aadd
          split
          · rename_i h0; simp [h0]
          · simp [Nat.add_assoc]
        · simp only [aadd]
          have : n * ie.size = l * ie.size + (n - l) * ie.size := by rw [← Nat.add_mul]; congr 1; omega
          omega

/-! calls -/
theorem ok_call {c : Call} {f : Operand} (ho : o.op = .call c) (hc : c.callee = .value f) {fid : FuncId} {first captured : Array Value} (hf : ev τ f = some (.func (.func fid) first captured)) {xs : List Value}
    (hxs : ∀ (μ : Mu) (A : Hp) (ρ : Operand → Value), (∀ x ∈ c.args.toList, ∀ u, ev τ x = some u → VR μ A u (ρ x)) → VRa μ A xs.toArray (c.args.toList.map ρ).toArray)
    {v : Value} {A' : Hp} (hs : Sound P G fid (first.toList ++ xs ++ captured.toList) fl A v A') : OpOK P G o fl τ A v A' := by
  intro μ w a next Q H hfl hop hk
  have hfv := hop f (by simp [ho, Op.operands, Call.operands, hc]) _ hf
  have hargs := hxs μ A a.eval fun x hx => hop x (by simp [ho, Op.operands, Call.operands, hc]; exact .inr (by simpa using hx))
  cases hfe : a.eval f with
  | func fn fs cs =>
    rw [hfe] at hfv
    obtain ⟨rfl, h1, h2, h3, h4⟩ : fn = .func fid ∧ first.size = fs.size ∧ (∀ (i : Nat) (h : i < first.size) (h' : i < fs.size), VR μ A first[i] fs[i]) ∧ captured.size = cs.size ∧ ∀ (i : Nat) (h : i < captured.size) (h' : i < cs.size), VR μ A captured[i] cs[i] := by
      cases hfv; exact ⟨rfl, ‹_›, ‹_›, ‹_›, ‹_›⟩
    have hall : VRa μ A (first.toList ++ xs ++ captured.toList).toArray (fs ++ c.args.map a.eval ++ cs) := by
      have hsz := hargs.1
      simp only [List.size_toArray, List.length_map, Array.length_toList] at hsz
      refine VRa.of_get (by simp [h1, h3, hsz]) fun i u hi => ?_
      simp only [List.getElem?_toArray] at hi
      by_cases hi1 : i < first.size
      · rw [List.append_assoc, List.getElem?_append_left (by simpa using hi1)] at hi
        rw [Array.append_assoc, Array.getElem?_append_left (by omega)]
        obtain ⟨u', h5, h6⟩ := VRa.get ⟨h1, h2⟩ (i := i) (u := u) (by simpa using hi)
        exact ⟨u', h5, h6⟩
      · rw [List.append_assoc, List.getElem?_append_right (by simpa using hi1)] at hi
        rw [Array.append_assoc, Array.getElem?_append_right (by omega)]
        simp only [Array.length_toList] at hi
        rw [← h1]
        by_cases hi2 : i - first.size < xs.length
        · rw [List.getElem?_append_left hi2] at hi
          rw [Array.getElem?_append_left (by simp; omega)]
          obtain ⟨u', h5, h6⟩ := hargs.get (i := i - first.size) (u := u) (by simpa using hi)
          refine ⟨u', ?_, h6⟩
          simpa using h5
        · rw [List.getElem?_append_right (by omega)] at hi
          rw [Array.getElem?_append_right (by simp; omega)]
          obtain ⟨u', h5, h6⟩ := VRa.get ⟨h3, h4⟩ (i := i - first.size - xs.length) (u := u) (by simpa using hi)
          refine ⟨u', ?_, h6⟩
          simp only [Array.size_map, ← hsz]
          exact h5
    have hrun : ∀ w', (execOp a.eval o).run P w' = (callFunc fid (fs ++ c.args.map a.eval ++ cs)).run P w' := by
      intro w'
      simp [execOp, ho, resolve, hc, hfe, Deferred.ofValue, invoke]
    rcases hs μ w _ H hfl hall with ⟨⟨fn, hfn, hname, hbody⟩, hcalls⟩ | ⟨v', w', hr, μ', r1, r2, r3⟩
    · have hrun2 : (callFunc fid (fs ++ c.args.map a.eval ++ cs)).run P w = .ok (.enter fid (fs ++ c.args.map a.eval ++ cs)) w := by
        have hname' : fn.name ≠ "runtime.NumGoroutine" := by simpa using hname
        obtain ⟨cd, hcd⟩ : ∃ cd, fn.body = some cd := by
          cases hb : fn.body with
          | none => simp [hb] at hbody
          | some cd => exact ⟨cd, rfl⟩
        simp [callFunc, hfn, hname', hcd]
      unfold Oper.wp
      rw [hrun, hrun2]
      refine Calls.mono hcalls fun e w'' he => ?_
      obtain ⟨v', rfl, μ', r1, r2, r3⟩ := he
      exact hk v' w'' μ' r1 r2 r3
    · exact Oper.wp_value (by rw [hrun, hr]) (hk v' w' μ' r1 r2 r3)
  | _ => rw [hfe] at hfv; cases hfv

/-! builtins -/
theorem run_builtin {c : Call} {b : Builtin} (ho : o.op = .call c) (hc : c.callee = .builtin b) (a : Act) (w : World) :
    ∃ consts, (execOp a.eval o).run P w = (Go.builtin b c.argTypes o.type consts (c.args.map a.eval)).run P w := by
  simp only [execOp, ho, resolve, hc, Sem.run_bind, Sem.run_pure, Result.andThen_ok, invoke]
  exact ⟨_, rfl⟩

theorem ok_len {c : Call} (ho : o.op = .call c) (hc : c.callee = .builtin .len) {t : TypeId} {T : Ty} (ht : c.argTypes[0]? = some t) (hT : tyOf P t = some T) {xs : List Value}
    (hxs : ∀ (μ : Mu) (A : Hp) (ρ : Operand → Value), (∀ x ∈ c.args.toList, ∀ u, ev τ x = some u → VR μ A u (ρ x)) → VRa μ A xs.toArray (c.args.toList.map ρ).toArray) {v : Value} (hv : xs[0]? = some v) {K : Value → Hp → Prop}
    (h : (∃ s, T.d = .str ∧ v = .string s ∧ K (.int .i64 s.size) A) ∨ (∃ e, ∃ a : Option Addr, ∃ n cp : Nat, T.d = .sl e ∧ v = .slice a n cp ∧ K (.int .i64 (n : Int)) A) ∨ (∃ n : Nat, ∃ e, T.d = .arr n e ∧ K (.int .i64 (n : Int)) A)) :
    ∃ r, K r A ∧ OpOK P G o fl τ A r A := by
  obtain ⟨i, d, z, hi, hu, _, rfl⟩ := tyOf_inv hT
  have arg : ∀ {μ : Mu} {ac : Act}, (∀ x ∈ o.op.operands, ∀ u, ev τ x = some u → VR μ A u (ac.eval x)) → ∃ v', (c.args.map ac.eval)[0]? = some v' ∧ VR μ A v v' := fun {μ ac} hop => by
    obtain ⟨v', h1, h2⟩ := (hxs μ A ac.eval fun x hx => hop x (by simp [ho, Op.operands, Call.operands, hc]; simpa using hx)).get (i := 0) (u := v) (by simpa using hv)
    exact ⟨v', by simpa using h1, h2⟩
  rcases h with ⟨s, hd, rfl, hK⟩ | ⟨e, ad, n, cp, hd, rfl, hK⟩ | ⟨n, e, hd, hK⟩
  · have := td_str hd; subst this
    refine ⟨_, hK, .same fun μ w ac H hop => ⟨_, ?_, .int _ _⟩⟩
    obtain ⟨v', h1, h2⟩ := arg hop
    obtain ⟨cst, hrb⟩ := run_builtin (P := P) ho hc ac w
    rw [hrb]
    simp only [h2.string_inv] at h1
    simp only [Go.builtin, Builtin.len_, ht, h1]
    simp [run_underlying hu, goInt]
  · have := td_sl hd; subst this
    refine ⟨_, hK, .same fun μ w ac H hop => ⟨_, ?_, .int _ _⟩⟩
    obtain ⟨v', h1, h2⟩ := arg hop
    obtain ⟨cst, hrb⟩ := run_builtin (P := P) ho hc ac w
    rw [hrb]
    obtain ⟨a', c', rfl⟩ : ∃ a' c', v' = .slice a' n c' := by cases h2 <;> exact ⟨_, _, rfl⟩
    simp only [Go.builtin, Builtin.len_, ht, h1]
    simp [run_underlying hu, goInt]
  · have := td_arr hd; subst this
    refine ⟨_, hK, .same fun μ w ac H hop => ⟨_, ?_, .int _ _⟩⟩
    obtain ⟨v', h1, h2⟩ := arg hop
    obtain ⟨cst, hrb⟩ := run_builtin (P := P) ho hc ac w
    rw [hrb]
    simp only [Go.builtin, Builtin.len_, ht, h1]
    simp [run_underlying hu, goInt]

theorem ok_minmax {c : Call} (mx : Bool) (ho : o.op = .call c) (hc : c.callee = .builtin (if mx then .max else .min)) {k : IntKind} {x y : Int}
    (hxs : ∀ (μ : Mu) (A : Hp) (ρ : Operand → Value), (∀ x ∈ c.args.toList, ∀ u, ev τ x = some u → VR μ A u (ρ x)) → VRa μ A [Value.int k x, .int k y].toArray (c.args.toList.map ρ).toArray) :
    OpOK P G o fl τ A (.int k (if mx then (if y > x then y else x) else (if y < x then y else x))) A :=
  .same fun μ w ac H hop => by
    have hr := hxs μ A ac.eval fun x hx => hop x (by simp [ho, Op.operands, Call.operands, hc]; cases mx <;> simp at hc <;> simp_all)
    refine ⟨_, ?_, .int _ _⟩
    obtain ⟨cst, hrb⟩ := run_builtin (P := P) ho hc ac w
    rw [hrb]
    have hsz := hr.1
    simp only [List.size_toArray, List.length_cons, List.length_nil, List.length_map, Array.length_toList] at hsz
    obtain ⟨u0, a0, b0⟩ := hr.get (i := 0) (u := .int k x) rfl
    obtain ⟨u1, a1, b1⟩ := hr.get (i := 1) (u := .int k y) rfl
    have hm : List.map ac.eval c.args.toList = [.int k x, .int k y] := by
      have e0 := b0.int_inv; have e1 := b1.int_inv
      subst e0; subst e1
      apply List.ext_getElem?
      intro j
      simp only [List.getElem?_toArray] at a0 a1
      match j with
      | 0 => simpa using a0
      | 1 => simpa using a1
      | j + 2 => rw [List.getElem?_eq_none (by simp; omega), List.getElem?_eq_none (by simp)]
    cases mx
    · simp [Go.builtin, Builtin.min_, hm, Builtin.min2]
    · simp [Go.builtin, Builtin.max_, hm, Builtin.max2]

end
end Go.Proofs.YtpaffoiiipgkeaaDoor.Ab
