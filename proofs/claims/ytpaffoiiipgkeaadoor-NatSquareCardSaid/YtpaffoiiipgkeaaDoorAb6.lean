/- Each operation of the abstract machine is sound: arithmetic and comparisons, composite values, conversions, slices. -/
import Derived.Test.YtpaffoiiipgkeaaDoorAb5
namespace Go.Proofs.YtpaffoiiipgkeaaDoor.Ab
open Go.RowKit
theorem Int.beq_eq_decide (a b : Int) : (a == b) = decide (a = b) := rfl
set_option linter.unusedVariables false
set_option linter.unusedSimpArgs false

section
variable {P : Program} {G : Gl} {fl : Nat} {τ : Tm} {A : Hp} {o : Oper}

theorem toList_beq (x y : ByteArray) : (x.toList == y.toList) = decide (x = y) := by
  have h : x.toList = x.data.toList := ByteArray.toList_eq x
  have h2 : y.toList = y.data.toList := ByteArray.toList_eq y
  rw [h, h2]
  by_cases hxy : x = y
  · subst hxy; simp
  · have : x.data.toList ≠ y.data.toList := fun e => hxy (by cases x; cases y; simp at e; subst e; rfl)
    rw [beq_eq_false_iff_ne.2 this]; simp [hxy]

/-- An operation on two scalars, whose run is known. -/
theorem ok_bin {op : BinOp} {t yt : TypeId} {x y : Operand} (ho : o.op = .binOp op t x y yt) {u v r : Value} (hx : ev τ x = some u) (hy : ev τ y = some v)
    (hu : ∀ (μ : Mu) (A : Hp) (u' : Value), VR μ A u u' → u' = u) (hv : ∀ (μ : Mu) (A : Hp) (v' : Value), VR μ A v v' → v' = v) (hr : ∀ (μ : Mu) (A : Hp), VR μ A r r)
    (run : ∀ w : World, (do eqGuard op t x y u v; binOp op t u v : Sem Value).run P w = .ok r w) : OpOK P G o fl τ A r A :=
  .same fun μ w a H hop => by
    have h1 := hu _ _ _ (hop x (by simp [ho, Op.operands]) _ hx)
    have h2 := hv _ _ _ (hop y (by simp [ho, Op.operands]) _ hy)
    refine ⟨r, ?_, hr μ A⟩
    have := run w
    simp only [execOp, ho, h1, h2, Sem.run_bind] at this ⊢
    rw [this]
    rfl

theorem guard_int (op : BinOp) (t : TypeId) (x y : Operand) (k k' : IntKind) (a b : Int) (w : World) : (eqGuard op t x y (.int k a) (.int k' b)).run P w = .ok () w := by cases op <;> rfl
theorem guard_str (op : BinOp) (t : TypeId) (x y : Operand) (a b : ByteArray) (w : World) : (eqGuard op t x y (.string a) (.string b)).run P w = .ok () w := by cases op <;> rfl
theorem guard_bool (op : BinOp) (t : TypeId) (x y : Operand) (a b : Bool) (w : World) : (eqGuard op t x y (.bool a) (.bool b)).run P w = .ok () w := by cases op <;> rfl

theorem eqFs_run {d k : Nat} (ih : ∀ (t : TypeId) (x y : Value) (b : Bool), eqD P d t x y = some b → ∀ (μ : Mu) (A : Hp) (x' y' : Value), VR μ A x x' → VR μ A y y' → ∀ w : World, (Op.equalIn (d + k) t x' y').run P w = .ok b w)
    {xs ys xs' ys' : Array Value} {μ : Mu} {A : Hp} (hx : VRa μ A xs xs') (hy : VRa μ A ys ys') (w : World) : ∀ (fs : List Field) (b : Bool), eqFs P (eqD P d) xs ys fs = some b → (Op.eqFields (d + k) xs' ys' fs).run P w = .ok b w
  | [], b, h => by simp only [eqFs, Option.some.injEq] at h; subst h; simp [Op.eqFields]
  | f :: fs, b, h => by
    rw [eqFs] at h
    by_cases hn : f.name = "_"
    · rw [if_pos hn] at h
      rw [Op.eqFields, if_neg (by simpa using hn)]
      exact eqFs_run ih hx hy w fs b h
    · rw [if_neg hn] at h
      have part : ∀ {zs zs' : Array Value} (hz : VRa μ A zs zs') {a : Value}, partV P f.type zs f.offset = some a → ∃ a', (part f.type zs' f.offset).run P w = .ok a' w ∧ VR μ A a a' := by
        intro zs zs' hz a ha
        simp only [partV, Option.bind_eq_some_iff] at ha
        obtain ⟨T, hT, ha⟩ := ha
        refine ok_part hT hz f.offset ?_ w
        split at ha
        · rename_i hag; cases ha; exact .inl ⟨hag, rfl⟩
        · rename_i hag; exact .inr ⟨by simpa using hag, ha⟩
      simp only [Option.bind_eq_some_iff, Option.map_eq_some_iff] at h
      obtain ⟨a, ha, c, hc, r, hr, s, hs, rfl⟩ := h
      obtain ⟨a', ra, va⟩ := part hx ha
      obtain ⟨c', rc, vc⟩ := part hy hc
      have he := ih f.type a c r hr μ A a' c' va vc w
      rw [Op.eqFields, if_pos hn]
      simp only [Sem.run_bind, ra, rc, he, Result.andThen_ok]
      cases r
      · simp
      · simpa using eqFs_run ih hx hy w fs s hs
theorem eqD_run (k : Nat) : ∀ (d : Nat) (t : TypeId) (x y : Value) (b : Bool), eqD P d t x y = some b → ∀ (μ : Mu) (A : Hp) (x' y' : Value), VR μ A x x' → VR μ A y y' → ∀ w : World, (Op.equalIn (d + k) t x' y').run P w = .ok b w
  | 0, t, x, y, b, h => by simp [eqD] at h
  | d + 1, t, x, y, b, h => by
    intro μ A x' y' hx hy w
    unfold eqD at h
    rw [show d + 1 + k = (d + k) + 1 by omega]
    split at h
    · rename_i ht
      cases hx.bool_inv; cases hy.bool_inv; cases h
      simp [Op.equalIn, run_underlying ht]
    · rename_i ht
      cases hx.int_inv; cases hy.int_inv
      split at h
      · rename_i hk; cases h; simp [Op.equalIn, run_underlying ht, hk]
      · cases h
    · rename_i ht
      cases hx.string_inv; cases hy.string_inv; cases h
      simp only [Op.equalIn, Sem.run_bind, run_underlying ht, Result.andThen_ok, beq_toListBytes, toList_beq]
      rfl
    · rename_i fs xs ys ht
      split at h
      · cases h
      · rename_i hsd
        obtain ⟨xs', rfl, hxa⟩ := hx.agg_inv
        obtain ⟨ys', rfl, hya⟩ := hy.agg_inv
        have hf : P.fieldsOf t = fs := by simp [Program.fieldsOf, ht]
        rw [run_equalIn_struct (P := P) w (d + k) t xs' ys' (by rw [hf]; exact ht) (by simpa using hsd), hf]
        exact eqFs_run (eqD_run k d) hxa hya w fs.toList b h
    · cases h

theorem eqIn_slice {t e : TypeId} (hd : P.underlying t = some (.slice e)) (d : Nat) (o : Option Addr) (m k n c : Nat) (w : World) : (Op.equalIn (d + 1) t (.slice o m k) (.slice none n c)).run P w = .ok o.isNone w := by
  cases o <;> simp [Op.equalIn, run_underlying hd]
theorem eqIn_ptr {t e : TypeId} (hd : P.underlying t = some (.pointer e)) (d : Nat) (o : Option Addr) (w : World) : (Op.equalIn (d + 1) t (.pointer o) (.pointer none)).run P w = .ok o.isNone w := by
  cases o <;> simp [Op.equalIn, run_underlying hd]

/-- Equality of aggregates, and with nil, as it runs. -/
theorem aeq_run {t : TypeId} {x y : Operand} {a b : Value} {K : Bool → Prop} (h : aeq P t a b K) : ∃ r, K r ∧ ∀ (μ : Mu) (A : Hp) (a' b' : Value), VR μ A a a' → VR μ A b b' → ∀ w : World,
    (do eqGuard .eql t x y a' b'; binOp .eql t a' b' : Sem Value).run P w = .ok (.bool r) w ∧ (do eqGuard .neq t x y a' b'; binOp .neq t a' b' : Sem Value).run P w = .ok (.bool (!r)) w := by
  rcases h with ⟨xs, ys, r, rfl, rfl, hg, he, hk⟩ | ⟨o, n, c, n', c', e, rfl, rfl, ht, hk⟩ | ⟨o, e, rfl, rfl, ht, hk⟩
  · refine ⟨r, hk, fun μ A a' b' ha hb w => ?_⟩
    have hrun := eqD_run (P := P) 9980 20 t _ _ r he μ A a' b' ha hb w
    obtain ⟨xs', rfl, -⟩ := ha.agg_inv
    obtain ⟨ys', rfl, -⟩ := hb.agg_inv
    have hrun' : (Op.equal t (.agg xs') (.agg ys')).run P w = .ok r w := hrun
    refine ⟨?_, ?_⟩ <;> simp [eqGuard, hg, binOp, hrun']
  · cases hT : tyOf P t with
    | none => simp [hT] at ht
    | some T =>
      obtain ⟨i, d, z, hi, hd, hz', rfl⟩ := tyOf_inv hT
      simp only [hT, Option.map_some, Option.some.injEq] at ht
      have := td_sl ht; subst this
      refine ⟨_, hk, fun μ A a' b' ha hb w => ?_⟩
      have hb' : b' = .slice none n' c' := by cases hb; rfl
      subst hb'
      have ha' : ∃ o' m' k', a' = .slice o' m' k' ∧ o'.isNone = o.isNone := by cases ha <;> exact ⟨_, _, _, rfl, rfl⟩
      obtain ⟨o', m', k', rfl, ho⟩ := ha'
      have hrun : (Op.equal t (.slice o' m' k') (.slice none n' c')).run P w = .ok o.isNone w := by
        rw [← ho]
        exact eqIn_slice hd 9999 o' m' k' n' c' w
      refine ⟨?_, ?_⟩ <;> simp [eqGuard, binOp, hrun]
  · cases hT : tyOf P t with
    | none => simp [hT] at ht
    | some T =>
      obtain ⟨i, d, z, hi, hd, hz', rfl⟩ := tyOf_inv hT
      simp only [hT, Option.map_some, Option.some.injEq] at ht
      have := td_ptr ht; subst this
      refine ⟨_, hk, fun μ A a' b' ha hb w => ?_⟩
      have hb' : b' = .pointer none := by cases hb; rfl
      subst hb'
      have ha' : ∃ o', a' = .pointer o' ∧ o'.isNone = o.isNone := by cases ha <;> exact ⟨_, rfl, rfl⟩
      obtain ⟨o', rfl, ho⟩ := ha'
      have hrun : (Op.equal t (.pointer o') (.pointer none)).run P w = .ok o.isNone w := by
        rw [← ho]
        exact eqIn_ptr hd 9999 o' w
      refine ⟨?_, ?_⟩ <;> simp [eqGuard, binOp, hrun]

theorem ok_abin {op : BinOp} {t yt : TypeId} {x y : Operand} (ho : o.op = .binOp op t x y yt) {u v : Value} (hx : ev τ x = some u) (hy : ev τ y = some v) {K : Value → Prop} (h : abin P op t u v K) :
    ∃ r, K r ∧ ∀ (fl : Nat) (A : Hp), OpOK P G o fl τ A r A := by
  have I : ∀ (k : IntKind) (n : Int) (μ : Mu) (A : Hp) (u' : Value), VR μ A (.int k n) u' → u' = .int k n := fun _ _ _ _ _ h => h.int_inv
  have S : ∀ (s : ByteArray) (μ : Mu) (A : Hp) (u' : Value), VR μ A (.string s) u' → u' = .string s := fun _ _ _ _ h => h.string_inv
  have B : ∀ (s : Bool) (μ : Mu) (A : Hp) (u' : Value), VR μ A (.bool s) u' → u' = .bool s := fun _ _ _ _ h => h.bool_inv
  cases op <;> simp only [abin] at h
  case add =>
    rcases h with ⟨k, a, b, rfl, rfl, hk⟩ | ⟨a, b, rfl, rfl, hs, hk⟩
    · exact ⟨_, hk, fun fl A => ok_bin ho hx hy (I _ _) (I _ _) (fun _ _ => .int _ _) fun w => by simp [guard_int, binOp, Op.intArith]⟩
    · refine ⟨_, hk, fun fl A => ok_bin ho hx hy (S _) (S _) (fun _ _ => .string _) fun w => ?_⟩
      have hm : IntKind.i64.max = 9223372036854775807 := rfl
      have : ¬ (9223372036854775807 < ((a.size : Int) + (b.size : Int))) := by omega
      simp [guard_str, binOp, Op.stringOp, hm, this]
  case sub => obtain ⟨k, a, b, rfl, rfl, hk⟩ := h; exact ⟨_, hk, fun fl A => ok_bin ho hx hy (I _ _) (I _ _) (fun _ _ => .int _ _) fun w => by simp [guard_int, binOp, Op.intArith]⟩
  case mul => obtain ⟨k, a, b, rfl, rfl, hk⟩ := h; exact ⟨_, hk, fun fl A => ok_bin ho hx hy (I _ _) (I _ _) (fun _ _ => .int _ _) fun w => by simp [guard_int, binOp, Op.intArith]⟩
  case quo => obtain ⟨k, a, b, rfl, rfl, hb, hk⟩ := h; exact ⟨_, hk, fun fl A => ok_bin ho hx hy (I _ _) (I _ _) (fun _ _ => .int _ _) fun w => by simp [guard_int, binOp, Op.intDiv, hb]⟩
  case rem => obtain ⟨k, a, b, rfl, rfl, hb, hk⟩ := h; exact ⟨_, hk, fun fl A => ok_bin ho hx hy (I _ _) (I _ _) (fun _ _ => .int _ _) fun w => by simp [guard_int, binOp, Op.intDiv, hb]⟩
  case and => obtain ⟨k, a, b, rfl, rfl, hk⟩ := h; exact ⟨_, hk, fun fl A => ok_bin ho hx hy (I _ _) (I _ _) (fun _ _ => .int _ _) fun w => by simp [guard_int, binOp, Op.intBits]⟩
  case or => obtain ⟨k, a, b, rfl, rfl, hk⟩ := h; exact ⟨_, hk, fun fl A => ok_bin ho hx hy (I _ _) (I _ _) (fun _ _ => .int _ _) fun w => by simp [guard_int, binOp, Op.intBits]⟩
  case xor => obtain ⟨k, a, b, rfl, rfl, hk⟩ := h; exact ⟨_, hk, fun fl A => ok_bin ho hx hy (I _ _) (I _ _) (fun _ _ => .int _ _) fun w => by simp [guard_int, binOp, Op.intBits]⟩
  case andNot => obtain ⟨k, a, b, rfl, rfl, hk⟩ := h; exact ⟨_, hk, fun fl A => ok_bin ho hx hy (I _ _) (I _ _) (fun _ _ => .int _ _) fun w => by simp [guard_int, binOp, Op.intBits]⟩
  case shl =>
    obtain ⟨k, k', a, b, rfl, rfl, hb, hk⟩ := h
    have hb' : ¬ b < 0 := by omega
    exact ⟨_, hk, fun fl A => ok_bin ho hx hy (I _ _) (I _ _) (fun _ _ => .int _ _) fun w => by simp [guard_int, binOp, Op.shift, hb']⟩
  case shr =>
    obtain ⟨k, k', a, b, rfl, rfl, hb, hk⟩ := h
    have hb' : ¬ b < 0 := by omega
    exact ⟨_, hk, fun fl A => ok_bin ho hx hy (I _ _) (I _ _) (fun _ _ => .int _ _) fun w => by simp [guard_int, binOp, Op.shift, hb']⟩
  case lss => obtain ⟨k, a, b, rfl, rfl, hk⟩ := h; exact ⟨_, hk, fun fl A => ok_bin ho hx hy (I _ _) (I _ _) (fun _ _ => .bool _) fun w => by simp [guard_int, binOp, Op.intCmp]⟩
  case leq => obtain ⟨k, a, b, rfl, rfl, hk⟩ := h; exact ⟨_, hk, fun fl A => ok_bin ho hx hy (I _ _) (I _ _) (fun _ _ => .bool _) fun w => by simp [guard_int, binOp, Op.intCmp]⟩
  case gtr => obtain ⟨k, a, b, rfl, rfl, hk⟩ := h; exact ⟨_, hk, fun fl A => ok_bin ho hx hy (I _ _) (I _ _) (fun _ _ => .bool _) fun w => by simp [guard_int, binOp, Op.intCmp]⟩
  case geq => obtain ⟨k, a, b, rfl, rfl, hk⟩ := h; exact ⟨_, hk, fun fl A => ok_bin ho hx hy (I _ _) (I _ _) (fun _ _ => .bool _) fun w => by simp [guard_int, binOp, Op.intCmp]⟩
  case eql =>
    rcases h with ⟨k, a, b, rfl, rfl, hk⟩ | ⟨a, b, rfl, rfl, hk⟩ | ⟨a, b, rfl, rfl, ht, hk⟩ | h
    · exact ⟨_, hk, fun fl A => ok_bin ho hx hy (I _ _) (I _ _) (fun _ _ => .bool _) fun w => by simp [guard_int, binOp, Op.intCmp, Int.beq_eq_decide]⟩
    · exact ⟨_, hk, fun fl A => ok_bin ho hx hy (S _) (S _) (fun _ _ => .bool _) fun w => by simp [guard_str, binOp, Op.stringOp, toList_beq]⟩
    · cases hT : tyOf P t with
      | none => simp [hT] at ht
      | some T =>
        obtain ⟨i, d, z, hi, hd, hz', rfl⟩ := tyOf_inv hT
        simp only [hT, Option.map_some, Option.some.injEq] at ht
        have := td_bool ht; subst this
        exact ⟨_, hk, fun fl A => ok_bin ho hx hy (B _) (B _) (fun _ _ => .bool _) fun w => by rw [Sem.run_bind, guard_bool, Result.andThen_ok, run_eql_bool w t a b hd]⟩
    · obtain ⟨r, hk, hr⟩ := aeq_run (x := x) (y := y) h
      refine ⟨_, hk, fun fl A => .same fun μ w a H hop => ⟨.bool r, ?_, .bool r⟩⟩
      have := (hr μ A _ _ (hop x (by simp [ho, Op.operands]) _ hx) (hop y (by simp [ho, Op.operands]) _ hy) w).1
      simp only [execOp, ho, Sem.run_bind] at this ⊢
      rw [this]
      rfl
  case neq =>
    rcases h with ⟨k, a, b, rfl, rfl, hk⟩ | ⟨a, b, rfl, rfl, hk⟩ | ⟨a, b, rfl, rfl, ht, hk⟩ | h
    · exact ⟨_, hk, fun fl A => ok_bin ho hx hy (I _ _) (I _ _) (fun _ _ => .bool _) fun w => by simp [guard_int, binOp, Op.intCmp, bne, Int.beq_eq_decide]⟩
    · exact ⟨_, hk, fun fl A => ok_bin ho hx hy (S _) (S _) (fun _ _ => .bool _) fun w => by simp [guard_str, binOp, Op.stringOp, toList_beq]⟩
    · cases hT : tyOf P t with
      | none => simp [hT] at ht
      | some T =>
        obtain ⟨i, d, z, hi, hd, hz', rfl⟩ := tyOf_inv hT
        simp only [hT, Option.map_some, Option.some.injEq] at ht
        have := td_bool ht; subst this
        exact ⟨_, hk, fun fl A => ok_bin ho hx hy (B _) (B _) (fun _ _ => .bool _) fun w => by rw [Sem.run_bind, guard_bool, Result.andThen_ok, run_neq_bool w t a b hd]⟩
    · obtain ⟨r, hk, hr⟩ := aeq_run (x := x) (y := y) h
      refine ⟨_, hk, fun fl A => .same fun μ w a H hop => ⟨.bool (!r), ?_, .bool (!r)⟩⟩
      have := (hr μ A _ _ (hop x (by simp [ho, Op.operands]) _ hx) (hop y (by simp [ho, Op.operands]) _ hy) w).2
      simp only [execOp, ho, Sem.run_bind] at this ⊢
      rw [this]
      rfl


/-! composite values -/
theorem fold_wr : ∀ (l : List Value) (k off : Nat) (cells : Array Value), (l.zipIdx k).foldl (fun (cs : Array Value) (x : Value × Nat) => cs.setIfInBounds (off + x.2) x.1) cells = (wr cells.toList (off + k) l).toArray
  | [], k, off, cells => by simp [wr]
  | v :: l, k, off, cells => by
    simp only [List.zipIdx_cons, List.foldl_cons, wr]
    rw [fold_wr l (k + 1) off]
    congr 1
    simp [Nat.add_assoc]

theorem fold_wr' (vs : Array Value) (off : Nat) (cells : Array Value) : vs.zipIdx.foldl (fun (cs : Array Value) (x : Value × Nat) => cs.setIfInBounds (off + x.2) x.1) cells = (wr cells.toList off vs.toList).toArray := by
  rw [← Array.foldl_toList, Array.toList_zipIdx]
  exact fold_wr vs.toList 0 off cells

theorem wr_rel {μ : Mu} {A : Hp} : ∀ (vs vs' cs cs' : List Value) (off : Nat), VRa μ A cs.toArray cs'.toArray → VRa μ A vs.toArray vs'.toArray → VRa μ A (wr cs off vs).toArray (wr cs' off vs').toArray
  | [], vs', cs, cs', off, h, hv => by
    have : vs' = [] := List.eq_nil_of_length_eq_zero (by have := hv.1; simp at this; omega)
    subst this
    exact h
  | v :: vs, vs', cs, cs', off, h, hv => by
    cases vs' with
    | nil => have := hv.1; simp at this
    | cons v' vs' =>
      have h0 : VR μ A v v' := by have := hv.2 0 (by simp) (by simp); simpa using this
      have hlen : cs.length = cs'.length := by have := h.1; simpa using this
      refine wr_rel vs vs' (cs.set off v) (cs'.set off v') (off + 1) ⟨by simp [hlen], fun i hi hi' => ?_⟩ ⟨by have := hv.1; simpa using this, fun i hi hi' => ?_⟩
      · simp only [List.getElem_toArray, List.getElem_set]
        split
        · exact h0
        · have := h.2 i (by simpa using hi) (by simpa using hi'); simpa using this
      · have := hv.2 (i + 1) (by simpa using hi) (by simpa using hi'); simpa using this

/-- Parts that agree, place by place. -/
def PR (μ : Mu) (A : Hp) : List (Nat × Value) → List (Nat × Value) → Prop
  | [], [] => True
  | (i, v) :: xs, (j, u) :: ys => i = j ∧ VR μ A v u ∧ PR μ A xs ys
  | _, _ => False

theorem fill_rel {μ : Mu} {A : Hp} (place : Nat → Option (Nat × Nat)) : ∀ (ps ps' : List (Nat × Value)) (cs : List Value) (cs' : Array Value) (rs : List Value), PR μ A ps ps' → VRa μ A cs.toArray cs' →
    buildL place cs ps = some rs → ∃ rs', Instr.fill place cs' ps' = some rs' ∧ VRa μ A rs.toArray rs'
  | [], ps', cs, cs', rs, hp, hc, h => by
    cases ps' with
    | nil => simp only [buildL, Option.some.injEq] at h; subst h; exact ⟨cs', rfl, hc⟩
    | cons x xs => exact hp.elim
  | (i, v) :: ps, ps', cs, cs', rs, hp, hc, h => by
    cases ps' with
    | nil => exact hp.elim
    | cons x xs =>
      obtain ⟨j, u⟩ := x
      obtain ⟨rfl, hvu, hrest⟩ := hp
      simp only [buildL] at h
      cases hpl : place i with
      | none => simp [hpl] at h
      | some pl =>
        obtain ⟨off, size⟩ := pl
        simp only [hpl] at h
        split at h
        · rename_i hcond
          obtain ⟨hs, hle⟩ := hcond
          obtain ⟨hc1, hc2⟩ := hvu.cells
          have hlen : cs.length = cs'.size := by have := hc.1; simpa using this
          have hrel : VRa μ A (wr cs off v.cells.toList).toArray (wr cs'.toList off u.cells.toList).toArray :=
            wr_rel _ _ _ _ _ (by simpa using hc) (by simpa using VRa.of_get hc1 hc2)
          obtain ⟨rs', h1, h2⟩ := fill_rel place ps xs _ _ rs hrest hrel h
          refine ⟨rs', ?_, h2⟩
          have e1 : ¬ (u.cells.size ≠ size) := by omega
          have e2 : ¬ (off + u.cells.size > cs'.size) := by omega
          simp only [Instr.fill, hpl]
          simp only [Bool.or_eq_true, decide_eq_true_eq, e1, e2, or_self, if_false, decide_false, Bool.or_false, Bool.false_eq_true]
          rw [fold_wr']
          exact h1
        · cases h

theorem evp_spec {τ : Tm} : ∀ (ps : List (Nat × Operand)) (acc : List (Nat × Value)) (K : List (Nat × Value) → Prop), evp τ ps acc K →
    ∃ pvs, K (acc ++ pvs) ∧ ∀ (μ : Mu) (A : Hp) (ρ : Operand → Value), (∀ x ∈ ps.map (·.2), ∀ u, ev τ x = some u → VR μ A u (ρ x)) → PR μ A pvs (ps.map fun p => (p.1, ρ p.2))
  | [], acc, K, h => ⟨[], by rw [List.append_nil]; exact h, fun _ _ _ _ => trivial⟩
  | (i, x) :: ps, acc, K, h => by
    obtain ⟨v, hv, h⟩ := h
    obtain ⟨pvs, hK, hr⟩ := evp_spec ps _ K h
    refine ⟨(i, v) :: pvs, by simpa using hK, fun μ A ρ hop => ⟨rfl, hop x (by simp) v hv, hr μ A ρ fun y hy u hu => hop y (by simp at hy ⊢; exact .inr hy) u hu⟩⟩

theorem evs_spec {τ : Tm} : ∀ (xs : List Operand) (acc : List Value) (K : List Value → Prop), evs τ xs acc K →
    ∃ vs, K (acc ++ vs) ∧ ∀ (μ : Mu) (A : Hp) (ρ : Operand → Value), (∀ x ∈ xs, ∀ u, ev τ x = some u → VR μ A u (ρ x)) → VRa μ A vs.toArray (xs.map ρ).toArray
  | [], acc, K, h => ⟨[], by rw [List.append_nil]; exact h, fun _ _ _ _ => ⟨rfl, fun i hi => by simp at hi⟩⟩
  | x :: xs, acc, K, h => by
    obtain ⟨v, hv, h⟩ := h
    obtain ⟨vs, hK, hr⟩ := evs_spec xs _ K h
    refine ⟨v :: vs, by simpa using hK, fun μ A ρ hop => ?_⟩
    have ih := hr μ A ρ fun y hy u hu => hop y (by simp [hy]) u hu
    refine ⟨by have := ih.1; simpa using this, fun i hi hi' => ?_⟩
    cases i with
    | zero => simpa using hop x (by simp) v hv
    | succ i => have := ih.2 i (by simpa using hi) (by simpa using hi'); simpa using this

theorem ok_build_st {t : TypeId} {ps : Array (Nat × Operand)} (ho : o.op = .build t ps) {T : Ty} (hT : tyOf P t = some T) (hz : ∀ (μ : Mu) (A : Hp), ∀ u ∈ T.zero, VR μ A u u) {fs : List (Nat × Nat × TypeId)} (hd : T.d = .st fs)
    {pvs : List (Nat × Value)}
    (hp : ∀ (μ : Mu) (A : Hp) (ρ : Operand → Value), (∀ x ∈ ps.toList.map (·.2), ∀ u, ev τ x = some u → VR μ A u (ρ x)) → PR μ A pvs (ps.toList.map fun p => (p.1, ρ p.2)))
    {cs : List Value} (hb : buildL (fun i => (fs[i]?).map fun f => (f.1, f.2.1)) T.zero pvs = some cs) : OpOK P G o fl τ A (.agg cs.toArray) A :=
  .same fun μ w a H hop => by
    obtain ⟨inf, d, z, hi, hund, hz', rfl⟩ := tyOf_inv hT
    obtain ⟨gs, rfl, hty, rfl⟩ := td_st hd
    have hpr := hp μ A a.eval fun x hx => hop x (by simpa [ho, Op.operands] using hx)
    have hzr : VRa μ A z.cells.toList.toArray z.cells := by
      refine ⟨by simp, fun i h1 h2 => ?_⟩
      exact hz μ A _ (List.getElem_mem (l := z.cells.toList) (by simpa using h1))
    obtain ⟨rs', h1, h2⟩ := fill_rel _ _ _ _ _ _ hpr hzr hb
    refine ⟨.agg rs', ?_, .agg h2.1 h2.2⟩
    have hplaces : ∀ (l : List Field), (∀ f ∈ l, (P.info? f.type).isSome = true) → (l.mapM (fun f => (do pure (f.offset, ← sizeOf f.type) : Sem (Nat × Nat)))).run P w = .ok (l.map fun f => (f.offset, sizeB P f.type)) w := by
      intro l hl
      induction l with
      | nil => simp
      | cons f l ih =>
        obtain ⟨j, hj⟩ := Option.isSome_iff_exists.1 (hl f (by simp))
        have := ih fun g hg => hl g (by simp [hg])
        simp only [List.mapM_cons, Sem.run_bind, run_sizeOf' hj, Result.andThen_ok, this, Sem.run_pure, List.map_cons, sizeB, hj, Option.map_some, Option.getD_some]
    have hpl := hplaces gs.toList hty
    have hmap : (gs.mapM (fun f => (do pure (f.offset, ← sizeOf f.type) : Sem (Nat × Nat)))).run P w = .ok ((gs.toList.map fun f => (f.offset, sizeB P f.type)).toArray) w := by
      rw [Array.mapM_eq_mapM_toList, Sem.run_map, hpl]; rfl
    have hfill : Instr.fill (fun i => ((gs.toList.map fun f => (f.offset, sizeB P f.type)).toArray)[i]?) z.cells (ps.map fun x => (x.1, a.eval x.2)).toList = some rs' := by
      rw [← h1, Array.toList_map]
      congr 1
      funext i
      simp only [List.getElem?_toArray, List.getElem?_map, Option.map_map]
      rfl
    simp only [execOp, ho, Instr.build, Sem.run_bind, run_zero' hi hz', Result.andThen_ok, run_underlying hund, hmap, hfill, Sem.run_pure]

theorem ok_build_arr {t : TypeId} {ps : Array (Nat × Operand)} (ho : o.op = .build t ps) {T : Ty} (hT : tyOf P t = some T) (hz : ∀ (μ : Mu) (A : Hp), ∀ u ∈ T.zero, VR μ A u u) {n : Nat} {e : TypeId} (hd : T.d = .arr n e)
    {E : Ty} (hE : tyOf P e = some E) {pvs : List (Nat × Value)}
    (hp : ∀ (μ : Mu) (A : Hp) (ρ : Operand → Value), (∀ x ∈ ps.toList.map (·.2), ∀ u, ev τ x = some u → VR μ A u (ρ x)) → PR μ A pvs (ps.toList.map fun p => (p.1, ρ p.2)))
    {cs : List Value} (hb : buildL (fun i => some (i * E.size, E.size)) T.zero pvs = some cs) : OpOK P G o fl τ A (.agg cs.toArray) A :=
  .same fun μ w a H hop => by
    obtain ⟨inf, d, z, hi, hund, hz', rfl⟩ := tyOf_inv hT
    obtain ⟨ie, de, ze, hie, hde, hze, rfl⟩ := tyOf_inv hE
    have hd' := td_arr hd; subst hd'
    have hpr := hp μ A a.eval fun x hx => hop x (by simpa [ho, Op.operands] using hx)
    have hzr : VRa μ A z.cells.toList.toArray z.cells := by
      refine ⟨by simp, fun i h1 h2 => ?_⟩
      exact hz μ A _ (List.getElem_mem (l := z.cells.toList) (by simpa using h1))
    obtain ⟨rs', h1, h2⟩ := fill_rel _ _ _ _ _ _ hpr hzr hb
    refine ⟨.agg rs', ?_, .agg h2.1 h2.2⟩
    have hfill : Instr.fill (fun i => some (i * ie.size, ie.size)) z.cells (ps.map fun x => (x.1, a.eval x.2)).toList = some rs' := by
      rw [← h1, Array.toList_map]
    simp only [execOp, ho, Instr.build, Sem.run_bind, run_zero' hi hz', Result.andThen_ok, run_underlying hund, run_sizeOf' hie, hfill, Sem.run_pure]

end
end Go.Proofs.YtpaffoiiipgkeaaDoor.Ab
