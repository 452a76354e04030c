/- Each operation of the abstract machine is sound. -/
import Derived.Test.YtiiapkhdjchhjaaAb3
import Derived.Laws.MakeOwn
import Derived.Laws.IdiomStrings
import Derived.MapKept
import Derived.Laws.IdiomRangeMap
namespace Go.Proofs.Ytiiapkhdjchhjaa.Ab
open Go.RowKit
set_option linter.unusedVariables false
set_option linter.unusedSimpArgs false

section
variable {P : Program} {G : Gl}

theorem tyOf_inv {t : TypeId} {T : Ty} (h : tyOf P t = some T) : ∃ i d z, P.info? t = some i ∧ P.underlying t = some d ∧ i.zero = some z ∧
    T = ⟨toTD P d, i.size, i.bytes, z.cells.toList, aggB P t, eszOf P i.size d⟩ := by
  unfold tyOf at h
  cases hi : P.info? t with
  | none => simp [hi] at h
  | some i =>
    cases hd : P.underlying t with
    | none => simp [hi, hd] at h
    | some d =>
      simp only [hi, hd] at h
      cases hz : i.zero with
      | none => simp [hz] at h
      | some z =>
        simp only [hz] at h
        split at h
        · simp only [Option.some.injEq] at h
          exact ⟨i, d, z, rfl, rfl, hz, h.symm⟩
        · cases h

theorem tyOf_zv {t : TypeId} {T : Ty} (h : tyOf P t = some T) : ∃ i, P.info? t = some i ∧ i.zero = some T.zv := by
  unfold tyOf at h
  cases hi : P.info? t with
  | none => simp [hi] at h
  | some i =>
    cases hd : P.underlying t with
    | none => simp [hi, hd] at h
    | some d =>
      simp only [hi, hd] at h
      cases hz : i.zero with
      | none => simp [hz] at h
      | some z =>
        simp only [hz] at h
        split at h
        · rename_i ha
          simp only [Option.some.injEq] at h
          subst h
          refine ⟨i, rfl, ?_⟩
          rw [hz]
          simp only [Ty.zv, ← ha]
          cases z <;> simp [isAggV, Value.cells]
        · cases h

theorem td_ptr {d : TypeDesc} {e : TypeId} (h : toTD P d = .ptr e) : d = .pointer e := by
  cases d with
  | struct gs => simp only [toTD] at h; split at h <;> cases h
  | _ => first | (cases h; rfl) | (simp [toTD] at h; done) | (simp [toTD] at h; rw [h])
theorem td_sl {d : TypeDesc} {e : TypeId} (h : toTD P d = .sl e) : d = .slice e := by
  cases d with
  | struct gs => simp only [toTD] at h; split at h <;> cases h
  | _ => first | (cases h; rfl) | (simp [toTD] at h; done) | (simp [toTD] at h; rw [h])
theorem td_arr {d : TypeDesc} {n : Nat} {e : TypeId} (h : toTD P d = .arr n e) : d = .array n e := by
  cases d with
  | struct gs => simp only [toTD] at h; split at h <;> cases h
  | _ => first | (cases h; rfl) | (simp [toTD] at h; done) | (simp [toTD] at h; rw [h.1, h.2])
theorem td_int {d : TypeDesc} {k : IntKind} (h : toTD P d = .int k) : d = .int k := by
  cases d with
  | struct gs => simp only [toTD] at h; split at h <;> cases h
  | _ => first | (cases h; rfl) | (simp [toTD] at h; done) | (simp [toTD] at h; rw [h])
theorem td_str {d : TypeDesc} (h : toTD P d = .str) : d = .string := by
  cases d with
  | struct gs => simp only [toTD] at h; split at h <;> cases h
  | _ => first | (cases h; rfl) | (simp [toTD] at h; done) | (simp [toTD] at h; rfl)
theorem td_bool {d : TypeDesc} (h : toTD P d = .bool) : d = .bool := by
  cases d with
  | struct gs => simp only [toTD] at h; split at h <;> cases h
  | _ => first | (cases h; rfl) | (simp [toTD] at h; done) | (simp [toTD] at h; rfl)
theorem td_st {d : TypeDesc} {fs : List (Nat × Nat × TypeId)} (h : toTD P d = .st fs) : ∃ gs : Array Field, d = .struct gs ∧ (∀ f ∈ gs.toList, (P.info? f.type).isSome = true) ∧ fs = gs.toList.map fun f => (f.offset, sizeB P f.type, f.type) := by
  cases d with
  | struct gs =>
    simp only [toTD] at h
    split at h
    · rename_i hall
      cases h
      exact ⟨_, rfl, fun f hf => List.all_eq_true.1 hall f hf, rfl⟩
    · cases h
  | _ => simp [toTD] at h

theorem run_typeInfo' {t : TypeId} {i : TypeInfo} (h : P.info? t = some i) (w : World) : (typeInfo t).run P w = .ok i w := by simp [typeInfo, h]
theorem run_sizeOf' {t : TypeId} {i : TypeInfo} (h : P.info? t = some i) (w : World) : (sizeOf t).run P w = .ok i.size w := by simp [sizeOf, run_typeInfo' h]
theorem run_zero' {t : TypeId} {i : TypeInfo} {z : Value} (h : P.info? t = some i) (hz : i.zero = some z) (w : World) : (zeroValue t).run P w = .ok z w := by simp [zeroValue, run_typeInfo' h, hz]
theorem run_isAgg' {t : TypeId} {d : TypeDesc} (h : P.underlying t = some d) (w : World) : (isAgg t).run P w = .ok (aggB P t) w := by
  simp only [isAgg, Sem.run_bind, run_underlying h, Result.andThen_ok, aggB, h]
  cases d <;> rfl

theorem Oper.wp_value {o : Oper} {a : Act} {w w' : World} {next : Act → World → Prop} {Q : Exit → Act → World → Prop} {v : Value}
    (hr : (execOp a.eval o).run P w = .ok (.value v) w') (h : next (a.put o.dst v) w') : o.wp P a w next Q := by
  unfold Oper.wp; rw [hr]; exact h
theorem Oper.wp_skip {o : Oper} {a : Act} {w w' : World} {next : Act → World → Prop} {Q : Exit → Act → World → Prop}
    (hr : (execOp a.eval o).run P w = .ok .skip w') (h : next (a.put o.dst undef) w') : o.wp P a w next Q := by
  unfold Oper.wp; rw [hr]; exact h

variable (P G) in
/-- An operation carries a related state on. -/
def OpOK (o : Oper) (fl : Nat) (τ : Tm) (A : Hp) (v : Value) (A' : Hp) : Prop :=
  ∀ (μ : Mu) (w : World) (a : Act) (next : Act → World → Prop) (Q : Exit → Act → World → Prop), HR G μ fl A w → fl ≤ A.next →
    (∀ x ∈ o.op.operands, ∀ u, ev τ x = some u → VR μ A u (a.eval x)) →
    (∀ v' w' μ', VR μ' A' v v' → HR G μ' fl A' w' → Trans fl μ A w μ' A' w' → next (a.put o.dst v') w') → o.wp P a w next Q

/-- Operations that leave the world alone. -/
theorem OpOK.same {o : Oper} {fl : Nat} {τ : Tm} {A : Hp} {v : Value}
    (h : ∀ (μ : Mu) (w : World) (a : Act), HR G μ fl A w → (∀ x ∈ o.op.operands, ∀ u, ev τ x = some u → VR μ A u (a.eval x)) → ∃ v', (execOp a.eval o).run P w = .ok (.value v') w ∧ VR μ A v v') :
    OpOK P G o fl τ A v A := by
  intro μ w a next Q H hfl hop hk
  obtain ⟨v', hr, hv⟩ := h μ w a H hop
  exact Oper.wp_value hr (hk v' w μ hv H (Trans.refl _ _ _ _))

/-- Operations that make one block. -/
theorem OpOK.make {o : Oper} {fl : Nat} {τ : Tm} {A : Hp} {cs : List Value} {e n c : Nat} {v : Value}
    (hv : (v = .pointer (some ⟨A.next, 0, some 0⟩)) ∨ (v = .slice (some ⟨A.next, 0, some 0⟩) n c ∧ n ≤ c))
    (h : ∀ (μ : Mu) (w : World) (a : Act), HR G μ fl A w → (∀ x ∈ o.op.operands, ∀ u, ev τ x = some u → VR μ A u (a.eval x)) →
      ∃ (ds : Array Value) (t : TypeId) (fr : Nat × Nat) (w' : World) (cc : Nat), cs.length ≤ ds.size ∧ (∀ (j : Nat) (u : Value), cs[j]? = some u → ∃ u' : Value, ds[j]? = some u' ∧ VR μ A u u') ∧
        (∀ j, j < ds.size → ¬ (fr.1 ≤ j ∧ j < fr.2)) ∧ w'.heap = w.heap.push (.cells ds t fr) ∧ w'.os = w.os ∧ w'.tape = w.tape ∧ w'.output = w.output ∧ c ≤ cc ∧ cc * e ≤ ds.size ∧
        (execOp a.eval o).run P w = .ok (.value (match v with | .pointer _ => .pointer (some ⟨w.heap.size, 0, none⟩) | _ => .slice (some ⟨w.heap.size, 0, none⟩) n cc)) w') :
    OpOK P G o fl τ A v (A.push (.row cs 0 e)) := by
  intro μ w a next Q H hfl hop hk
  obtain ⟨ds, t, fr, w', cc, h1, h2, h3, h4, h5, h6, h7, h8, h9, hr⟩ := h μ w a H hop
  obtain ⟨HN, TN⟩ := H.newBlock hfl cs ds t fr e h1 h2 h3 h4 h5 h6 h7
  refine Oper.wp_value hr (hk _ w' _ ?_ HN TN)
  rcases hv with rfl | ⟨rfl, hnc⟩
  · exact .ptr (AR.new 0)
  · refine .sl (by simp) h8 (by omega) ⟨0, rfl, fun cs' g' e' hb => ⟨Nat.zero_le _, fun _ => ⟨w.heap.size, 0, ds.size, by simp [Mu.add], fun _ => ⟨by simp, ?_⟩⟩⟩⟩
    simp only [Hp.push_blk, if_true, Option.some.injEq, Blk.row.injEq] at hb
    obtain ⟨_, _, rfl⟩ := hb
    simpa using h9

theorem VR.cells {μ : Mu} {A : Hp} {v v' : Value} (h : VR μ A v v') : v.cells.size = v'.cells.size ∧ ∀ (j : Nat) (u : Value), v.cells[j]? = some u → ∃ u' : Value, v'.cells[j]? = some u' ∧ VR μ A u u' := by
  have one : ∀ {x y : Value}, VR μ A x y → x.cells = #[x] → y.cells = #[y] → x.cells.size = y.cells.size ∧ ∀ (j : Nat) (u : Value), x.cells[j]? = some u → ∃ u' : Value, y.cells[j]? = some u' ∧ VR μ A u u' := by
    intro x y hxy hx hy
    rw [hx, hy]
    refine ⟨rfl, fun j u hj => ?_⟩
    cases j with
    | zero => simp at hj; subst hj; exact ⟨y, by simp, hxy⟩
    | succ j => simp at hj
  cases h with
  | agg h1 h2 =>
    refine ⟨h1, fun j u hj => ?_⟩
    simp only [Value.cells] at hj ⊢
    obtain ⟨hlt, rfl⟩ := Array.getElem?_eq_some_iff.1 hj
    exact ⟨_, Array.getElem?_eq_getElem (by omega), h2 j hlt (by omega)⟩
  | bool b => exact one (.bool b) rfl rfl
  | int k n => exact one (.int k n) rfl rfl
  | float k n => exact one (.float k n) rfl rfl
  | string s => exact one (.string s) rfl rfl
  | ptr0 => exact one .ptr0 rfl rfl
  | ptr h => exact one (.ptr h) rfl rfl
  | sl0 n c => exact one (.sl0 n c) rfl rfl
  | sl h1 h2 h3 h4 => exact one (.sl h1 h2 h3 h4) rfl rfl
  | map0 => exact one .map0 rfl rfl
  | map h1 h2 => exact one (.map h1 h2) rfl rfl
  | iter h1 h2 => exact one (.iter h1 h2) rfl rfl
  | nilFunc => exact one .nilFunc rfl rfl
  | nilIface => exact one .nilIface rfl rfl
  | func fn h1 h2 h3 h4 => exact one (.func fn h1 h2 h3 h4) rfl rfl
  | iface t h => exact one (.iface t h) rfl rfl
  | tuple h1 h2 => exact one (.tuple h1 h2) rfl rfl

theorem VR.one {μ : Mu} {A : Hp} {v v' : Value} (h : VR μ A v v') : v.oneCell' = v'.oneCell' := by cases h <;> rfl

/-- Values of the program's text, closed. -/
theorem VRa.get {μ : Mu} {A : Hp} {xs ys : Array Value} (h : VRa μ A xs ys) {i : Nat} {u : Value} (hi : xs[i]? = some u) : ∃ u' : Value, ys[i]? = some u' ∧ VR μ A u u' := by
  obtain ⟨hlt, rfl⟩ := Array.getElem?_eq_some_iff.1 hi
  have := h.1
  exact ⟨_, Array.getElem?_eq_getElem (by omega), h.2 i hlt (by omega)⟩

theorem VRa.of_get {μ : Mu} {A : Hp} {xs ys : Array Value} (h1 : xs.size = ys.size) (h : ∀ (i : Nat) (u : Value), xs[i]? = some u → ∃ u' : Value, ys[i]? = some u' ∧ VR μ A u u') : VRa μ A xs ys := by
  refine ⟨h1, fun i hi hi' => ?_⟩
  obtain ⟨u', h2, h3⟩ := h i _ (Array.getElem?_eq_getElem hi)
  rw [Array.getElem?_eq_getElem hi'] at h2
  cases h2
  exact h3

theorem rdn_spec {A : Hp} {p : Addr} : ∀ (n i : Nat) (acc : List Value) (K : List Value → Prop), rdn G A p i n acc K →
    ∃ vs, K (acc ++ vs) ∧ vs.length = n ∧ ∀ (j : Nat) (v : Value), vs[j]? = some v → A.get G (aadd p (i + j)) = some v
  | 0, i, acc, K, h => ⟨[], by rw [List.append_nil]; exact h, rfl, fun j v hj => by simp at hj⟩
  | n + 1, i, acc, K, h => by
    obtain ⟨v, hv, h⟩ := h
    obtain ⟨vs, hK, hl, hg⟩ := rdn_spec n (i + 1) _ K h
    refine ⟨v :: vs, by simpa using hK, by simp [hl], fun j u hj => ?_⟩
    cases j with
    | zero => simp at hj; subst hj; simpa using hv
    | succ j =>
      simp only [List.getElem?_cons_succ] at hj
      have := hg j u hj
      rwa [show i + 1 + j = i + (j + 1) by omega] at this

/-- Cells read in the world, one behind the other. -/
theorem loads_at {μ : Mu} {fl : Nat} {A : Hp} {w : World} (H : HR G μ fl A w) {p p' : Addr} (hp : AR μ A p p') : ∀ (vs : List Value) (i : Nat),
    (∀ (j : Nat) (v : Value), vs[j]? = some v → A.get G (aadd p (i + j)) = some v) →
    ∃ vs' : List Value, vs.length = vs'.length ∧ (∀ (j : Nat) (u : Value), vs'[j]? = some u → w.cell? (p'.add (i + j)) = some u) ∧ ∀ (j : Nat) (v : Value), vs[j]? = some v → ∃ v' : Value, vs'[j]? = some v' ∧ VR μ A v v'
  | [], i, hg => ⟨[], rfl, fun j u h => by simp at h, fun j v h => by simp at h⟩
  | v :: vs, i, hg => by
    obtain ⟨v', hc, hv⟩ := H.get (hp.add (i + 0)) (hg 0 v (by simp))
    obtain ⟨vs', h1, h2, h3⟩ := loads_at H hp vs (i + 1) (fun j u hj => by
      have := hg (j + 1) u (by simpa using hj)
      rwa [show i + (j + 1) = i + 1 + j by omega] at this)
    refine ⟨v' :: vs', by simp [h1], fun j u hj => ?_, fun j u hj => ?_⟩
    · cases j with
      | zero => simp at hj; subst hj; exact hc
      | succ j =>
        simp only [List.getElem?_cons_succ] at hj
        have := h2 j u hj
        rwa [show i + 1 + j = i + (j + 1) by omega] at this
    · cases j with
      | zero => simp at hj; subst hj; exact ⟨v', by simp, hv⟩
      | succ j =>
        simp only [List.getElem?_cons_succ] at hj ⊢
        exact h3 j u hj

theorem loads {μ : Mu} {fl : Nat} {A : Hp} {w : World} (H : HR G μ fl A w) {p p' : Addr} (hp : AR μ A p p') (vs : List Value)
    (hg : ∀ (j : Nat) (v : Value), vs[j]? = some v → A.get G (aadd p j) = some v) :
    ∃ vs' : List Value, vs.length = vs'.length ∧ (∀ (j : Nat) (u : Value), vs'[j]? = some u → w.cell? (p'.add j) = some u) ∧ ∀ (j : Nat) (v : Value), vs[j]? = some v → ∃ v' : Value, vs'[j]? = some v' ∧ VR μ A v v' := by
  have := loads_at H hp vs 0 (fun j v hj => by rw [Nat.zero_add]; exact hg j v hj)
  simpa only [Nat.zero_add] using this

end
end Go.Proofs.Ytiiapkhdjchhjaa.Ab

/- Each operation of the abstract machine is sound: the operations that leave the world alone, and those that make, read and write rows. -/
namespace Go.Proofs.Ytiiapkhdjchhjaa.Ab
open Go.RowKit
set_option linter.unusedVariables false
set_option linter.unusedSimpArgs false

section
variable {P : Program} {G : Gl} {fl : Nat} {τ : Tm} {A : Hp} {o : Oper}

theorem ok_move {x : Operand} (ho : o.op = .move x) {v : Value} (hv : ev τ x = some v) : OpOK P G o fl τ A v A :=
  .same fun μ w a H hop => ⟨a.eval x, by simp [execOp, ho], hop x (by simp [ho, Op.operands]) v hv⟩

theorem ok_assign {x : Operand} (ho : o.op = .assign x) {v : Value} (hv : ev τ x = some v) : OpOK P G o fl τ A v A :=
  .same fun μ w a H hop => ⟨a.eval x, by simp [execOp, ho], hop x (by simp [ho, Op.operands]) v hv⟩

theorem VR.bool_inv {μ : Mu} {A : Hp} {b : Bool} {v : Value} (h : VR μ A (.bool b) v) : v = .bool b := by cases h; rfl
theorem VR.int_inv {μ : Mu} {A : Hp} {k : IntKind} {n : Int} {v : Value} (h : VR μ A (.int k n) v) : v = .int k n := by cases h; rfl
theorem VR.string_inv {μ : Mu} {A : Hp} {s : ByteArray} {v : Value} (h : VR μ A (.string s) v) : v = .string s := by cases h; rfl
theorem VR.ptr_inv {μ : Mu} {A : Hp} {p : Addr} {v : Value} (h : VR μ A (.pointer (some p)) v) : ∃ p', v = .pointer (some p') ∧ AR μ A p p' := by cases h; exact ⟨_, rfl, ‹_›⟩
theorem VR.agg_inv {μ : Mu} {A : Hp} {cs : Array Value} {v : Value} (h : VR μ A (.agg cs) v) : ∃ ds, v = .agg ds ∧ VRa μ A cs ds := by cases h; exact ⟨_, rfl, ‹_›, ‹_›⟩
theorem VR.tuple_inv {μ : Mu} {A : Hp} {cs : Array Value} {v : Value} (h : VR μ A (.tuple cs) v) : ∃ ds, v = .tuple ds ∧ VRa μ A cs ds := by cases h; exact ⟨_, rfl, ‹_›, ‹_›⟩
theorem VR.sl0_inv {μ : Mu} {A : Hp} {n c : Nat} {v : Value} (h : VR μ A (.slice none n c) v) : v = .slice none n c := by cases h; rfl

theorem ok_pick {c x y : Operand} (ho : o.op = .pick c x y) {b : Bool} {v : Value} (hc : ev τ c = some (.bool b)) (hv : ev τ (if b then x else y) = some v) : OpOK P G o fl τ A v A :=
  .same fun μ w a H hop => by
    have h1 := (hop c (by simp [ho, Op.operands]) _ hc).bool_inv
    have h2 := hop (if b then x else y) (by cases b <;> simp [ho, Op.operands]) v hv
    refine ⟨_, ?_, h2⟩
    cases b <;> simp [execOp, ho, h1, asBool]

theorem ok_alloc {t : TypeId} (ho : o.op = .alloc t) {T : Ty} (hT : tyOf P t = some T) (hz : ∀ (μ : Mu) (A : Hp), ∀ u ∈ T.zero, VR μ A u u) :
    OpOK P G o fl τ A (.pointer (some ⟨A.next, 0, some 0⟩)) (A.push (.row T.zero 0 T.esz)) := by
  obtain ⟨i, d, z, hi, hd, hz', rfl⟩ := tyOf_inv hT
  refine .make (n := 0) (c := 0) (.inl rfl) fun μ w a H hop => ⟨z.cells, t, (0, 0), w.alloc (.cells z.cells t (0, 0)), 0, by simp, fun j u hj => ?_, by simp, rfl, rfl, rfl, rfl, by simp, by simp, ?_⟩
  · refine ⟨u, by simpa using hj, hz μ A u ?_⟩
    exact List.mem_of_getElem? hj
  · simp [execOp, ho, Instr.alloc, run_zero' hi hz', newVar, newRow]

theorem ok_box {t : TypeId} {x : Operand} (ho : o.op = .box t x) {e : Nat} {v : Value} (hv : ev τ x = some v) :
    OpOK P G o fl τ A (.pointer (some ⟨A.next, 0, some 0⟩)) (A.push (.row v.cells.toList 0 e)) := by
  refine .make (n := 0) (c := 0) (.inl rfl) fun μ w a H hop => ?_
  obtain ⟨h1, h2⟩ := (hop x (by simp [ho, Op.operands]) v hv).cells
  refine ⟨(a.eval x).cells, t, (0, 0), w.alloc (.cells (a.eval x).cells t (0, 0)), 0, by simp [h1], fun j u hj => h2 j u (by simpa using hj), by simp, rfl, rfl, rfl, rfl, by simp, by simp, ?_⟩
  simp [execOp, ho, Instr.box, newVar, newRow]

theorem ok_load_agg {t : TypeId} {x : Operand} (ho : o.op = .load t x) {p : Addr} (hp : ev τ x = some (.pointer (some p))) {T : Ty} (hT : tyOf P t = some T) (hagg : T.agg = true)
    {vs : List Value} (hl : vs.length = T.size) (hg : ∀ (j : Nat) (v : Value), vs[j]? = some v → A.get G (aadd p j) = some v) : OpOK P G o fl τ A (.agg vs.toArray) A :=
  .same fun μ w a H hop => by
    obtain ⟨i, d, z, hi, hd, hz', rfl⟩ := tyOf_inv hT
    obtain ⟨p', hp', har⟩ := (hop x (by simp [ho, Op.operands]) _ hp).ptr_inv
    obtain ⟨vs', h1, h2, h3⟩ := loads H har vs hg
    have hl' : (loadCells p' i.size).run P w = .ok vs'.toArray w := by
      simp only at hl
      rw [← hl, h1]
      exact run_loadCells_list w p' vs' h2
    have hagg' : aggB P t = true := hagg
    refine ⟨.agg vs'.toArray, ?_, .agg (by simp [h1]) fun j hj hj' => ?_⟩
    · simp [execOp, ho, hp', Instr.loadAt, Instr.sureAddr, loadVar, run_isAgg' hd, hagg', run_sizeOf' hi, hl']
    · obtain ⟨v', h5, h6⟩ := h3 j _ (List.getElem?_eq_getElem (by simpa using hj))
      rw [List.getElem?_eq_getElem (by simpa using hj')] at h5
      cases h5
      simpa using h6

theorem ok_load_one {t : TypeId} {x : Operand} (ho : o.op = .load t x) {p : Addr} (hp : ev τ x = some (.pointer (some p))) {T : Ty} (hT : tyOf P t = some T) (hagg : T.agg = false)
    {v : Value} (hg : A.get G p = some v) : OpOK P G o fl τ A v A :=
  .same fun μ w a H hop => by
    obtain ⟨i, d, z, hi, hd, hz', rfl⟩ := tyOf_inv hT
    obtain ⟨p', hp', har⟩ := (hop x (by simp [ho, Op.operands]) _ hp).ptr_inv
    obtain ⟨v', h1, h2⟩ := H.get har hg
    have hagg' : aggB P t = false := hagg
    refine ⟨v', ?_, h2⟩
    simp [execOp, ho, hp', Instr.loadAt, Instr.sureAddr, loadVar, run_isAgg' hd, hagg', h1]

theorem AR.live {μ : Mu} {A : Hp} {p p' : Addr} (h : AR μ A p p') {g : Nat} (hg : p.spot = some g) {cs : List Value} {e : Nat} (hb : A.blk p.block = some (.row cs g e)) :
    ∃ b o S, μ p.block = some (b, o, S) ∧ p' = ⟨b, o + p.off, none⟩ := by
  rcases h with ⟨hs, _⟩ | ⟨_, g', hg', hl⟩
  · rw [hs] at hg; cases hg
  · rw [hg'] at hg; cases hg
    exact (hl cs _ e hb).2 rfl

theorem ok_store {t : TypeId} {x y : Operand} (ho : o.op = .store t x y) {p : Addr} (hp : ev τ x = some (.pointer (some p))) {v : Value} (hv : ev τ y = some v) {T : Ty} (hT : tyOf P t = some T)
    (hsz : v.cells.size = T.size) (hone : ones v = true) {g e : Nat} {cs : List Value} (hsp : p.spot = some g) (hb : A.blk p.block = some (.row cs g e)) (hfl : fl ≤ p.block) (hlen : p.off + v.cells.size ≤ cs.length) :
    OpOK P G o fl τ A undef (A.put p.block (.row (wr cs p.off v.cells.toList) g e)) := by
  obtain ⟨i, d, z, hi, hd, hz', rfl⟩ := tyOf_inv hT
  intro μ w a next Q H hfl' hop hk
  obtain ⟨p', hp', har⟩ := (hop x (by simp [ho, Op.operands]) _ hp).ptr_inv
  have hvr := hop y (by simp [ho, Op.operands]) _ hv
  obtain ⟨hc1, hc2⟩ := hvr.cells
  obtain ⟨b, off, S, hm, rfl⟩ := har.live hsp hb
  obtain ⟨H', T'⟩ := HR.setCells (G := G) (e := e) (g := g) hfl hm v.cells.toList (a.eval y).cells.toList A w cs p.off H hb (by simpa using hlen) (by simp [hc1]) (fun j u u' h1 h2 => by
    obtain ⟨u2, h3, h4⟩ := hc2 j u (by simpa using h1)
    rw [Array.getElem?_toList, h3] at h2; cases h2; exact h4)
  obtain ⟨c, tt, fr, hw, hS, hle, hcc⟩ := H.row _ _ _ _ _ _ _ hb hm
  have hst := run_storeCells_cells (P := P) b (off + p.off) (a.eval y).cells.toList 0 w (fun j hj => by
      simp only [Array.length_toList, ← hc1] at hj
      rw [cell?_plain w b _ hw]
      simp only [Option.isSome_iff_exists, Nat.add_zero]
      exact ⟨_, Array.getElem?_eq_getElem (by omega)⟩)
    (fun j hj => by
      simp only [Array.length_toList, ← hc1] at hj
      exact H.free _ _ _ _ _ _ _ hfl hb hm _ (by omega))
    (fun u hu => by
      obtain ⟨j, hj⟩ := List.mem_iff_getElem?.1 hu
      have hjl := (List.getElem?_eq_some_iff.1 hj).1
      simp only [Array.length_toList, ← hc1] at hjl
      obtain ⟨u2, h3, h4⟩ := hc2 j _ (Array.getElem?_eq_getElem hjl)
      rw [Array.getElem?_toList, h3] at hj; cases hj
      rw [← h4.one]
      have := List.all_eq_true.1 hone (v.cells[j]) (by simp)
      exact this)
  simp only [Nat.add_zero] at hst
  refine Oper.wp_skip (w' := w.setCells b (off + p.off) (a.eval y).cells.toList) ?_ (hk undef _ μ (.tuple rfl fun i h _ => absurd h (by simp)) H' T')
  simp [execOp, ho, hp', Instr.storeAt, Instr.sureAddr, storeVar, run_sizeOf' hi, ← hc1, hsz, hst]

theorem ok_nilCheck {x : Operand} (ho : o.op = .nilCheck x) {p : Addr} (hp : ev τ x = some (.pointer (some p))) : OpOK P G o fl τ A (.pointer (some p)) A :=
  .same fun μ w a H hop => by
    have h := hop x (by simp [ho, Op.operands]) _ hp
    obtain ⟨p', hp', har⟩ := h.ptr_inv
    exact ⟨.pointer (some p'), by simp [execOp, ho, hp'], .ptr har⟩

theorem ok_nilCheckF {x : Operand} (ho : o.op = .nilCheck x) {f : FuncId} {xs ys : Array Value} (hp : ev τ x = some (.func (.func f) xs ys)) : OpOK P G o fl τ A (.func (.func f) xs ys) A :=
  .same fun μ w a H hop => by
    have h := hop x (by simp [ho, Op.operands]) _ hp
    cases hx : a.eval x with
    | func fn xs' ys' =>
      rw [hx] at h
      have : fn = .func f := by cases h; rfl
      subst this
      exact ⟨_, by simp [execOp, ho, hx], h⟩
    | _ => rw [hx] at h; cases h

theorem ok_not {t : TypeId} {x : Operand} (ho : o.op = .unOp .not t x) {b : Bool} (hx : ev τ x = some (.bool b)) : OpOK P G o fl τ A (.bool (!b)) A :=
  .same fun μ w a H hop => by
    have h := (hop x (by simp [ho, Op.operands]) _ hx).bool_inv
    exact ⟨_, by simp [execOp, ho, h, Op.unary], .bool _⟩

theorem ok_neg {t : TypeId} {x : Operand} (ho : o.op = .unOp .neg t x) {k : IntKind} {n : Int} (hx : ev τ x = some (.int k n)) : OpOK P G o fl τ A (.int k (k.wrap (0 - n))) A :=
  .same fun μ w a H hop => by
    have h := (hop x (by simp [ho, Op.operands]) _ hx).int_inv
    exact ⟨_, by simp [execOp, ho, h, Op.unary, Op.intArith], .int _ _⟩

theorem ok_extract {x : Operand} {i : Nat} (ho : o.op = .extract x i) {vs : Array Value} (hx : ev τ x = some (.tuple vs)) {v : Value} (hi : vs[i]? = some v) : OpOK P G o fl τ A v A :=
  .same fun μ w a H hop => by
    obtain ⟨ds, hds, hvr⟩ := (hop x (by simp [ho, Op.operands]) _ hx).tuple_inv
    obtain ⟨v', h1, h2⟩ := hvr.get hi
    exact ⟨v', by simp [execOp, ho, hds, Instr.extract, h1], h2⟩

theorem ok_fieldAddr {s : TypeId} {x : Operand} {i : Nat} (ho : o.op = .fieldAddr s x i) {p : Addr} (hp : ev τ x = some (.pointer (some p))) {S : Ty} (hS : tyOf P s = some S) {f : Nat × Nat × TypeId}
    (hf : (placesOf S.d)[i]? = some f) (h0 : f.2.1 ≠ 0) : OpOK P G o fl τ A (.pointer (some (aadd p f.1))) A :=
  .same fun μ w a H hop => by
    obtain ⟨inf, d, z, hi, hd, hz', rfl⟩ := tyOf_inv hS
    obtain ⟨p', hp', har⟩ := (hop x (by simp [ho, Op.operands]) _ hp).ptr_inv
    have hf0 := hf
    obtain ⟨gs, rfl, hall, hfs⟩ : ∃ gs : Array Field, d = .struct gs ∧ (∀ f ∈ gs.toList, (P.info? f.type).isSome = true) ∧ placesOf (toTD P d) = gs.toList.map fun f => (f.offset, sizeB P f.type, f.type) := by
      cases htd : toTD P d with
      | st fs => obtain ⟨gs, h1, h2, h3⟩ := td_st htd; exact ⟨gs, h1, h2, by rw [placesOf]; exact h3⟩
      | _ => simp only [htd, placesOf] at hf0; simp at hf0
    simp only at hf
    rw [hfs] at hf
    simp at hf
    obtain ⟨fd, hfd, rfl⟩ := hf
    simp only [sizeB] at h0
    cases hif : P.info? fd.type with
    | none => simp [hif] at h0
    | some j =>
      simp only [hif, Option.map_some, Option.getD_some] at h0
      refine ⟨.pointer (some (p'.add fd.offset)), ?_, .ptr (har.add _)⟩
      simp [execOp, ho, hp', Instr.fieldAt, run_underlying hd, hfd, Instr.sureAddr, fieldPlace, run_sizeOf' hif, h0]

theorem run_part' {t : TypeId} {i : TypeInfo} {d : TypeDesc} (hi : P.info? t = some i) (hd : P.underlying t = some d) (cs : Array Value) (off : Nat) (w : World) :
    (aggB P t = true → (part t cs off).run P w = .ok (.agg (cs.extract off (off + i.size))) w) ∧ (aggB P t = false → ∀ v, cs[off]? = some v → (part t cs off).run P w = .ok v w) := by
  refine ⟨fun h => ?_, fun h v hv => ?_⟩
  · simp [part, run_isAgg' hd, h, run_sizeOf' hi]
  · simp [part, run_isAgg' hd, h, hv]

theorem VRa.extract {μ : Mu} {A : Hp} {xs ys : Array Value} (h : VRa μ A xs ys) (l r : Nat) : VRa μ A (xs.extract l r) (ys.extract l r) := by
  have h1 := h.1
  refine ⟨by simp [h1], fun i hi hi' => ?_⟩
  simp only [Array.getElem_extract]
  exact h.2 _ _ _

theorem ok_part {t : TypeId} {T : Ty} (hT : tyOf P t = some T) {μ : Mu} {A : Hp} {cs ds : Array Value} (h : VRa μ A cs ds) (off : Nat) {v : Value}
    (hv : (T.agg = true ∧ v = .agg (cs.extract off (off + T.size))) ∨ (T.agg = false ∧ cs[off]? = some v)) (w : World) : ∃ v', (part t ds off).run P w = .ok v' w ∧ VR μ A v v' := by
  obtain ⟨i, d, z, hi, hd, hz', rfl⟩ := tyOf_inv hT
  obtain ⟨h1, h2⟩ := run_part' hi hd ds off w
  rcases hv with ⟨ha, rfl⟩ | ⟨ha, hv⟩
  · exact ⟨_, h1 ha, .agg (h.extract _ _).1 (h.extract _ _).2⟩
  · obtain ⟨v', h3, h4⟩ := h.get hv
    exact ⟨v', h2 ha v' h3, h4⟩

theorem ok_field {s : TypeId} {x : Operand} {i : Nat} (ho : o.op = .field s x i) {cs : Array Value} (hx : ev τ x = some (.agg cs)) {S : Ty} (hS : tyOf P s = some S) {f : Nat × Nat × TypeId}
    (hf : (placesOf S.d)[i]? = some f) {T : Ty} (hT : tyOf P f.2.2 = some T) {v : Value} (hv : (T.agg = true ∧ v = .agg (cs.extract f.1 (f.1 + T.size))) ∨ (T.agg = false ∧ cs[f.1]? = some v)) : OpOK P G o fl τ A v A :=
  .same fun μ w a H hop => by
    obtain ⟨inf, d, z, hi, hd, hz', rfl⟩ := tyOf_inv hS
    obtain ⟨ds, hds, hvr⟩ := (hop x (by simp [ho, Op.operands]) _ hx).agg_inv
    have hf0 := hf
    obtain ⟨gs, rfl, hall, hfs⟩ : ∃ gs : Array Field, d = .struct gs ∧ (∀ f ∈ gs.toList, (P.info? f.type).isSome = true) ∧ placesOf (toTD P d) = gs.toList.map fun f => (f.offset, sizeB P f.type, f.type) := by
      cases htd : toTD P d with
      | st fs => obtain ⟨gs, h1, h2, h3⟩ := td_st htd; exact ⟨gs, h1, h2, by rw [placesOf]; exact h3⟩
      | _ => simp only [htd, placesOf] at hf0; simp at hf0
    simp only at hf
    rw [hfs] at hf
    simp at hf
    obtain ⟨fd, hfd, rfl⟩ := hf
    obtain ⟨v', h1, h2⟩ := ok_part hT hvr fd.offset hv w
    exact ⟨v', by simp [execOp, ho, hds, Instr.field, run_underlying hd, hfd, asAgg, h1], h2⟩

theorem ok_indexAddr_sl {t : TypeId} {x i : Operand} (ho : o.op = .indexAddr t x i) {T : Ty} (hT : tyOf P t = some T) {k : IntKind} {n : Int} (hi : ev τ i = some (.int k n)) (h0 : 0 ≤ n)
    {e : TypeId} (hd : T.d = .sl e) {E : Ty} (hE : tyOf P e = some E) {a : Addr} {len c : Nat} (hx : ev τ x = some (.slice (some a) len c)) (hn : n < len) :
    OpOK P G o fl τ A (.pointer (some (aadd a (n.toNat * E.size)))) A :=
  .same fun μ w ac H hop => by
    obtain ⟨inf, d, z, hinf, hund, hz', rfl⟩ := tyOf_inv hT
    obtain ⟨ie, de, ze, hie, hde, hze, rfl⟩ := tyOf_inv hE
    have hd' := td_sl hd; subst hd'
    have h1 := (hop i (by simp [ho, Op.operands]) _ hi).int_inv
    have h2 := hop x (by simp [ho, Op.operands]) _ hx
    cases hxe : ac.eval x with
    | slice a' n' c' =>
      rw [hxe] at h2
      cases h2 with
      | sl hlt hc hnn hl =>
        rename_i a'
        have hpos : c' ≠ 0 := by omega
        have har : AR μ A a a' := by
          obtain ⟨g', hg', hl⟩ := hl
          refine .inr ⟨hlt, g', hg', fun cs g e hb => ⟨(hl cs g e hb).1, fun hgg => ?_⟩⟩
          obtain ⟨b, o, S, hm, hh⟩ := (hl cs g e hb).2 hgg
          exact ⟨b, o, S, hm, (hh hpos).1⟩
        refine ⟨.pointer (some (a'.add (n.toNat * ie.size))), ?_, .ptr (har.add _)⟩
        simp [execOp, ho, h1, hxe, Instr.indexAt, asIntOf, run_underlying hund, h0, hn, run_sizeOf' hie]
    | _ => rw [hxe] at h2; cases h2

theorem ok_indexAddr_arr {t : TypeId} {x i : Operand} (ho : o.op = .indexAddr t x i) {T : Ty} (hT : tyOf P t = some T) {k : IntKind} {n : Int} (hi : ev τ i = some (.int k n)) (h0 : 0 ≤ n)
    {e : TypeId} {len : Nat} (hd : T.d = .arr len e) {E : Ty} (hE : tyOf P e = some E) {a : Addr} (hx : ev τ x = some (.pointer (some a))) (hn : n < len) :
    OpOK P G o fl τ A (.pointer (some (aadd a (n.toNat * E.size)))) A :=
  .same fun μ w ac H hop => by
    obtain ⟨inf, d, z, hinf, hund, hz', rfl⟩ := tyOf_inv hT
    obtain ⟨ie, de, ze, hie, hde, hze, rfl⟩ := tyOf_inv hE
    have hd' := td_arr hd; subst hd'
    have h1 := (hop i (by simp [ho, Op.operands]) _ hi).int_inv
    obtain ⟨p', hp', har⟩ := (hop x (by simp [ho, Op.operands]) _ hx).ptr_inv
    refine ⟨.pointer (some (p'.add (n.toNat * ie.size))), ?_, .ptr (har.add _)⟩
    simp [execOp, ho, h1, hp', Instr.indexAt, asIntOf, run_underlying hund, h0, hn, run_sizeOf' hie, Instr.sureAddr]

theorem ok_index_str {t : TypeId} {x i : Operand} (ho : o.op = .index t x i) {T : Ty} (hT : tyOf P t = some T) {k : IntKind} {n : Int} (hi : ev τ i = some (.int k n)) (h0 : 0 ≤ n)
    (hd : T.d = .str) {s : ByteArray} (hx : ev τ x = some (.string s)) (hn : n < s.size) : OpOK P G o fl τ A (.int .u8 (byteAt s n)) A :=
  .same fun μ w ac H hop => by
    obtain ⟨inf, d, z, hinf, hund, hz', rfl⟩ := tyOf_inv hT
    have hd' := td_str hd; subst hd'
    have h1 := (hop i (by simp [ho, Op.operands]) _ hi).int_inv
    have h2 := (hop x (by simp [ho, Op.operands]) _ hx).string_inv
    have hlt : n.toNat < s.size := by omega
    have hb : s[n.toNat]? = some s[n.toNat] := by simp [hlt]
    have hbt : byteAt s n = ((s[n.toNat]).toNat : Int) := by
      unfold byteAt
      rw [List.getD_eq_getElem?_getD, List.getElem?_eq_getElem (by simpa using hlt)]
      rfl
    refine ⟨_, ?_, .int _ _⟩
    simp [execOp, ho, h1, h2, Instr.index, asIntOf, run_underlying hund, h0, hb, hbt]

theorem ok_index_arr {t : TypeId} {x i : Operand} (ho : o.op = .index t x i) {T : Ty} (hT : tyOf P t = some T) {k : IntKind} {n : Int} (hi : ev τ i = some (.int k n)) (h0 : 0 ≤ n)
    {e : TypeId} {len : Nat} (hd : T.d = .arr len e) {E : Ty} (hE : tyOf P e = some E) {cs : Array Value} (hx : ev τ x = some (.agg cs)) (hn : n < len) {v : Value}
    (hv : (E.agg = true ∧ v = .agg (cs.extract (n.toNat * E.size) (n.toNat * E.size + E.size))) ∨ (E.agg = false ∧ cs[n.toNat * E.size]? = some v)) : OpOK P G o fl τ A v A :=
  .same fun μ w ac H hop => by
    obtain ⟨inf, d, z, hinf, hund, hz', rfl⟩ := tyOf_inv hT
    have hd' := td_arr hd; subst hd'
    have h1 := (hop i (by simp [ho, Op.operands]) _ hi).int_inv
    obtain ⟨ds, hds, hvr⟩ := (hop x (by simp [ho, Op.operands]) _ hx).agg_inv
    obtain ⟨v', h3, h4⟩ := ok_part hE hvr (n.toNat * E.size) hv w
    obtain ⟨ie, de, ze, hie, hde, hze, rfl⟩ := tyOf_inv hE
    refine ⟨v', ?_, h4⟩
    simp [execOp, ho, h1, hds, Instr.index, asIntOf, run_underlying hund, h0, hn, run_sizeOf' hie, h3]

end
end Go.Proofs.Ytiiapkhdjchhjaa.Ab

/- Each operation of the abstract machine is sound: arithmetic and comparisons, composite values, conversions, slices. -/
namespace Go.Proofs.Ytiiapkhdjchhjaa.Ab
open Go.RowKit
theorem Int.beq_eq_decide (a b : Int) : (a == b) = decide (a = b) := rfl
set_option linter.unusedVariables false
set_option linter.unusedSimpArgs false

section
variable {P : Program} {G : Gl} {fl : Nat} {τ : Tm} {A : Hp} {o : Oper}

theorem toList_beq (x y : ByteArray) : (x.toList == y.toList) = decide (x = y) := by
  have h : x.toList = x.data.toList := ByteArray.toList_eq x
  have h2 : y.toList = y.data.toList := ByteArray.toList_eq y
  rw [h, h2]
  by_cases hxy : x = y
  · subst hxy; simp
  · have : x.data.toList ≠ y.data.toList := fun e => hxy (by cases x; cases y; simp at e; subst e; rfl)
    rw [beq_eq_false_iff_ne.2 this]; simp [hxy]

/-- An operation on two scalars, whose run is known. -/
theorem ok_bin {op : BinOp} {t yt : TypeId} {x y : Operand} (ho : o.op = .binOp op t x y yt) {u v r : Value} (hx : ev τ x = some u) (hy : ev τ y = some v)
    (hu : ∀ (μ : Mu) (A : Hp) (u' : Value), VR μ A u u' → u' = u) (hv : ∀ (μ : Mu) (A : Hp) (v' : Value), VR μ A v v' → v' = v) (hr : ∀ (μ : Mu) (A : Hp), VR μ A r r)
    (run : ∀ w : World, (do eqGuard op t x y u v; binOp op t u v : Sem Value).run P w = .ok r w) : OpOK P G o fl τ A r A :=
  .same fun μ w a H hop => by
    have h1 := hu _ _ _ (hop x (by simp [ho, Op.operands]) _ hx)
    have h2 := hv _ _ _ (hop y (by simp [ho, Op.operands]) _ hy)
    refine ⟨r, ?_, hr μ A⟩
    have := run w
    simp only [execOp, ho, h1, h2, Sem.run_bind] at this ⊢
    rw [this]
    rfl

theorem guard_int (op : BinOp) (t : TypeId) (x y : Operand) (k k' : IntKind) (a b : Int) (w : World) : (eqGuard op t x y (.int k a) (.int k' b)).run P w = .ok () w := by cases op <;> rfl
theorem guard_str (op : BinOp) (t : TypeId) (x y : Operand) (a b : ByteArray) (w : World) : (eqGuard op t x y (.string a) (.string b)).run P w = .ok () w := by cases op <;> rfl
theorem guard_bool (op : BinOp) (t : TypeId) (x y : Operand) (a b : Bool) (w : World) : (eqGuard op t x y (.bool a) (.bool b)).run P w = .ok () w := by cases op <;> rfl

theorem eqFs_run {d k : Nat} (ih : ∀ (t : TypeId) (x y : Value) (b : Bool), eqD P d t x y = some b → ∀ (μ : Mu) (A : Hp) (x' y' : Value), VR μ A x x' → VR μ A y y' → ∀ w : World, (Op.equalIn (d + k) t x' y').run P w = .ok b w)
    {xs ys xs' ys' : Array Value} {μ : Mu} {A : Hp} (hx : VRa μ A xs xs') (hy : VRa μ A ys ys') (w : World) : ∀ (fs : List Field) (b : Bool), eqFs P (eqD P d) xs ys fs = some b → (Op.eqFields (d + k) xs' ys' fs).run P w = .ok b w
  | [], b, h => by simp only [eqFs, Option.some.injEq] at h; subst h; simp [Op.eqFields]
  | f :: fs, b, h => by
    rw [eqFs] at h
    by_cases hn : f.name = "_"
    · rw [if_pos hn] at h
      rw [Op.eqFields, if_neg (by simpa using hn)]
      exact eqFs_run ih hx hy w fs b h
    · rw [if_neg hn] at h
      have part : ∀ {zs zs' : Array Value} (hz : VRa μ A zs zs') {a : Value}, partV P f.type zs f.offset = some a → ∃ a', (part f.type zs' f.offset).run P w = .ok a' w ∧ VR μ A a a' := by
        intro zs zs' hz a ha
        simp only [partV, Option.bind_eq_some_iff] at ha
        obtain ⟨T, hT, ha⟩ := ha
        refine ok_part hT hz f.offset ?_ w
        split at ha
        · rename_i hag; cases ha; exact .inl ⟨hag, rfl⟩
        · rename_i hag; exact .inr ⟨by simpa using hag, ha⟩
      simp only [Option.bind_eq_some_iff, Option.map_eq_some_iff] at h
      obtain ⟨a, ha, c, hc, r, hr, s, hs, rfl⟩ := h
      obtain ⟨a', ra, va⟩ := part hx ha
      obtain ⟨c', rc, vc⟩ := part hy hc
      have he := ih f.type a c r hr μ A a' c' va vc w
      rw [Op.eqFields, if_pos hn]
      simp only [Sem.run_bind, ra, rc, he, Result.andThen_ok]
      cases r
      · simp
      · simpa using eqFs_run ih hx hy w fs s hs
def eqElems (d : Nat) (e : TypeId) (sz : Nat) (xs ys : Array Value) : List Nat → Sem Bool
  | [] => pure true
  | i :: is => do
    let a ← part e xs (i * sz)
    let b ← part e ys (i * sz)
    let r ← Op.equalIn d e a b
    if (!r) = true then pure false else eqElems d e sz xs ys is

theorem run_equalIn_arr {d n sz : Nat} {t e : TypeId} {xs ys : Array Value} {w : World} (ht : P.underlying t = some (.array n e)) (hs : (sizeOf e).run P w = .ok sz w) :
    (Op.equalIn (d + 1) t (.agg xs) (.agg ys)).run P w = (eqElems d e sz xs ys (List.range n)).run P w := by
  simp only [Op.equalIn, Sem.run_bind, run_underlying ht, hs, Result.andThen_ok]
  rw [Std.Legacy.Range.forIn_eq_forIn_range']
  have hr : List.range' ((⟨0, n, 1, by decide⟩ : Std.Legacy.Range)).start ((⟨0, n, 1, by decide⟩ : Std.Legacy.Range)).size ((⟨0, n, 1, by decide⟩ : Std.Legacy.Range)).step = List.range n := by
    simp [Std.Legacy.Range.size, List.range_eq_range']
  rw [hr]
  generalize List.range n = is
  clear ht hs hr
  induction is generalizing w with
  | nil => simp [eqElems]
  | cons f fs ih =>
    simp only [List.forIn_cons, eqElems, Sem.run_bind, Sem.run_ite]
    generalize (part e xs (f * sz)).run P w = r1
    cases r1 with
    | ok a w1 =>
      simp only [Result.andThen_ok]
      generalize (part e ys (f * sz)).run P w1 = r2
      cases r2 with
      | ok b w2 =>
        simp only [Result.andThen_ok]
        generalize (Op.equalIn d e a b).run P w2 = r3
        cases r3 with
        | ok r w3 =>
          cases r
          · simp only [Result.andThen_ok, Bool.not_false, if_true, Sem.run_pure]
          · simp only [Result.andThen_ok, Bool.not_true, Bool.false_eq_true, if_false, Sem.run_pure]
            exact ih
        | halt x w3 => simp [Result.andThen]
      | halt x w2 => simp [Result.andThen]
    | halt x w1 => simp [Result.andThen]

theorem eqEs_run {d k : Nat} (ih : ∀ (t : TypeId) (x y : Value) (b : Bool), eqD P d t x y = some b → ∀ (μ : Mu) (A : Hp) (x' y' : Value), VR μ A x x' → VR μ A y y' → ∀ w : World, (Op.equalIn (d + k) t x' y').run P w = .ok b w)
    {e : TypeId} {E : Ty} (hE : tyOf P e = some E) {xs ys xs' ys' : Array Value} {μ : Mu} {A : Hp} (hx : VRa μ A xs xs') (hy : VRa μ A ys ys') (w : World) : ∀ (is : List Nat) (b : Bool), eqEs P (eqD P d) e E.size xs ys is = some b → (eqElems (d + k) e E.size xs' ys' is).run P w = .ok b w
  | [], b, h => by simp only [eqEs, Option.some.injEq] at h; subst h; simp [eqElems]
  | i :: is, b, h => by
    rw [eqEs] at h
    have part : ∀ {zs zs' : Array Value} (hz : VRa μ A zs zs') {a : Value}, partV P e zs (i * E.size) = some a → ∃ a', (part e zs' (i * E.size)).run P w = .ok a' w ∧ VR μ A a a' := by
      intro zs zs' hz a ha
      simp only [partV, Option.bind_eq_some_iff] at ha
      obtain ⟨T, hT, ha⟩ := ha
      refine ok_part hT hz _ ?_ w
      split at ha
      · rename_i hag; cases ha; exact .inl ⟨hag, rfl⟩
      · rename_i hag; exact .inr ⟨by simpa using hag, ha⟩
    simp only [Option.bind_eq_some_iff, Option.map_eq_some_iff] at h
    obtain ⟨a, ha, c, hc, r, hr, s, hs, rfl⟩ := h
    obtain ⟨a', ra, va⟩ := part hx ha
    obtain ⟨c', rc, vc⟩ := part hy hc
    have he := ih e a c r hr μ A a' c' va vc w
    rw [eqElems]
    simp only [Sem.run_bind, ra, rc, he, Result.andThen_ok]
    cases r
    · simp
    · simpa using eqEs_run ih hE hx hy w is s hs

theorem eqD_run (k : Nat) : ∀ (d : Nat) (t : TypeId) (x y : Value) (b : Bool), eqD P d t x y = some b → ∀ (μ : Mu) (A : Hp) (x' y' : Value), VR μ A x x' → VR μ A y y' → ∀ w : World, (Op.equalIn (d + k) t x' y').run P w = .ok b w
  | 0, t, x, y, b, h => by simp [eqD] at h
  | d + 1, t, x, y, b, h => by
    intro μ A x' y' hx hy w
    unfold eqD at h
    rw [show d + 1 + k = (d + k) + 1 by omega]
    split at h
    · rename_i ht
      cases hx.bool_inv; cases hy.bool_inv; cases h
      simp [Op.equalIn, run_underlying ht]
    · rename_i ht
      cases hx.int_inv; cases hy.int_inv
      split at h
      · rename_i hk; cases h; simp [Op.equalIn, run_underlying ht, hk]
      · cases h
    · rename_i ht
      cases hx.string_inv; cases hy.string_inv; cases h
      simp only [Op.equalIn, Sem.run_bind, run_underlying ht, Result.andThen_ok, beq_toListBytes, toList_beq]
      rfl
    · rename_i fs xs ys ht
      split at h
      · cases h
      · rename_i hsd
        obtain ⟨xs', rfl, hxa⟩ := hx.agg_inv
        obtain ⟨ys', rfl, hya⟩ := hy.agg_inv
        have hf : P.fieldsOf t = fs := by simp [Program.fieldsOf, ht]
        rw [run_equalIn_struct (P := P) w (d + k) t xs' ys' (by rw [hf]; exact ht) (by simpa using hsd), hf]
        exact eqFs_run (eqD_run k d) hxa hya w fs.toList b h
    · rename_i n e xs ys ht
      obtain ⟨xs', rfl, hxa⟩ := hx.agg_inv
      obtain ⟨ys', rfl, hya⟩ := hy.agg_inv
      simp only [Option.bind_eq_some_iff] at h
      obtain ⟨E, hE, h⟩ := h
      have hsz : (sizeOf e).run P w = .ok E.size w := by
        obtain ⟨i, d', z, hi, _, _, rfl⟩ := tyOf_inv hE
        exact run_sizeOf' (P := P) hi w
      rw [run_equalIn_arr ht hsz]
      exact eqEs_run (eqD_run k d) hE hxa hya w (List.range n) b h
    · cases h

theorem eqIn_slice {t e : TypeId} (hd : P.underlying t = some (.slice e)) (d : Nat) (o : Option Addr) (m k n c : Nat) (w : World) : (Op.equalIn (d + 1) t (.slice o m k) (.slice none n c)).run P w = .ok o.isNone w := by
  cases o <;> simp [Op.equalIn, run_underlying hd]
theorem eqIn_ptr {t e : TypeId} (hd : P.underlying t = some (.pointer e)) (d : Nat) (o : Option Addr) (w : World) : (Op.equalIn (d + 1) t (.pointer o) (.pointer none)).run P w = .ok o.isNone w := by
  cases o <;> simp [Op.equalIn, run_underlying hd]

/-- Equality of aggregates, and with nil, as it runs. -/
theorem aeq_run {t : TypeId} {x y : Operand} {a b : Value} {K : Bool → Prop} (h : aeq P t a b K) : ∃ r, K r ∧ ∀ (μ : Mu) (A : Hp) (a' b' : Value), VR μ A a a' → VR μ A b b' → ∀ w : World,
    (do eqGuard .eql t x y a' b'; binOp .eql t a' b' : Sem Value).run P w = .ok (.bool r) w ∧ (do eqGuard .neq t x y a' b'; binOp .neq t a' b' : Sem Value).run P w = .ok (.bool (!r)) w := by
  rcases h with ⟨xs, ys, r, rfl, rfl, hg, he, hk⟩ | ⟨o, n, c, n', c', e, rfl, rfl, ht, hk⟩ | ⟨o, e, rfl, rfl, ht, hk⟩
  · refine ⟨r, hk, fun μ A a' b' ha hb w => ?_⟩
    have hrun := eqD_run (P := P) 9980 20 t _ _ r he μ A a' b' ha hb w
    obtain ⟨xs', rfl, -⟩ := ha.agg_inv
    obtain ⟨ys', rfl, -⟩ := hb.agg_inv
    have hrun' : (Op.equal t (.agg xs') (.agg ys')).run P w = .ok r w := hrun
    refine ⟨?_, ?_⟩ <;> simp [eqGuard, hg, binOp, hrun']
  · cases hT : tyOf P t with
    | none => simp [hT] at ht
    | some T =>
      obtain ⟨i, d, z, hi, hd, hz', rfl⟩ := tyOf_inv hT
      simp only [hT, Option.map_some, Option.some.injEq] at ht
      have := td_sl ht; subst this
      refine ⟨_, hk, fun μ A a' b' ha hb w => ?_⟩
      have hb' : b' = .slice none n' c' := by cases hb; rfl
      subst hb'
      have ha' : ∃ o' m' k', a' = .slice o' m' k' ∧ o'.isNone = o.isNone := by cases ha <;> exact ⟨_, _, _, rfl, rfl⟩
      obtain ⟨o', m', k', rfl, ho⟩ := ha'
      have hrun : (Op.equal t (.slice o' m' k') (.slice none n' c')).run P w = .ok o.isNone w := by
        rw [← ho]
        exact eqIn_slice hd 9999 o' m' k' n' c' w
      refine ⟨?_, ?_⟩ <;> simp [eqGuard, binOp, hrun]
  · cases hT : tyOf P t with
    | none => simp [hT] at ht
    | some T =>
      obtain ⟨i, d, z, hi, hd, hz', rfl⟩ := tyOf_inv hT
      simp only [hT, Option.map_some, Option.some.injEq] at ht
      have := td_ptr ht; subst this
      refine ⟨_, hk, fun μ A a' b' ha hb w => ?_⟩
      have hb' : b' = .pointer none := by cases hb; rfl
      subst hb'
      have ha' : ∃ o', a' = .pointer o' ∧ o'.isNone = o.isNone := by cases ha <;> exact ⟨_, rfl, rfl⟩
      obtain ⟨o', rfl, ho⟩ := ha'
      have hrun : (Op.equal t (.pointer o') (.pointer none)).run P w = .ok o.isNone w := by
        rw [← ho]
        exact eqIn_ptr hd 9999 o' w
      refine ⟨?_, ?_⟩ <;> simp [eqGuard, binOp, hrun]

theorem ok_abin {op : BinOp} {t yt : TypeId} {x y : Operand} (ho : o.op = .binOp op t x y yt) {u v : Value} (hx : ev τ x = some u) (hy : ev τ y = some v) {K : Value → Prop} (h : abin P op t u v K) :
    ∃ r, K r ∧ ∀ (fl : Nat) (A : Hp), OpOK P G o fl τ A r A := by
  have I : ∀ (k : IntKind) (n : Int) (μ : Mu) (A : Hp) (u' : Value), VR μ A (.int k n) u' → u' = .int k n := fun _ _ _ _ _ h => h.int_inv
  have S : ∀ (s : ByteArray) (μ : Mu) (A : Hp) (u' : Value), VR μ A (.string s) u' → u' = .string s := fun _ _ _ _ h => h.string_inv
  have B : ∀ (s : Bool) (μ : Mu) (A : Hp) (u' : Value), VR μ A (.bool s) u' → u' = .bool s := fun _ _ _ _ h => h.bool_inv
  cases op <;> simp only [abin] at h
  case add =>
    rcases h with ⟨k, a, b, rfl, rfl, hk⟩ | ⟨a, b, rfl, rfl, hs, hk⟩
    · exact ⟨_, hk, fun fl A => ok_bin ho hx hy (I _ _) (I _ _) (fun _ _ => .int _ _) fun w => by simp [guard_int, binOp, Op.intArith]⟩
    · refine ⟨_, hk, fun fl A => ok_bin ho hx hy (S _) (S _) (fun _ _ => .string _) fun w => ?_⟩
      have hm : IntKind.i64.max = 9223372036854775807 := rfl
      have : ¬ (9223372036854775807 < ((a.size : Int) + (b.size : Int))) := by omega
      simp [guard_str, binOp, Op.stringOp, hm, this]
  case sub => obtain ⟨k, a, b, rfl, rfl, hk⟩ := h; exact ⟨_, hk, fun fl A => ok_bin ho hx hy (I _ _) (I _ _) (fun _ _ => .int _ _) fun w => by simp [guard_int, binOp, Op.intArith]⟩
  case mul => obtain ⟨k, a, b, rfl, rfl, hk⟩ := h; exact ⟨_, hk, fun fl A => ok_bin ho hx hy (I _ _) (I _ _) (fun _ _ => .int _ _) fun w => by simp [guard_int, binOp, Op.intArith]⟩
  case quo => obtain ⟨k, a, b, rfl, rfl, hb, hk⟩ := h; exact ⟨_, hk, fun fl A => ok_bin ho hx hy (I _ _) (I _ _) (fun _ _ => .int _ _) fun w => by simp [guard_int, binOp, Op.intDiv, hb]⟩
  case rem => obtain ⟨k, a, b, rfl, rfl, hb, hk⟩ := h; exact ⟨_, hk, fun fl A => ok_bin ho hx hy (I _ _) (I _ _) (fun _ _ => .int _ _) fun w => by simp [guard_int, binOp, Op.intDiv, hb]⟩
  case and => obtain ⟨k, a, b, rfl, rfl, hk⟩ := h; exact ⟨_, hk, fun fl A => ok_bin ho hx hy (I _ _) (I _ _) (fun _ _ => .int _ _) fun w => by simp [guard_int, binOp, Op.intBits]⟩
  case or => obtain ⟨k, a, b, rfl, rfl, hk⟩ := h; exact ⟨_, hk, fun fl A => ok_bin ho hx hy (I _ _) (I _ _) (fun _ _ => .int _ _) fun w => by simp [guard_int, binOp, Op.intBits]⟩
  case xor => obtain ⟨k, a, b, rfl, rfl, hk⟩ := h; exact ⟨_, hk, fun fl A => ok_bin ho hx hy (I _ _) (I _ _) (fun _ _ => .int _ _) fun w => by simp [guard_int, binOp, Op.intBits]⟩
  case andNot => obtain ⟨k, a, b, rfl, rfl, hk⟩ := h; exact ⟨_, hk, fun fl A => ok_bin ho hx hy (I _ _) (I _ _) (fun _ _ => .int _ _) fun w => by simp [guard_int, binOp, Op.intBits]⟩
  case shl =>
    obtain ⟨k, k', a, b, rfl, rfl, hb, hk⟩ := h
    have hb' : ¬ b < 0 := by omega
    exact ⟨_, hk, fun fl A => ok_bin ho hx hy (I _ _) (I _ _) (fun _ _ => .int _ _) fun w => by simp [guard_int, binOp, Op.shift, hb']⟩
  case shr =>
    obtain ⟨k, k', a, b, rfl, rfl, hb, hk⟩ := h
    have hb' : ¬ b < 0 := by omega
    exact ⟨_, hk, fun fl A => ok_bin ho hx hy (I _ _) (I _ _) (fun _ _ => .int _ _) fun w => by simp [guard_int, binOp, Op.shift, hb']⟩
  case lss => obtain ⟨k, a, b, rfl, rfl, hk⟩ := h; exact ⟨_, hk, fun fl A => ok_bin ho hx hy (I _ _) (I _ _) (fun _ _ => .bool _) fun w => by simp [guard_int, binOp, Op.intCmp]⟩
  case leq => obtain ⟨k, a, b, rfl, rfl, hk⟩ := h; exact ⟨_, hk, fun fl A => ok_bin ho hx hy (I _ _) (I _ _) (fun _ _ => .bool _) fun w => by simp [guard_int, binOp, Op.intCmp]⟩
  case gtr => obtain ⟨k, a, b, rfl, rfl, hk⟩ := h; exact ⟨_, hk, fun fl A => ok_bin ho hx hy (I _ _) (I _ _) (fun _ _ => .bool _) fun w => by simp [guard_int, binOp, Op.intCmp]⟩
  case geq => obtain ⟨k, a, b, rfl, rfl, hk⟩ := h; exact ⟨_, hk, fun fl A => ok_bin ho hx hy (I _ _) (I _ _) (fun _ _ => .bool _) fun w => by simp [guard_int, binOp, Op.intCmp]⟩
  case eql =>
    rcases h with ⟨k, a, b, rfl, rfl, hk⟩ | ⟨a, b, rfl, rfl, hk⟩ | ⟨a, b, rfl, rfl, ht, hk⟩ | h
    · exact ⟨_, hk, fun fl A => ok_bin ho hx hy (I _ _) (I _ _) (fun _ _ => .bool _) fun w => by simp [guard_int, binOp, Op.intCmp, Int.beq_eq_decide]⟩
    · exact ⟨_, hk, fun fl A => ok_bin ho hx hy (S _) (S _) (fun _ _ => .bool _) fun w => by simp [guard_str, binOp, Op.stringOp, toList_beq]⟩
    · cases hT : tyOf P t with
      | none => simp [hT] at ht
      | some T =>
        obtain ⟨i, d, z, hi, hd, hz', rfl⟩ := tyOf_inv hT
        simp only [hT, Option.map_some, Option.some.injEq] at ht
        have := td_bool ht; subst this
        exact ⟨_, hk, fun fl A => ok_bin ho hx hy (B _) (B _) (fun _ _ => .bool _) fun w => by rw [Sem.run_bind, guard_bool, Result.andThen_ok, run_eql_bool w t a b hd]⟩
    · obtain ⟨r, hk, hr⟩ := aeq_run (x := x) (y := y) h
      refine ⟨_, hk, fun fl A => .same fun μ w a H hop => ⟨.bool r, ?_, .bool r⟩⟩
      have := (hr μ A _ _ (hop x (by simp [ho, Op.operands]) _ hx) (hop y (by simp [ho, Op.operands]) _ hy) w).1
      simp only [execOp, ho, Sem.run_bind] at this ⊢
      rw [this]
      rfl
  case neq =>
    rcases h with ⟨k, a, b, rfl, rfl, hk⟩ | ⟨a, b, rfl, rfl, hk⟩ | ⟨a, b, rfl, rfl, ht, hk⟩ | h
    · exact ⟨_, hk, fun fl A => ok_bin ho hx hy (I _ _) (I _ _) (fun _ _ => .bool _) fun w => by simp [guard_int, binOp, Op.intCmp, bne, Int.beq_eq_decide]⟩
    · exact ⟨_, hk, fun fl A => ok_bin ho hx hy (S _) (S _) (fun _ _ => .bool _) fun w => by simp [guard_str, binOp, Op.stringOp, toList_beq]⟩
    · cases hT : tyOf P t with
      | none => simp [hT] at ht
      | some T =>
        obtain ⟨i, d, z, hi, hd, hz', rfl⟩ := tyOf_inv hT
        simp only [hT, Option.map_some, Option.some.injEq] at ht
        have := td_bool ht; subst this
        exact ⟨_, hk, fun fl A => ok_bin ho hx hy (B _) (B _) (fun _ _ => .bool _) fun w => by rw [Sem.run_bind, guard_bool, Result.andThen_ok, run_neq_bool w t a b hd]⟩
    · obtain ⟨r, hk, hr⟩ := aeq_run (x := x) (y := y) h
      refine ⟨_, hk, fun fl A => .same fun μ w a H hop => ⟨.bool (!r), ?_, .bool (!r)⟩⟩
      have := (hr μ A _ _ (hop x (by simp [ho, Op.operands]) _ hx) (hop y (by simp [ho, Op.operands]) _ hy) w).2
      simp only [execOp, ho, Sem.run_bind] at this ⊢
      rw [this]
      rfl


/-! composite values -/
theorem fold_wr : ∀ (l : List Value) (k off : Nat) (cells : Array Value), (l.zipIdx k).foldl (fun (cs : Array Value) (x : Value × Nat) => cs.setIfInBounds (off + x.2) x.1) cells = (wr cells.toList (off + k) l).toArray
  | [], k, off, cells => by simp [wr]
  | v :: l, k, off, cells => by
    simp only [List.zipIdx_cons, List.foldl_cons, wr]
    rw [fold_wr l (k + 1) off]
    congr 1
    simp [Nat.add_assoc]

theorem fold_wr' (vs : Array Value) (off : Nat) (cells : Array Value) : vs.zipIdx.foldl (fun (cs : Array Value) (x : Value × Nat) => cs.setIfInBounds (off + x.2) x.1) cells = (wr cells.toList off vs.toList).toArray := by
  rw [← Array.foldl_toList, Array.toList_zipIdx]
  exact fold_wr vs.toList 0 off cells

theorem wr_rel {μ : Mu} {A : Hp} : ∀ (vs vs' cs cs' : List Value) (off : Nat), VRa μ A cs.toArray cs'.toArray → VRa μ A vs.toArray vs'.toArray → VRa μ A (wr cs off vs).toArray (wr cs' off vs').toArray
  | [], vs', cs, cs', off, h, hv => by
    have : vs' = [] := List.eq_nil_of_length_eq_zero (by have := hv.1; simp at this; omega)
    subst this
    exact h
  | v :: vs, vs', cs, cs', off, h, hv => by
    cases vs' with
    | nil => have := hv.1; simp at this
    | cons v' vs' =>
      have h0 : VR μ A v v' := by have := hv.2 0 (by simp) (by simp); simpa using this
      have hlen : cs.length = cs'.length := by have := h.1; simpa using this
      refine wr_rel vs vs' (cs.set off v) (cs'.set off v') (off + 1) ⟨by simp [hlen], fun i hi hi' => ?_⟩ ⟨by have := hv.1; simpa using this, fun i hi hi' => ?_⟩
      · simp only [List.getElem_toArray, List.getElem_set]
        split
        · exact h0
        · have := h.2 i (by simpa using hi) (by simpa using hi'); simpa using this
      · have := hv.2 (i + 1) (by simpa using hi) (by simpa using hi'); simpa using this

/-- Parts that agree, place by place. -/
def PR (μ : Mu) (A : Hp) : List (Nat × Value) → List (Nat × Value) → Prop
  | [], [] => True
  | (i, v) :: xs, (j, u) :: ys => i = j ∧ VR μ A v u ∧ PR μ A xs ys
  | _, _ => False

theorem fill_rel {μ : Mu} {A : Hp} (place : Nat → Option (Nat × Nat)) : ∀ (ps ps' : List (Nat × Value)) (cs : List Value) (cs' : Array Value) (rs : List Value), PR μ A ps ps' → VRa μ A cs.toArray cs' →
    buildL place cs ps = some rs → ∃ rs', Instr.fill place cs' ps' = some rs' ∧ VRa μ A rs.toArray rs'
  | [], ps', cs, cs', rs, hp, hc, h => by
    cases ps' with
    | nil => simp only [buildL, Option.some.injEq] at h; subst h; exact ⟨cs', rfl, hc⟩
    | cons x xs => exact hp.elim
  | (i, v) :: ps, ps', cs, cs', rs, hp, hc, h => by
    cases ps' with
    | nil => exact hp.elim
    | cons x xs =>
      obtain ⟨j, u⟩ := x
      obtain ⟨rfl, hvu, hrest⟩ := hp
      simp only [buildL] at h
      cases hpl : place i with
      | none => simp [hpl] at h
      | some pl =>
        obtain ⟨off, size⟩ := pl
        simp only [hpl] at h
        split at h
        · rename_i hcond
          obtain ⟨hs, hle⟩ := hcond
          obtain ⟨hc1, hc2⟩ := hvu.cells
          have hlen : cs.length = cs'.size := by have := hc.1; simpa using this
          have hrel : VRa μ A (wr cs off v.cells.toList).toArray (wr cs'.toList off u.cells.toList).toArray :=
            wr_rel _ _ _ _ _ (by simpa using hc) (by simpa using VRa.of_get hc1 hc2)
          obtain ⟨rs', h1, h2⟩ := fill_rel place ps xs _ _ rs hrest hrel h
          refine ⟨rs', ?_, h2⟩
          have e1 : ¬ (u.cells.size ≠ size) := by omega
          have e2 : ¬ (off + u.cells.size > cs'.size) := by omega
          simp only [Instr.fill, hpl]
          simp only [Bool.or_eq_true, decide_eq_true_eq, e1, e2, or_self, if_false, decide_false, Bool.or_false, Bool.false_eq_true]
          rw [fold_wr']
          exact h1
        · cases h

theorem evp_spec {τ : Tm} : ∀ (ps : List (Nat × Operand)) (acc : List (Nat × Value)) (K : List (Nat × Value) → Prop), evp τ ps acc K →
    ∃ pvs, K (acc ++ pvs) ∧ ∀ (μ : Mu) (A : Hp) (ρ : Operand → Value), (∀ x ∈ ps.map (·.2), ∀ u, ev τ x = some u → VR μ A u (ρ x)) → PR μ A pvs (ps.map fun p => (p.1, ρ p.2))
  | [], acc, K, h => ⟨[], by rw [List.append_nil]; exact h, fun _ _ _ _ => trivial⟩
  | (i, x) :: ps, acc, K, h => by
    obtain ⟨v, hv, h⟩ := h
    obtain ⟨pvs, hK, hr⟩ := evp_spec ps _ K h
    refine ⟨(i, v) :: pvs, by simpa using hK, fun μ A ρ hop => ⟨rfl, hop x (by simp) v hv, hr μ A ρ fun y hy u hu => hop y (by simp at hy ⊢; exact .inr hy) u hu⟩⟩

theorem evs_spec {τ : Tm} : ∀ (xs : List Operand) (acc : List Value) (K : List Value → Prop), evs τ xs acc K →
    ∃ vs, K (acc ++ vs) ∧ ∀ (μ : Mu) (A : Hp) (ρ : Operand → Value), (∀ x ∈ xs, ∀ u, ev τ x = some u → VR μ A u (ρ x)) → VRa μ A vs.toArray (xs.map ρ).toArray
  | [], acc, K, h => ⟨[], by rw [List.append_nil]; exact h, fun _ _ _ _ => ⟨rfl, fun i hi => by simp at hi⟩⟩
  | x :: xs, acc, K, h => by
    obtain ⟨v, hv, h⟩ := h
    obtain ⟨vs, hK, hr⟩ := evs_spec xs _ K h
    refine ⟨v :: vs, by simpa using hK, fun μ A ρ hop => ?_⟩
    have ih := hr μ A ρ fun y hy u hu => hop y (by simp [hy]) u hu
    refine ⟨by have := ih.1; simpa using this, fun i hi hi' => ?_⟩
    cases i with
    | zero => simpa using hop x (by simp) v hv
    | succ i => have := ih.2 i (by simpa using hi) (by simpa using hi'); simpa using this

theorem ok_build_st {t : TypeId} {ps : Array (Nat × Operand)} (ho : o.op = .build t ps) {T : Ty} (hT : tyOf P t = some T) (hz : ∀ (μ : Mu) (A : Hp), ∀ u ∈ T.zero, VR μ A u u) {fs : List (Nat × Nat × TypeId)} (hd : T.d = .st fs)
    {pvs : List (Nat × Value)}
    (hp : ∀ (μ : Mu) (A : Hp) (ρ : Operand → Value), (∀ x ∈ ps.toList.map (·.2), ∀ u, ev τ x = some u → VR μ A u (ρ x)) → PR μ A pvs (ps.toList.map fun p => (p.1, ρ p.2)))
    {cs : List Value} (hb : buildL (fun i => (fs[i]?).map fun f => (f.1, f.2.1)) T.zero pvs = some cs) : OpOK P G o fl τ A (.agg cs.toArray) A :=
  .same fun μ w a H hop => by
    obtain ⟨inf, d, z, hi, hund, hz', rfl⟩ := tyOf_inv hT
    obtain ⟨gs, rfl, hty, rfl⟩ := td_st hd
    have hpr := hp μ A a.eval fun x hx => hop x (by simpa [ho, Op.operands] using hx)
    have hzr : VRa μ A z.cells.toList.toArray z.cells := by
      refine ⟨by simp, fun i h1 h2 => ?_⟩
      exact hz μ A _ (List.getElem_mem (l := z.cells.toList) (by simpa using h1))
    obtain ⟨rs', h1, h2⟩ := fill_rel _ _ _ _ _ _ hpr hzr hb
    refine ⟨.agg rs', ?_, .agg h2.1 h2.2⟩
    have hplaces : ∀ (l : List Field), (∀ f ∈ l, (P.info? f.type).isSome = true) → (l.mapM (fun f => (do pure (f.offset, ← sizeOf f.type) : Sem (Nat × Nat)))).run P w = .ok (l.map fun f => (f.offset, sizeB P f.type)) w := by
      intro l hl
      induction l with
      | nil => simp
      | cons f l ih =>
        obtain ⟨j, hj⟩ := Option.isSome_iff_exists.1 (hl f (by simp))
        have := ih fun g hg => hl g (by simp [hg])
        simp only [List.mapM_cons, Sem.run_bind, run_sizeOf' hj, Result.andThen_ok, this, Sem.run_pure, List.map_cons, sizeB, hj, Option.map_some, Option.getD_some]
    have hpl := hplaces gs.toList hty
    have hmap : (gs.mapM (fun f => (do pure (f.offset, ← sizeOf f.type) : Sem (Nat × Nat)))).run P w = .ok ((gs.toList.map fun f => (f.offset, sizeB P f.type)).toArray) w := by
      rw [Array.mapM_eq_mapM_toList, Sem.run_map, hpl]; rfl
    have hfill : Instr.fill (fun i => ((gs.toList.map fun f => (f.offset, sizeB P f.type)).toArray)[i]?) z.cells (ps.map fun x => (x.1, a.eval x.2)).toList = some rs' := by
      rw [← h1, Array.toList_map]
      congr 1
      funext i
      simp only [List.getElem?_toArray, List.getElem?_map, Option.map_map]
      rfl
    simp only [execOp, ho, Instr.build, Sem.run_bind, run_zero' hi hz', Result.andThen_ok, run_underlying hund, hmap, hfill, Sem.run_pure]

theorem ok_build_arr {t : TypeId} {ps : Array (Nat × Operand)} (ho : o.op = .build t ps) {T : Ty} (hT : tyOf P t = some T) (hz : ∀ (μ : Mu) (A : Hp), ∀ u ∈ T.zero, VR μ A u u) {n : Nat} {e : TypeId} (hd : T.d = .arr n e)
    {E : Ty} (hE : tyOf P e = some E) {pvs : List (Nat × Value)}
    (hp : ∀ (μ : Mu) (A : Hp) (ρ : Operand → Value), (∀ x ∈ ps.toList.map (·.2), ∀ u, ev τ x = some u → VR μ A u (ρ x)) → PR μ A pvs (ps.toList.map fun p => (p.1, ρ p.2)))
    {cs : List Value} (hb : buildL (fun i => some (i * E.size, E.size)) T.zero pvs = some cs) : OpOK P G o fl τ A (.agg cs.toArray) A :=
  .same fun μ w a H hop => by
    obtain ⟨inf, d, z, hi, hund, hz', rfl⟩ := tyOf_inv hT
    obtain ⟨ie, de, ze, hie, hde, hze, rfl⟩ := tyOf_inv hE
    have hd' := td_arr hd; subst hd'
    have hpr := hp μ A a.eval fun x hx => hop x (by simpa [ho, Op.operands] using hx)
    have hzr : VRa μ A z.cells.toList.toArray z.cells := by
      refine ⟨by simp, fun i h1 h2 => ?_⟩
      exact hz μ A _ (List.getElem_mem (l := z.cells.toList) (by simpa using h1))
    obtain ⟨rs', h1, h2⟩ := fill_rel _ _ _ _ _ _ hpr hzr hb
    refine ⟨.agg rs', ?_, .agg h2.1 h2.2⟩
    have hfill : Instr.fill (fun i => some (i * ie.size, ie.size)) z.cells (ps.map fun x => (x.1, a.eval x.2)).toList = some rs' := by
      rw [← h1, Array.toList_map]
    simp only [execOp, ho, Instr.build, Sem.run_bind, run_zero' hi hz', Result.andThen_ok, run_underlying hund, run_sizeOf' hie, hfill, Sem.run_pure]

end
end Go.Proofs.Ytiiapkhdjchhjaa.Ab

/- Each operation of the abstract machine is sound: new rows, conversions, slices, append, calls; and all of them in one theorem. -/
namespace Go.Proofs.Ytiiapkhdjchhjaa.Ab
open Go.RowKit
set_option linter.unusedVariables false
set_option linter.unusedSimpArgs false

section
variable {P : Program} {G : Gl} {fl : Nat} {τ : Tm} {A : Hp} {o : Oper}

theorem VR.of_zc {μ : Mu} {A : Hp} {v : Value} (h : zc v = true) : VR μ A v v := by
  cases v with
  | bool b => exact .bool b
  | int k n => exact .int k n
  | float k n => exact .float k n
  | string s => exact .string s
  | pointer a => cases a with | none => exact .ptr0 | some a => simp [zc] at h
  | slice a n c => cases a with | none => exact .sl0 n c | some a => simp [zc] at h
  | map r => cases r with | none => exact .map0 | some a => simp [zc] at h
  | nilFunc => exact .nilFunc
  | nilIface => exact .nilIface
  | _ => simp [zc] at h

theorem zl_zc {zero : List Value} (h : zero.all zc = true) (n : Nat) : ∀ v ∈ zl zero n, zc v = true := by
  intro v hv
  simp only [zl, List.mem_map] at hv
  obtain ⟨j, _, rfl⟩ := hv
  rw [List.getD_eq_getElem?_getD]
  cases hx : zero[j % zero.length]? with
  | none => rfl
  | some u => exact List.all_eq_true.1 h u (List.mem_of_getElem? hx)

theorem madeCells_zl (z : Array Value) (n : Nat) : (madeCells z n).toList = zl z.toList n := by
  simp only [madeCells, zl, Array.toList_map, Array.toList_range, Array.length_toList]
  congr 1
  funext j
  rw [List.getD_eq_getElem?_getD, Array.getElem?_toList]
  simp [Array.getElem!_eq_getD, Array.getD_eq_getD_getElem?]

theorem self_rel {μ : Mu} {A : Hp} {l : List Value} (h : ∀ v ∈ l, zc v = true) : VRa μ A l.toArray l.toArray :=
  ⟨rfl, fun i hi hi' => VR.of_zc (h _ (List.getElem_mem _))⟩

theorem ok_buildSlice {t : TypeId} {len : Nat} {ps : Array (Nat × Operand)} (ho : o.op = .buildSlice t len ps) {T : Ty} (hT : tyOf P t = some T) {e : TypeId} {E : Ty} (hd : T.d = .sl e) (hE : tyOf P e = some E)
    (hz : E.zero.all zc = true) (h24 : len * E.size ≤ 16777216) {pvs : List (Nat × Value)}
    (hp : ∀ (μ : Mu) (A : Hp) (ρ : Operand → Value), (∀ x ∈ ps.toList.map (·.2), ∀ u, ev τ x = some u → VR μ A u (ρ x)) → PR μ A pvs (ps.toList.map fun p => (p.1, ρ p.2)))
    {cs : List Value} (hb : buildL (fun i => some (i * E.size, E.size)) (zl E.zero (len * E.size)) pvs = some cs) :
    OpOK P G o fl τ A (.slice (some ⟨A.next, 0, some 0⟩) len len) (A.push (.row cs 0 E.size)) := by
  obtain ⟨inf, d, z, hi, hund, hz', rfl⟩ := tyOf_inv hT
  obtain ⟨ie, de, ze, hie, hde, hze, rfl⟩ := tyOf_inv hE
  have hd' := td_sl hd; subst hd'
  simp only at hb hz h24
  have hlen : ∀ (ps : List (Nat × Value)) (pl : Nat → Option (Nat × Nat)) (xs ys : List Value), buildL pl xs ps = some ys → ys.length = xs.length := by
    intro ps
    induction ps with
    | nil => intro pl xs ys h; simp only [buildL, Option.some.injEq] at h; rw [h]
    | cons p ps ih =>
      intro pl xs ys h
      obtain ⟨i, v⟩ := p
      simp only [buildL] at h
      split at h
      · cases h
      · split at h
        · rw [ih _ _ _ h, wr_length]
        · cases h
  refine .make (n := len) (c := len) (.inr ⟨rfl, Nat.le_refl _⟩) fun μ w a H hop => ?_
  have hpr := hp μ A a.eval fun x hx => hop x (by simpa [ho, Op.operands] using hx)
  have hmc : ((Array.range (len * ie.size)).map fun x => (if len * ie.size = 0 then #[] else ze.cells)[x % (if len * ie.size = 0 then #[] else ze.cells).size]!) = madeCells ze.cells (len * ie.size) := by
    by_cases h0 : len * ie.size = 0
    · simp [h0, madeCells]
    · simp [h0, madeCells]
  have hrel : VRa μ A (zl ze.cells.toList (len * ie.size)).toArray (madeCells ze.cells (len * ie.size)) := by
    have h0 := self_rel (μ := μ) (A := A) (zl_zc hz (len * ie.size))
    have e1 : (zl ze.cells.toList (len * ie.size)).toArray = madeCells ze.cells (len * ie.size) := by rw [← madeCells_zl]
    rw [e1] at h0 ⊢
    exact h0
  obtain ⟨rs', h1, h2⟩ := fill_rel _ _ _ _ _ _ hpr hrel hb
  have hsz : cs.length = rs'.size := by have := h2.1; simpa using this
  have hcl : cs.length = len * ie.size := by rw [hlen _ _ _ _ hb]; simp [zl]
  refine ⟨rs', e, (0, 0), w.alloc (.cells rs' e (0, 0)), len, by omega, fun j u hj => h2.get (by simpa using hj), by simp, rfl, rfl, rfl, rfl, Nat.le_refl _, by simp only; omega, ?_⟩
  have hfill : Instr.fill (fun i => some (i * ie.size, ie.size)) (madeCells ze.cells (len * ie.size)) (ps.map fun x => (x.1, a.eval x.2)).toList = some rs' := by
    rw [← h1, Array.toList_map]
  have hnot : ¬ (len * ie.size > 2 ^ 24) := by omega
  by_cases h0 : len * ie.size = 0
  · simp only [if_pos h0] at hmc
    simp [execOp, ho, Instr.buildSlice, run_underlying hund, run_sizeOf' hie, h0, newRow]
    rw [h0] at hfill
    have hm2 : (madeCells ze.cells 0) = #[] := by simp [madeCells]
    rw [hm2] at hfill
    rw [Array.toList_map] at hfill
    have hr0 : Array.map (fun x : Nat => (default : Value)) (Array.range 0) = #[] := by simp
    rw [hr0, hfill]
    simp
  · simp only [if_neg h0] at hmc
    have hn2 : ¬ (16777216 < len * ie.size) := by omega
    rw [Array.toList_map] at hfill
    simp [execOp, ho, Instr.buildSlice, run_underlying hund, run_sizeOf' hie, h0, hn2, run_zero' hie hze, newRow, hmc, hfill]

theorem ok_makeSlice {t : TypeId} {x y : Operand} (ho : o.op = .makeSlice t x y) {T : Ty} (hT : tyOf P t = some T) {e : TypeId} {E : Ty} (hd : T.d = .sl e) (hE : tyOf P e = some E)
    (hz : E.zero.all zc = true) {k k' : IntKind} {l c : Int} (hx : ev τ x = some (.int k l)) (hy : ev τ y = some (.int k' c)) (h0 : 0 ≤ l) (hlc : l ≤ c) (hbytes : (E.bytes : Int) * c ≤ 281474976710656) (h63 : c ≤ 9223372036854775807) :
    OpOK P G o fl τ A (.slice (some ⟨A.next, 0, some 0⟩) l.toNat c.toNat) (A.push (.row (zl E.zero (c.toNat * E.size)) 0 E.size)) := by
  obtain ⟨inf, d, z, hi, hund, hz', rfl⟩ := tyOf_inv hT
  obtain ⟨ie, de, ze, hie, hde, hze, rfl⟩ := tyOf_inv hE
  have hd' := td_sl hd; subst hd'
  simp only at hbytes hz
  refine .make (n := l.toNat) (c := c.toNat) (.inr ⟨rfl, by omega⟩) fun μ w a H hop => ?_
  have h1 := (hop x (by simp [ho, Op.operands]) _ hx).int_inv
  have h2 := (hop y (by simp [ho, Op.operands]) _ hy).int_inv
  have hr := run_make (P := P) w t e ie ze hund hie hze k k' l c h0 hlc hbytes h63
  have hrel := self_rel (μ := μ) (A := A) (zl_zc hz (c.toNat * ie.size))
  refine ⟨madeCells ze.cells (c.toNat * ie.size), e, (0, 0), w.alloc (.cells (madeCells ze.cells (c.toNat * ie.size)) e), c.toNat, by simp [zl, size_madeCells], fun j u hj => ?_, by simp, rfl, rfl, rfl, rfl, Nat.le_refl _, by simp [size_madeCells], ?_⟩
  · refine ⟨u, ?_, VR.of_zc (zl_zc hz _ u (List.mem_of_getElem? hj))⟩
    rw [← Array.getElem?_toList, madeCells_zl]; exact hj
  · simp only [execOp, ho, h1, h2, Sem.run_bind, hr, Result.andThen_ok, Sem.run_pure]

theorem ok_makeFunc {f : FuncId} {xs ys : Array Operand} (ho : o.op = .makeFunc (.func f) xs ys) {us vs : List Value}
    (hu : ∀ (μ : Mu) (A : Hp) (ρ : Operand → Value), (∀ x ∈ xs.toList, ∀ u, ev τ x = some u → VR μ A u (ρ x)) → VRa μ A us.toArray (xs.toList.map ρ).toArray)
    (hv : ∀ (μ : Mu) (A : Hp) (ρ : Operand → Value), (∀ x ∈ ys.toList, ∀ u, ev τ x = some u → VR μ A u (ρ x)) → VRa μ A vs.toArray (ys.toList.map ρ).toArray) :
    OpOK P G o fl τ A (.func (.func f) us.toArray vs.toArray) A :=
  .same fun μ w a H hop => by
    have h1 := hu μ A a.eval fun x hx => hop x (by simp [ho, Op.operands]; exact .inl (by simpa using hx))
    have h2 := hv μ A a.eval fun x hx => hop x (by simp [ho, Op.operands]; exact .inr (by simpa using hx))
    refine ⟨.func (.func f) (xs.map a.eval) (ys.map a.eval), by simp [execOp, ho, Instr.makeFunc], .func _ ?_ ?_ ?_ ?_⟩
    · have := h1.1; simpa using this
    · intro i hi hi'; have := h1.2 i hi (by simpa using hi'); simpa using this
    · have := h2.1; simpa using this
    · intro i hi hi'; have := h2.2 i hi (by simpa using hi'); simpa using this

/-! conversions -/
theorem ok_conv_int {s d : TypeId} {x : Operand} (ho : o.op = .convert s d x) {S D : Ty} (hS : tyOf P s = some S) (hD : tyOf P d = some D) {k k' : IntKind} {n : Int} (hd : D.d = .int k) (hx : ev τ x = some (.int k' n)) :
    OpOK P G o fl τ A (.int k (k.wrap n)) A :=
  .same fun μ w a H hop => by
    obtain ⟨i1, d1, z1, hi1, hu1, _, rfl⟩ := tyOf_inv hS
    obtain ⟨i2, d2, z2, hi2, hu2, _, rfl⟩ := tyOf_inv hD
    have hd' := td_int hd; subst hd'
    have h := (hop x (by simp [ho, Op.operands]) _ hx).int_inv
    exact ⟨_, by simp [execOp, ho, h, convert, run_underlying hu1, run_underlying hu2, Conv.intToInt], .int _ _⟩

theorem ok_conv_str {s d : TypeId} {x : Operand} (ho : o.op = .convert s d x) {S D : Ty} (hS : tyOf P s = some S) (hD : tyOf P d = some D) {b : ByteArray} (hd : D.d = .str) (hx : ev τ x = some (.string b)) :
    OpOK P G o fl τ A (.string b) A :=
  .same fun μ w a H hop => by
    obtain ⟨i1, d1, z1, hi1, hu1, _, rfl⟩ := tyOf_inv hS
    obtain ⟨i2, d2, z2, hi2, hu2, _, rfl⟩ := tyOf_inv hD
    have hd' := td_str hd; subst hd'
    have h := (hop x (by simp [ho, Op.operands]) _ hx).string_inv
    exact ⟨_, by simp [execOp, ho, h, convert, run_underlying hu1, run_underlying hu2], .string _⟩

theorem ok_conv_bytes {s d : TypeId} {x : Operand} (ho : o.op = .convert s d x) {S D : Ty} (hS : tyOf P s = some S) (hD : tyOf P d = some D) {e : TypeId} {E : Ty} {b : ByteArray} (hs : S.d = .str) (hd : D.d = .sl e) (hE : tyOf P e = some E) (he : E.d = .int .u8) (hx : ev τ x = some (.string b)) :
    OpOK P G o fl τ A (.slice (some ⟨A.next, 0, some 0⟩) b.size b.size) (A.push (.row (b.data.toList.map fun c => Value.int .u8 (c.toNat : Int)) 0 1)) := by
  obtain ⟨i1, d1, z1, hi1, hu1, _, rfl⟩ := tyOf_inv hS
  obtain ⟨i2, d2, z2, hi2, hu2, _, rfl⟩ := tyOf_inv hD
  obtain ⟨i3, d3, z3, hi3, hu3, _, rfl⟩ := tyOf_inv hE
  have hs' := td_str hs; subst hs'
  have hd' := td_sl hd; subst hd'
  have he' := td_int he; subst he'
  refine .make (n := b.size) (c := b.size) (.inr ⟨rfl, Nat.le_refl _⟩) fun μ w a H hop => ?_
  have h := (hop x (by simp [ho, Op.operands]) _ hx).string_inv
  have hr := run_bytes_of_string (P := P) w s d e b hu1 hu2 hu3
  have hge := grownCap_ge w b.size 0 e
  have hsz : (bytesRow b (grownCap w b.size 0 e)).size = grownCap w b.size 0 e := by
    simp only [bytesRow, Array.size_append, Array.size_map, Array.size_replicate]
    have : b.data.size = b.size := rfl
    omega
  refine ⟨bytesRow b (grownCap w b.size 0 e), e, ((bytesRow b (grownCap w b.size 0 e)).size, (bytesRow b (grownCap w b.size 0 e)).size + 1), w.drew.alloc (.cells (bytesRow b (grownCap w b.size 0 e)) e ((bytesRow b (grownCap w b.size 0 e)).size, (bytesRow b (grownCap w b.size 0 e)).size + 1)), grownCap w b.size 0 e, ?_, fun j u hj => ?_, fun j hj => ?_, rfl, rfl, rfl, rfl, hge, ?_, ?_⟩
  · simp only [List.length_map, Array.length_toList, hsz]
    exact hge
  · refine ⟨u, ?_, ?_⟩
    · have hjl : j < b.data.size := by have := (List.getElem?_eq_some_iff.1 hj).1; simpa using this
      rw [bytesRow_at _ _ _ hjl]
      simp only [List.getElem?_map, Array.getElem?_toList, Array.getElem?_eq_getElem hjl, Option.map_some] at hj
      exact hj
    · simp only [List.getElem?_map] at hj
      cases hq : b.data.toList[j]? with
      | none => simp [hq] at hj
      | some q => simp only [hq, Option.map_some, Option.some.injEq] at hj; subst hj; exact .int _ _
  · exact fun hh => by have := hh.1; simp only at this; omega
  · rw [hsz]; omega
  · simp only [execOp, ho, h, Sem.run_bind, hr, Result.andThen_ok, Sem.run_pure]

theorem ok_conv_back {s d : TypeId} {x : Operand} (ho : o.op = .convert s d x) {S D : Ty} (hS : tyOf P s = some S) (hD : tyOf P d = some D) {e : TypeId} {E : Ty} (hs : S.d = .sl e) (hd : D.d = .str) (hE : tyOf P e = some E) (he : E.d = .int .u8)
    {a : Addr} {n c : Nat} {l : List UInt8} (hx : ev τ x = some (.slice (some a) n c)) (hsp : a.spot ≠ none) (hl : l.length = n) (hc : ∀ (j : Nat) (u : UInt8), l[j]? = some u → A.get G (aadd a j) = some (.int .u8 (u.toNat : Int))) :
    OpOK P G o fl τ A (.string ⟨l.toArray⟩) A :=
  .same fun μ w ac H hop => by
    obtain ⟨i1, d1, z1, hi1, hu1, _, rfl⟩ := tyOf_inv hS
    obtain ⟨i2, d2, z2, hi2, hu2, _, rfl⟩ := tyOf_inv hD
    obtain ⟨i3, d3, z3, hi3, hu3, _, rfl⟩ := tyOf_inv hE
    have hs' := td_sl hs; subst hs'
    have hd' := td_str hd; subst hd'
    have he' := td_int he; subst he'
    have h := hop x (by simp [ho, Op.operands]) _ hx
    cases hxe : ac.eval x with
    | slice a' n' c' =>
      rw [hxe] at h
      cases h with
      | @sl _ a' _ _ _ hlt hcc hn hl' =>
        refine ⟨_, ?_, .string _⟩
        have har : n ≠ 0 → AR μ A a a' := fun hn0 => by
          obtain ⟨g', hg', hl'⟩ := hl'
          refine .inr ⟨hlt, g', hg', fun cs g e hb => ⟨(hl' cs g e hb).1, fun hgg => ?_⟩⟩
          obtain ⟨b, o, S, hm, hh⟩ := (hl' cs g e hb).2 hgg
          exact ⟨b, o, S, hm, (hh (by omega)).1⟩
        have hr := run_convert_bytes_back (P := P) w s d e a' c' l hu1 hu3 hu2 (fun j hj => by
          obtain ⟨v', h1, h2⟩ := H.get ((har (by omega)).add j) (hc j _ (List.getElem?_eq_getElem hj))
          rw [h1, h2.int_inv])
        rw [hl] at hr
        simp only [execOp, ho, hxe, Sem.run_bind, hr, Result.andThen_ok, Sem.run_pure]
    | _ => rw [hxe] at h; cases h

theorem ok_conv_back_nil {s d : TypeId} {x : Operand} (ho : o.op = .convert s d x) {S D : Ty} (hS : tyOf P s = some S) (hD : tyOf P d = some D) {e : TypeId} {E : Ty} (hs : S.d = .sl e) (hd : D.d = .str) (hE : tyOf P e = some E) (he : E.d = .int .u8)
    {n c : Nat} (hx : ev τ x = some (.slice none n c)) : OpOK P G o fl τ A (.string ByteArray.empty) A :=
  .same fun μ w ac H hop => by
    obtain ⟨i1, d1, z1, hi1, hu1, _, rfl⟩ := tyOf_inv hS
    obtain ⟨i2, d2, z2, hi2, hu2, _, rfl⟩ := tyOf_inv hD
    obtain ⟨i3, d3, z3, hi3, hu3, _, rfl⟩ := tyOf_inv hE
    have hs' := td_sl hs; subst hs'
    have hd' := td_str hd; subst hd'
    have he' := td_int he; subst he'
    have h := (hop x (by simp [ho, Op.operands]) _ hx).sl0_inv
    exact ⟨_, by simp [execOp, ho, h, convert, run_underlying hu1, run_underlying hu2, run_underlying hu3, Conv.bytesToString], .string _⟩

end
end Go.Proofs.Ytiiapkhdjchhjaa.Ab

/- Each operation of the abstract machine is sound: slices, append, calls; and all of them in one theorem. -/
namespace Go.Proofs.Ytiiapkhdjchhjaa.Ab
open Go.RowKit
set_option linter.unusedVariables false
set_option linter.unusedSimpArgs false

section
variable {P : Program} {G : Gl} {fl : Nat} {τ : Tm} {A : Hp} {o : Oper}

/-- A bound of a slice expression, in the abstract and in the world. -/
def LoOf (x : Option Value) (l : Nat) : Prop := (x = none ∧ l = 0) ∨ ∃ k, x = some (.int k (l : Int))
def HiOf (x : Option Value) (h : Option Nat) : Prop := (x = none ∧ h = none) ∨ ∃ (k : IntKind) (m : Nat), x = some (.int k (m : Int)) ∧ h = some m

theorem alo_spec {lo : Option Operand} {K : Nat → Prop} (h : alo τ lo K) : ∃ l, K l ∧ ∀ (μ : Mu) (A : Hp) (ρ : Operand → Value), (∀ x ∈ lo.toArray, ∀ u, ev τ x = some u → VR μ A u (ρ x)) → LoOf (lo.map ρ) l := by
  cases lo with
  | none => exact ⟨0, h, fun _ _ _ _ => .inl ⟨rfl, rfl⟩⟩
  | some i =>
    obtain ⟨k, x, hx, h0, hK⟩ := h
    refine ⟨_, hK, fun μ A ρ hop => .inr ⟨k, ?_⟩⟩
    have := (hop i (by simp) _ hx).int_inv
    rw [Option.map_some, this, Int.toNat_of_nonneg h0]

theorem ahi_spec {hi : Option Operand} {K : Option Nat → Prop} (h : ahi τ hi K) : ∃ l, K l ∧ ∀ (μ : Mu) (A : Hp) (ρ : Operand → Value), (∀ x ∈ hi.toArray, ∀ u, ev τ x = some u → VR μ A u (ρ x)) → HiOf (hi.map ρ) l := by
  cases hi with
  | none => exact ⟨none, h, fun _ _ _ _ => .inl ⟨rfl, rfl⟩⟩
  | some i =>
    obtain ⟨k, x, hx, h0, hK⟩ := h
    refine ⟨_, hK, fun μ A ρ hop => .inr ⟨k, x.toNat, ?_, rfl⟩⟩
    have := (hop i (by simp) _ hx).int_inv
    rw [Option.map_some, this, Int.toNat_of_nonneg h0]

theorem run_bounds {isS : Bool} {len cap l : Nat} {h : Option Nat} {lo hi : Option Value} (hl : LoOf lo l) (hh : HiOf hi h) (h1 : l ≤ h.getD len) (h2 : h.getD len ≤ cap) (w : World) :
    (Instr.sliceBounds isS len cap lo hi none).run P w = .ok (l, h.getD len, cap) w := by
  have b0 : ∀ (k : IntKind) (x y : Nat) (c : BoundsCode) (w : World), x ≤ y → (Instr.sliceBound (.int k (x : Int)) y c).run P w = .ok x w := fun k x y c w hxy => by
    have : (0 : Int) ≤ (x : Int) ∧ (x : Int) ≤ (y : Int) := by omega
    simp [Instr.sliceBound, asIntOf, this]
  rcases hl with ⟨rfl, rfl⟩ | ⟨k, rfl⟩ <;> rcases hh with ⟨rfl, rfl⟩ | ⟨k', m, rfl, rfl⟩ <;> simp only [Option.getD_none, Option.getD_some] at h1 h2 ⊢
  · simp [Instr.sliceBounds]
  · simp [Instr.sliceBounds, b0 _ _ _ _ _ h2]
  · simp [Instr.sliceBounds, b0 _ _ _ _ _ h1]
  · simp [Instr.sliceBounds, b0 _ _ _ _ _ h1, b0 _ _ _ _ _ h2]

theorem ok_slice {t : TypeId} {x : Operand} {lo hi : Option Operand} (ho : o.op = .slice t x lo hi none) {v : Value} (hx : ev τ x = some v) {l : Nat} {h : Option Nat}
    (hl : ∀ (μ : Mu) (A : Hp) (ρ : Operand → Value), (∀ x ∈ lo.toArray, ∀ u, ev τ x = some u → VR μ A u (ρ x)) → LoOf (lo.map ρ) l)
    (hh : ∀ (μ : Mu) (A : Hp) (ρ : Operand → Value), (∀ x ∈ hi.toArray, ∀ u, ev τ x = some u → VR μ A u (ρ x)) → HiOf (hi.map ρ) h)
    {K : Value → Prop} (hs : aslice P A t v l h K) : ∃ r, K r ∧ OpOK P G o fl τ A r A := by
  have opl : ∀ {μ : Mu} {ac : Act}, (∀ x ∈ o.op.operands, ∀ u, ev τ x = some u → VR μ A u (ac.eval x)) → LoOf (lo.map ac.eval) l := fun {μ ac} hop =>
    hl μ A ac.eval fun y hy => hop y (by rw [ho]; simp only [Op.operands, Array.mem_append]; exact .inl (.inl (.inr hy)))
  have oph : ∀ {μ : Mu} {ac : Act}, (∀ x ∈ o.op.operands, ∀ u, ev τ x = some u → VR μ A u (ac.eval x)) → HiOf (hi.map ac.eval) h := fun {μ ac} hop =>
    hh μ A ac.eval fun y hy => hop y (by rw [ho]; simp only [Op.operands, Array.mem_append]; exact .inl (.inr hy))
  have opx : ∀ {μ : Mu} {ac : Act}, (∀ x ∈ o.op.operands, ∀ u, ev τ x = some u → VR μ A u (ac.eval x)) → VR μ A v (ac.eval x) := fun hop => hop x (by simp [ho, Op.operands]) v hx
  rcases hs with ⟨s, rfl, hT, h1, h2, hK⟩ | ⟨n, c, rfl, ⟨e, T, hT, hE⟩, rfl, h1, rfl, rfl, hK⟩ | ⟨a, n, c, e, T, rfl, hT, hE, h1, h2, he, hK⟩ | ⟨a, n, e, T, g, cs, e', rfl, hT, hE, h1, h2, hsp, hb, rfl, hlen, hK⟩
  · refine ⟨_, hK, .same fun μ w ac H hop => ⟨.string (s.extract l (h.getD s.size)), ?_, .string _⟩⟩
    cases hTy : tyOf P t with
    | none => simp [hTy] at hT
    | some T =>
      obtain ⟨i, d, z, hi', hu, _, rfl⟩ := tyOf_inv hTy
      simp only [hTy, Option.map_some, Option.some.injEq] at hT
      have := td_str hT; subst this
      have hb := run_bounds (P := P) (isS := false) (opl hop) (oph hop) h1 h2 w
      simp [execOp, ho, (opx hop).string_inv, Instr.sliceAt, run_underlying hu, Instr.slice, hb]
  · refine ⟨_, hK, .same fun μ w ac H hop => ⟨.slice none 0 0, ?_, .sl0 _ _⟩⟩
    cases hTy : tyOf P t with
    | none => simp [hTy] at hT
    | some T' =>
      obtain ⟨i, d, z, hi', hu, _, rfl⟩ := tyOf_inv hTy
      obtain ⟨ie, de, ze, hie, hue, _, rfl⟩ := tyOf_inv hE
      simp only [hTy, Option.map_some, Option.some.injEq] at hT
      have := td_sl hT; subst this
      have hb := run_bounds (P := P) (isS := true) (opl hop) (oph hop) (by omega) (show h.getD 0 ≤ 0 by omega) w
      simp [execOp, ho, (opx hop).sl0_inv, Instr.sliceAt, run_underlying hu, Instr.slice, hb, run_sizeOf' hie, h1]
  · refine ⟨_, hK, .same fun μ w ac H hop => ?_⟩
    cases hTy : tyOf P t with
    | none => simp [hTy] at hT
    | some T' =>
      obtain ⟨i, d, z, hi', hu, _, rfl⟩ := tyOf_inv hTy
      obtain ⟨ie, de, ze, hie, hue, _, rfl⟩ := tyOf_inv hE
      simp only [hTy, Option.map_some, Option.some.injEq] at hT
      have := td_sl hT; subst this
      simp only at he
      have hv := opx hop
      cases hxe : ac.eval x with
      | slice a' n' c' =>
        rw [hxe] at hv
        cases hv with
        | @sl _ a' _ _ _ hlt hcc hn hl' =>
          have hle : h.getD n ≤ c' := by omega
          have hb := run_bounds (P := P) (isS := true) (opl hop) (oph hop) h1 hle w
          refine ⟨.slice (some (if c' = l then a' else a'.add (l * ie.size))) (h.getD n - l) (c' - l), ?_, .sl hlt (by omega) (by omega) ?_⟩
          · simp [execOp, ho, hxe, Instr.sliceAt, run_underlying hu, Instr.slice, hb, run_sizeOf' hie]
            split <;> rfl
          · obtain ⟨g', hg', hl'⟩ := hl'
            refine ⟨g', hg', fun cs g e2 hbk => ⟨(hl' cs g e2 hbk).1, fun hgg => ?_⟩⟩
            obtain ⟨b, ob, S, hm, hplace⟩ := (hl' cs g e2 hbk).2 hgg
            refine ⟨b, ob, S, hm, fun hne => ?_⟩
            obtain ⟨rfl, hS⟩ := hplace (by omega)
            have hes := he cs g e2 hbk
            subst hes
            rw [if_neg (by omega)]
            refine ⟨?_, ?_⟩
            · unfold Addr.add aadd
              split
              · rename_i h0; simp [h0]
              · simp [Nat.add_assoc]
            · simp only [aadd]
              have : c' * ie.size = l * ie.size + (c' - l) * ie.size := by rw [← Nat.add_mul]; congr 1; omega
              omega
      | _ => rw [hxe] at hv; cases hv
  · refine ⟨_, hK, .same fun μ w ac H hop => ?_⟩
    cases hTy : tyOf P t with
    | none => simp [hTy] at hT
    | some T' =>
      obtain ⟨i, d, z, hi', hu, _, rfl⟩ := tyOf_inv hTy
      obtain ⟨ie, de, ze, hie, hue, _, rfl⟩ := tyOf_inv hE
      simp only [hTy, Option.map_some, Option.some.injEq] at hT
      have := td_arr hT; subst this
      simp only at hlen hb
      obtain ⟨p', hp', har⟩ := (opx hop).ptr_inv
      obtain ⟨b, ob, S, hm, rfl⟩ := har.live hsp hb
      obtain ⟨c, tt, fr, hw, hS, hle, _⟩ := H.row _ _ _ _ _ _ _ hb hm
      have hbd := run_bounds (P := P) (isS := false) (opl hop) (oph hop) h1 h2 w
      refine ⟨.slice (some (if n = l then ⟨b, ob + a.off, none⟩ else (⟨b, ob + a.off, none⟩ : Addr).add (l * ie.size))) (h.getD n - l) (n - l), ?_, .sl ?_ (Nat.le_refl _) (by omega) ?_⟩
      · simp [execOp, ho, hp', Instr.sliceAt, run_underlying hu, Instr.sureAddr, hbd, run_sizeOf' hie]
      · rcases Nat.lt_or_ge a.block A.next with hh | hh
        · exact hh
        · rw [H.wf _ hh] at hb; cases hb
      · refine ⟨g, hsp, fun cs2 g2 e2 hb2 => ?_⟩
        simp only [aadd] at hb2
        rw [hb] at hb2; cases hb2
        refine ⟨Nat.le_refl _, fun _ => ⟨b, ob, S, hm, fun hne => ⟨?_, ?_⟩⟩⟩
        · rw [if_neg (by omega)]
          unfold Addr.add aadd
          split
          · rename_i h0; simp [h0]
          · simp [Nat.add_assoc]
        · simp only [aadd]
          have : n * ie.size = l * ie.size + (n - l) * ie.size := by rw [← Nat.add_mul]; congr 1; omega
          omega

/-! calls -/
theorem ok_call {c : Call} {f : Operand} (ho : o.op = .call c) (hc : c.callee = .value f) {fid : FuncId} {first captured : Array Value} (hf : ev τ f = some (.func (.func fid) first captured)) {xs : List Value}
    (hxs : ∀ (μ : Mu) (A : Hp) (ρ : Operand → Value), (∀ x ∈ c.args.toList, ∀ u, ev τ x = some u → VR μ A u (ρ x)) → VRa μ A xs.toArray (c.args.toList.map ρ).toArray)
    {v : Value} {A' : Hp} (hs : Sound P G fid (first.toList ++ xs ++ captured.toList) fl A v A') : OpOK P G o fl τ A v A' := by
  intro μ w a next Q H hfl hop hk
  have hfv := hop f (by simp [ho, Op.operands, Call.operands, hc]) _ hf
  have hargs := hxs μ A a.eval fun x hx => hop x (by simp [ho, Op.operands, Call.operands, hc]; exact .inr (by simpa using hx))
  cases hfe : a.eval f with
  | func fn fs cs =>
    rw [hfe] at hfv
    obtain ⟨rfl, h1, h2, h3, h4⟩ : fn = .func fid ∧ first.size = fs.size ∧ (∀ (i : Nat) (h : i < first.size) (h' : i < fs.size), VR μ A first[i] fs[i]) ∧ captured.size = cs.size ∧ ∀ (i : Nat) (h : i < captured.size) (h' : i < cs.size), VR μ A captured[i] cs[i] := by
      cases hfv; exact ⟨rfl, ‹_›, ‹_›, ‹_›, ‹_›⟩
    have hall : VRa μ A (first.toList ++ xs ++ captured.toList).toArray (fs ++ c.args.map a.eval ++ cs) := by
      have hsz := hargs.1
      simp only [List.size_toArray, List.length_map, Array.length_toList] at hsz
      refine VRa.of_get (by simp [h1, h3, hsz]) fun i u hi => ?_
      simp only [List.getElem?_toArray] at hi
      by_cases hi1 : i < first.size
      · rw [List.append_assoc, List.getElem?_append_left (by simpa using hi1)] at hi
        rw [Array.append_assoc, Array.getElem?_append_left (by omega)]
        obtain ⟨u', h5, h6⟩ := VRa.get ⟨h1, h2⟩ (i := i) (u := u) (by simpa using hi)
        exact ⟨u', h5, h6⟩
      · rw [List.append_assoc, List.getElem?_append_right (by simpa using hi1)] at hi
        rw [Array.append_assoc, Array.getElem?_append_right (by omega)]
        simp only [Array.length_toList] at hi
        rw [← h1]
        by_cases hi2 : i - first.size < xs.length
        · rw [List.getElem?_append_left hi2] at hi
          rw [Array.getElem?_append_left (by simp; omega)]
          obtain ⟨u', h5, h6⟩ := hargs.get (i := i - first.size) (u := u) (by simpa using hi)
          refine ⟨u', ?_, h6⟩
          simpa using h5
        · rw [List.getElem?_append_right (by omega)] at hi
          rw [Array.getElem?_append_right (by simp; omega)]
          obtain ⟨u', h5, h6⟩ := VRa.get ⟨h3, h4⟩ (i := i - first.size - xs.length) (u := u) (by simpa using hi)
          refine ⟨u', ?_, h6⟩
          simp only [Array.size_map, ← hsz]
          exact h5
    have hrun : ∀ w', (execOp a.eval o).run P w' = (callFunc fid (fs ++ c.args.map a.eval ++ cs)).run P w' := by
      intro w'
      simp [execOp, ho, resolve, hc, hfe, Deferred.ofValue, invoke]
    rcases hs μ w _ H hfl hall with ⟨⟨fn, hfn, hname, hbody⟩, hcalls⟩ | ⟨v', w', hr, μ', r1, r2, r3⟩
    · have hrun2 : (callFunc fid (fs ++ c.args.map a.eval ++ cs)).run P w = .ok (.enter fid (fs ++ c.args.map a.eval ++ cs)) w := by
        have hname' : fn.name ≠ "runtime.NumGoroutine" := by simpa using hname
        obtain ⟨cd, hcd⟩ : ∃ cd, fn.body = some cd := by
          cases hb : fn.body with
          | none => simp [hb] at hbody
          | some cd => exact ⟨cd, rfl⟩
        simp [callFunc, hfn, hname', hcd]
      unfold Oper.wp
      rw [hrun, hrun2]
      refine Calls.mono hcalls fun e w'' he => ?_
      obtain ⟨v', rfl, μ', r1, r2, r3⟩ := he
      exact hk v' w'' μ' r1 r2 r3
    · exact Oper.wp_value (by rw [hrun, hr]) (hk v' w' μ' r1 r2 r3)
  | _ => rw [hfe] at hfv; cases hfv

/-! builtins -/
theorem run_builtin {c : Call} {b : Builtin} (ho : o.op = .call c) (hc : c.callee = .builtin b) (a : Act) (w : World) :
    ∃ consts, (execOp a.eval o).run P w = (Go.builtin b c.argTypes o.type consts (c.args.map a.eval)).run P w := by
  simp only [execOp, ho, resolve, hc, Sem.run_bind, Sem.run_pure, Result.andThen_ok, invoke]
  exact ⟨_, rfl⟩

theorem ok_len {c : Call} (ho : o.op = .call c) (hc : c.callee = .builtin .len) {t : TypeId} {T : Ty} (ht : c.argTypes[0]? = some t) (hT : tyOf P t = some T) {xs : List Value}
    (hxs : ∀ (μ : Mu) (A : Hp) (ρ : Operand → Value), (∀ x ∈ c.args.toList, ∀ u, ev τ x = some u → VR μ A u (ρ x)) → VRa μ A xs.toArray (c.args.toList.map ρ).toArray) {v : Value} (hv : xs[0]? = some v) {K : Value → Hp → Prop}
    (h : (∃ s, T.d = .str ∧ v = .string s ∧ K (.int .i64 s.size) A) ∨ (∃ e, ∃ a : Option Addr, ∃ n cp : Nat, T.d = .sl e ∧ v = .slice a n cp ∧ K (.int .i64 (n : Int)) A) ∨ (∃ n : Nat, ∃ e, T.d = .arr n e ∧ K (.int .i64 (n : Int)) A)) :
    ∃ r, K r A ∧ OpOK P G o fl τ A r A := by
  obtain ⟨i, d, z, hi, hu, _, rfl⟩ := tyOf_inv hT
  have arg : ∀ {μ : Mu} {ac : Act}, (∀ x ∈ o.op.operands, ∀ u, ev τ x = some u → VR μ A u (ac.eval x)) → ∃ v', (c.args.map ac.eval)[0]? = some v' ∧ VR μ A v v' := fun {μ ac} hop => by
    obtain ⟨v', h1, h2⟩ := (hxs μ A ac.eval fun x hx => hop x (by simp [ho, Op.operands, Call.operands, hc]; simpa using hx)).get (i := 0) (u := v) (by simpa using hv)
    exact ⟨v', by simpa using h1, h2⟩
  rcases h with ⟨s, hd, rfl, hK⟩ | ⟨e, ad, n, cp, hd, rfl, hK⟩ | ⟨n, e, hd, hK⟩
  · have := td_str hd; subst this
    refine ⟨_, hK, .same fun μ w ac H hop => ⟨_, ?_, .int _ _⟩⟩
    obtain ⟨v', h1, h2⟩ := arg hop
    obtain ⟨cst, hrb⟩ := run_builtin (P := P) ho hc ac w
    rw [hrb]
    simp only [h2.string_inv] at h1
    simp only [Go.builtin, Builtin.len_, ht, h1]
    simp [run_underlying hu, goInt]
  · have := td_sl hd; subst this
    refine ⟨_, hK, .same fun μ w ac H hop => ⟨_, ?_, .int _ _⟩⟩
    obtain ⟨v', h1, h2⟩ := arg hop
    obtain ⟨cst, hrb⟩ := run_builtin (P := P) ho hc ac w
    rw [hrb]
    obtain ⟨a', c', rfl⟩ : ∃ a' c', v' = .slice a' n c' := by cases h2 <;> exact ⟨_, _, rfl⟩
    simp only [Go.builtin, Builtin.len_, ht, h1]
    simp [run_underlying hu, goInt]
  · have := td_arr hd; subst this
    refine ⟨_, hK, .same fun μ w ac H hop => ⟨_, ?_, .int _ _⟩⟩
    obtain ⟨v', h1, h2⟩ := arg hop
    obtain ⟨cst, hrb⟩ := run_builtin (P := P) ho hc ac w
    rw [hrb]
    simp only [Go.builtin, Builtin.len_, ht, h1]
    simp [run_underlying hu, goInt]

theorem ok_minmax {c : Call} (mx : Bool) (ho : o.op = .call c) (hc : c.callee = .builtin (if mx then .max else .min)) {k : IntKind} {x y : Int}
    (hxs : ∀ (μ : Mu) (A : Hp) (ρ : Operand → Value), (∀ x ∈ c.args.toList, ∀ u, ev τ x = some u → VR μ A u (ρ x)) → VRa μ A [Value.int k x, .int k y].toArray (c.args.toList.map ρ).toArray) :
    OpOK P G o fl τ A (.int k (if mx then (if y > x then y else x) else (if y < x then y else x))) A :=
  .same fun μ w ac H hop => by
    have hr := hxs μ A ac.eval fun x hx => hop x (by simp [ho, Op.operands, Call.operands, hc]; cases mx <;> simp at hc <;> simp_all)
    refine ⟨_, ?_, .int _ _⟩
    obtain ⟨cst, hrb⟩ := run_builtin (P := P) ho hc ac w
    rw [hrb]
    have hsz := hr.1
    simp only [List.size_toArray, List.length_cons, List.length_nil, List.length_map, Array.length_toList] at hsz
    obtain ⟨u0, a0, b0⟩ := hr.get (i := 0) (u := .int k x) rfl
    obtain ⟨u1, a1, b1⟩ := hr.get (i := 1) (u := .int k y) rfl
    have hm : List.map ac.eval c.args.toList = [.int k x, .int k y] := by
      have e0 := b0.int_inv; have e1 := b1.int_inv
      subst e0; subst e1
      apply List.ext_getElem?
      intro j
      simp only [List.getElem?_toArray] at a0 a1
      match j with
      | 0 => simpa using a0
      | 1 => simpa using a1
      | j + 2 => rw [List.getElem?_eq_none (by simp; omega), List.getElem?_eq_none (by simp)]
    cases mx
    · simp [Go.builtin, Builtin.min_, hm, Builtin.min2]
    · simp [Go.builtin, Builtin.max_, hm, Builtin.max2]

end
end Go.Proofs.Ytiiapkhdjchhjaa.Ab

/- Maps: each operation over maps is sound. -/
namespace Go.Proofs.Ytiiapkhdjchhjaa.Ab
open Go.RowKit
set_option linter.unusedVariables false
set_option linter.unusedSimpArgs false

section
variable {P : Program} {G : Gl} {fl : Nat} {τ : Tm} {A : Hp} {o : Oper}

theorem td_mp {d : TypeDesc} {k e : TypeId} (h : toTD P d = .mp k e) : d = .map k e := by
  cases d with
  | struct gs => simp only [toTD] at h; split at h <;> cases h
  | _ => first | (cases h; rfl) | (simp [toTD] at h; done) | (simp [toTD] at h; rw [h.1, h.2])

/-- An entry, and entries, as they lie in the world. -/
def ER (μ : Mu) (A : Hp) (e : Value × Value × Nat) (e' : MapEntry) : Prop := VR μ A e.1 e'.key ∧ VR μ A e.2.1 e'.val ∧ e'.born = e.2.2
def ERs (μ : Mu) (A : Hp) : List (Value × Value × Nat) → List MapEntry → Prop
  | [], [] => True
  | e :: es, e' :: es' => ER μ A e e' ∧ ERs μ A es es'
  | _, _ => False

theorem ERs.of {μ : Mu} {A : Hp} : ∀ {es : List (Value × Value × Nat)} {l : List MapEntry}, l.length = es.length →
    (∀ (j : Nat) (e : Value × Value × Nat), es[j]? = some e → ∃ e' : MapEntry, l[j]? = some e' ∧ VR μ A e.1 e'.key ∧ VR μ A e.2.1 e'.val ∧ e'.born = e.2.2) → ERs μ A es l
  | [], [], _, _ => trivial
  | [], _ :: _, h, _ => by simp at h
  | _ :: _, [], h, _ => by simp at h
  | e :: es, e' :: l, h, k => by
    refine ⟨?_, ERs.of (by simpa using h) fun j x hx => k (j + 1) x (by simpa using hx)⟩
    obtain ⟨e2, h1, h2⟩ := k 0 e rfl
    simp only [List.getElem?_cons_zero, Option.some.injEq] at h1
    subst h1; exact h2
theorem ERs.get {μ : Mu} {A : Hp} : ∀ {es : List (Value × Value × Nat)} {l : List MapEntry}, ERs μ A es l → ∀ (j : Nat) (e : Value × Value × Nat), es[j]? = some e → ∃ e' : MapEntry, l[j]? = some e' ∧ VR μ A e.1 e'.key ∧ VR μ A e.2.1 e'.val ∧ e'.born = e.2.2
  | [], _, _, j, e, he => by simp at he
  | _ :: _, [], h, _, _, _ => h.elim
  | x :: es, x' :: l, h, 0, e, he => by simp only [List.getElem?_cons_zero, Option.some.injEq] at he; subst he; exact ⟨x', rfl, h.1⟩
  | x :: es, x' :: l, h, j + 1, e, he => by
    obtain ⟨e', h1, h2⟩ := ERs.get h.2 j e (by simpa using he)
    exact ⟨e', by simpa using h1, h2⟩
theorem ERs.length {μ : Mu} {A : Hp} : ∀ {es : List (Value × Value × Nat)} {l : List MapEntry}, ERs μ A es l → l.length = es.length
  | [], [], _ => rfl
  | [], _ :: _, h => h.elim
  | _ :: _, [], h => h.elim
  | _ :: _, _ :: _, h => by simp [ERs.length h.2]
theorem ERs.append {μ : Mu} {A : Hp} : ∀ {es fs : List (Value × Value × Nat)} {l m : List MapEntry}, ERs μ A es l → ERs μ A fs m → ERs μ A (es ++ fs) (l ++ m)
  | [], _, [], _, _, k => k
  | [], _, _ :: _, _, h, _ => h.elim
  | _ :: _, _, [], _, h, _ => h.elim
  | _ :: _, _, _ :: _, _, h, k => ⟨h.1, ERs.append h.2 k⟩
theorem ERs.modify {μ : Mu} {A : Hp} {f : Value × Value × Nat → Value × Value × Nat} {g : MapEntry → MapEntry} : ∀ {es : List (Value × Value × Nat)} {l : List MapEntry} (i : Nat), ERs μ A es l →
    (∀ e e', es[i]? = some e → ER μ A e e' → ER μ A (f e) (g e')) → ERs μ A (es.modify i f) (l.modify i g)
  | [], [], i, _, _ => by rw [List.modify_nil, List.modify_nil]; trivial
  | [], _ :: _, _, h, _ => h.elim
  | _ :: _, [], _, h, _ => h.elim
  | e :: es, e' :: l, 0, h, k => by simp only [List.modify_zero_cons]; exact ⟨k e e' rfl h.1, h.2⟩
  | e :: es, e' :: l, i + 1, h, k => by simp only [List.modify_succ_cons]; exact ⟨h.1, ERs.modify i h.2 fun x x' hx => k x x' (by simpa using hx)⟩
theorem ERs.erase {μ : Mu} {A : Hp} : ∀ {es : List (Value × Value × Nat)} {l : List MapEntry} (i : Nat), ERs μ A es l → ERs μ A (es.eraseIdx i) (l.eraseIdx i)
  | [], [], i, _ => by simp [ERs]
  | [], _ :: _, _, h => h.elim
  | _ :: _, [], _, h => h.elim
  | e :: es, e' :: l, 0, h => h.2
  | e :: es, e' :: l, i + 1, h => ⟨h.1, ERs.erase i h.2⟩

theorem BR.mp_inv {μ : Mu} {A : Hp} {es : List (Value × Value × Nat)} {ck : Nat} {ob : Obj} (h : BR μ A (.mp es ck) ob) : ∃ ents : Array MapEntry, ob = .map ents ck ∧ ERs μ A es ents.toList := by
  cases ob with
  | map ents ck' =>
    obtain ⟨rfl, h2, h3⟩ := h
    exact ⟨ents, rfl, .of (by simpa using h2) fun j e he => by
      obtain ⟨e', h4, h5⟩ := h3 j e he
      exact ⟨e', by simpa using h4, h5⟩⟩
  | _ => exact h.elim
theorem BR.mp_of {μ : Mu} {A : Hp} {es : List (Value × Value × Nat)} {ck : Nat} {ents : Array MapEntry} (h : ERs μ A es ents.toList) : BR μ A (.mp es ck) (.map ents ck) :=
  ⟨rfl, by simpa using h.length, fun j e he => by
    obtain ⟨e', h4, h5⟩ := h.get j e he
    exact ⟨e', by simpa using h4, h5⟩⟩
theorem RBs_of {μ : Mu} {A : Hp} : ∀ {es : List (Value × Value × Nat)} {l : List MapEntry}, ERs μ A es l → ∀ e ∈ es, RB A.next e.1 ∧ RB A.next e.2.1
  | [], _, _, e, he => by simp at he
  | _ :: _, [], h, _, _ => h.elim
  | x :: es, x' :: l, h, e, he => by
    rcases List.mem_cons.1 he with rfl | he
    · exact ⟨h.1.1.rb, h.1.2.1.rb⟩
    · exact RBs_of h.2 e he

/-- The map that a value names. -/
theorem HR.map_at {μ : Mu} {w : World} (H : HR G μ fl A w) {id : Nat} {k : Blk} (hb : A.blk id = some k) (ho : k.obj = true) {v' : Value} (hv : VR μ A (.map (some id)) v') :
    ∃ r o S ob, v' = .map (some r) ∧ μ id = some (r, o, S) ∧ w.heap[r]? = some ob ∧ BR μ A k ob := by
  cases hv with
  | map hlt hl =>
    obtain ⟨o, S, hm⟩ := hl k hb ho
    obtain ⟨ob, h1, h2⟩ := H.obj id k _ o S hb ho hm
    exact ⟨_, o, S, ob, rfl, hm, h1, h2⟩
theorem HR.iter_at {μ : Mu} {w : World} (H : HR G μ fl A w) {id : Nat} {k : Blk} (hb : A.blk id = some k) (ho : k.obj = true) {v' : Value} (hv : VR μ A (.chan (some id)) v') :
    ∃ r o S ob, v' = .pointer (some ⟨r, 0, none⟩) ∧ μ id = some (r, o, S) ∧ w.heap[r]? = some ob ∧ BR μ A k ob := by
  cases hv with
  | iter hlt hl =>
    obtain ⟨o, S, hm⟩ := hl k hb ho
    obtain ⟨ob, h1, h2⟩ := H.obj id k _ o S hb ho hm
    exact ⟨_, o, S, ob, rfl, hm, h1, h2⟩
theorem map0_inv {μ : Mu} {v' : Value} (h : VR μ A (.map none) v') : v' = .map none := by cases h; rfl

/-! keys -/
theorem ckFs_run {d k : Nat} {emp : Bool} (ih : ∀ (t : TypeId) (v : Value), ckK P d t v = true → ∀ (μ : Mu) (A : Hp) (v' : Value), VR μ A v v' → ∀ w : World, (Instr.checkKey emp (d + k) t v').run P w = .ok () w)
    {cs ds : Array Value} {μ : Mu} {A : Hp} (hx : VRa μ A cs ds) (w : World) : ∀ (fs : List Field), (fs.all fun f => f.name == "_" || (match partV P f.type cs f.offset with | some a => ckK P d f.type a | none => false)) = true →
    ((forIn fs PUnit.unit fun f _ => (if f.name ≠ "_" then (do Instr.checkKey emp (d + k) f.type (← part f.type ds f.offset); pure (ForInStep.yield PUnit.unit)) else pure (ForInStep.yield PUnit.unit) : Sem (ForInStep PUnit))) : Sem PUnit).run P w = .ok PUnit.unit w
  | [], _ => by simp
  | f :: fs, h => by
    simp only [List.all_cons, Bool.and_eq_true] at h
    have i2 := ckFs_run ih hx w fs h.2
    simp only [List.forIn_cons, Sem.run_bind, Sem.run_ite]
    by_cases hn : f.name = "_"
    · simp only [hn, ne_eq, not_true_eq_false, if_false, Sem.run_pure, Result.andThen_ok]
      exact i2
    · have h1 := h.1
      simp only [beq_iff_eq, hn, Bool.or_eq_true, false_or] at h1
      cases hp : partV P f.type cs f.offset with
      | none => simp [hp] at h1
      | some a =>
        simp only [hp] at h1
        have hp2 := hp
        simp only [partV, Option.bind_eq_some_iff] at hp2
        obtain ⟨T, hT, ha⟩ := hp2
        obtain ⟨a', ra, va⟩ := ok_part hT hx f.offset (v := a) (by
          split at ha
          · rename_i hag; cases ha; exact .inl ⟨hag, rfl⟩
          · rename_i hag; exact .inr ⟨by simpa using hag, ha⟩) w
        have := ih f.type a h1 μ A a' va w
        simp only [ne_eq, hn, not_false_eq_true, if_true, Sem.run_bind, ra, Result.andThen_ok, this, Sem.run_pure]
        exact i2
theorem ckEs_run {d k sz : Nat} {emp : Bool} {e : TypeId} (ih : ∀ (t : TypeId) (v : Value), ckK P d t v = true → ∀ (μ : Mu) (A : Hp) (v' : Value), VR μ A v v' → ∀ w : World, (Instr.checkKey emp (d + k) t v').run P w = .ok () w)
    {cs ds : Array Value} {μ : Mu} {A : Hp} (hx : VRa μ A cs ds) (w : World) (hs : (sizeOf e).run P w = .ok sz w) : ∀ (is : List Nat), (is.all fun i => (match partV P e cs (i * sz) with | some a => ckK P d e a | none => false)) = true →
    ((forIn is PUnit.unit fun i _ => (do Instr.checkKey emp (d + k) e (← part e ds (i * (← sizeOf e))); pure (ForInStep.yield PUnit.unit) : Sem (ForInStep PUnit))) : Sem PUnit).run P w = .ok PUnit.unit w
  | [], _ => by simp
  | i :: is, h => by
    simp only [List.all_cons, Bool.and_eq_true] at h
    have i2 := ckEs_run ih hx w hs is h.2
    have h1 := h.1
    cases hp : partV P e cs (i * sz) with
    | none => simp [hp] at h1
    | some a =>
      simp only [hp] at h1
      have hp2 := hp
      simp only [partV, Option.bind_eq_some_iff] at hp2
      obtain ⟨T, hT, ha⟩ := hp2
      obtain ⟨a', ra, va⟩ := ok_part hT hx (i * sz) (v := a) (by
        split at ha
        · rename_i hag; cases ha; exact .inl ⟨hag, rfl⟩
        · rename_i hag; exact .inr ⟨by simpa using hag, ha⟩) w
      have := ih e a h1 μ A a' va w
      simp only [List.forIn_cons, Sem.run_bind, hs, Result.andThen_ok, ra, this, Sem.run_pure]
      exact i2
theorem ckK_run (k : Nat) (emp : Bool) : ∀ (d : Nat) (t : TypeId) (v : Value), ckK P d t v = true → ∀ (μ : Mu) (A : Hp) (v' : Value), VR μ A v v' → ∀ w : World, (Instr.checkKey emp (d + k) t v').run P w = .ok () w
  | 0, t, v, h => by simp [ckK] at h
  | d + 1, t, v, h => by
    intro μ A v' hv w
    unfold ckK at h
    rw [show d + 1 + k = (d + k) + 1 by omega]
    split at h
    · rename_i ht; unfold Instr.checkKey; simp only [Sem.run_bind, run_underlying ht, Result.andThen_ok]; cases v' <;> rfl
    · rename_i ht; unfold Instr.checkKey; simp only [Sem.run_bind, run_underlying ht, Result.andThen_ok]; cases v' <;> rfl
    · rename_i ht; unfold Instr.checkKey; simp only [Sem.run_bind, run_underlying ht, Result.andThen_ok]; cases v' <;> rfl
    · rename_i fs ht
      split at h
      · rename_i cs
        obtain ⟨ds, rfl, hx⟩ := hv.agg_inv
        unfold Instr.checkKey
        simp only [Sem.run_bind, run_underlying ht, Result.andThen_ok]
        rw [← Array.forIn_toList]
        have := ckFs_run (ckK_run k emp d) hx w fs.toList h
        simp only [this, Result.andThen_ok, Sem.run_pure]
      · cases h
    · rename_i n e ht
      split at h
      · rename_i cs
        obtain ⟨ds, rfl, hx⟩ := hv.agg_inv
        cases hE : tyOf P e with
        | none => simp [hE] at h
        | some E =>
          simp only [hE] at h
          have hsz : ∀ w : World, (sizeOf e).run P w = .ok E.size w := fun w => by
            obtain ⟨i, d', z, hi, _, _, rfl⟩ := tyOf_inv hE
            exact run_sizeOf' (P := P) hi w
          unfold Instr.checkKey
          simp only [Sem.run_bind, run_underlying ht, Result.andThen_ok]
          rw [Std.Legacy.Range.forIn_eq_forIn_range']
          have hr : List.range' ((⟨0, n, 1, by decide⟩ : Std.Legacy.Range)).start ((⟨0, n, 1, by decide⟩ : Std.Legacy.Range)).size ((⟨0, n, 1, by decide⟩ : Std.Legacy.Range)).step = List.range n := by
            simp [Std.Legacy.Range.size, List.range_eq_range']
          rw [hr]
          have := ckEs_run (ckK_run k emp d) hx w (hsz w) (List.range n) h
          simp only [this, Result.andThen_ok, Sem.run_pure]
      · cases h
    · cases h

theorem sameNow_eqD {kt : TypeId} {dd : TypeDesc} {d : Nat} {k e k' e' : Value} {b b' : Bool} {μ : Mu} (hu : P.underlying kt = some dd) (h : eqD P (d + 1) kt k e = some b) (hk : VR μ A k k') (he : VR μ A e e') (hs : Instr.sameNow dd k' e' = some b') : b' = b := by
  unfold eqD at h
  split at h
  · rename_i ht
    rw [hu] at ht; cases ht
    cases hk.bool_inv; cases he.bool_inv; cases h
    simp [Instr.sameNow] at hs; exact hs.symm
  · rename_i ht
    rw [hu] at ht; cases ht
    cases hk.int_inv; cases he.int_inv
    simp only [Instr.sameNow] at hs
    split at h
    · rename_i hkk; cases h; rw [if_pos hkk] at hs; cases hs; rfl
    · cases h
  · rename_i ht
    rw [hu] at ht; cases ht
    cases hk.string_inv; cases he.string_inv; cases h
    simp only [Instr.sameNow, Option.some.injEq] at hs
    rw [← hs]
    rw [beq_toListBytes, toList_beq]
  · rename_i ht
    rw [hu] at ht; cases ht
    simp [Instr.sameNow] at hs
  · rename_i ht
    rw [hu] at ht; cases ht
    simp [Instr.sameNow] at hs
  · cases h

/-- What was found. -/
def FR (μ : Mu) (A : Hp) : Option (Nat × Value) → Option (Nat × Value) → Prop
  | none, none => True
  | some (i, v), some (j, v') => i = j ∧ VR μ A v v'
  | _, _ => False

theorem findAsking_run {kt : TypeId} {k k' : Value} {μ : Mu} (hk : VR μ A k k') (w : World) : ∀ {es : List (Value × Value × Nat)} {l : List MapEntry} {i : Nat} {r : Option (Nat × Value)}, ERs μ A es l → mfind P kt k es i = some r →
    ∃ r', (Instr.findAsking kt k' l i).run P w = .ok r' w ∧ FR μ A r r'
  | [], [], i, r, _, h => by simp only [mfind, Option.some.injEq] at h; subst h; exact ⟨none, by simp [Instr.findAsking], trivial⟩
  | [], _ :: _, _, _, h, _ => h.elim
  | _ :: _, [], _, _, h, _ => h.elim
  | e :: es, e' :: l, i, r, h, hf => by
    simp only [mfind, Option.bind_eq_some_iff] at hf
    obtain ⟨b, hb, hf⟩ := hf
    have hrun := eqD_run (P := P) 9980 20 kt _ _ b hb μ A k' e'.key hk h.1.1 w
    have hrun' : (Op.equal kt k' e'.key).run P w = .ok b w := hrun
    cases b with
    | true =>
      simp only [if_true, Option.some.injEq] at hf
      subst hf
      exact ⟨some (i, e'.val), by simp [Instr.findAsking, hrun'], rfl, h.1.2.1⟩
    | false =>
      simp only [Bool.false_eq_true, if_false] at hf
      obtain ⟨r', h1, h2⟩ := findAsking_run hk w h.2 hf
      exact ⟨r', by simpa [Instr.findAsking, hrun'] using h1, h2⟩
theorem findNow_run {kt : TypeId} {dd : TypeDesc} {k k' : Value} {μ : Mu} (hu : P.underlying kt = some dd) (hk : VR μ A k k') : ∀ {es : List (Value × Value × Nat)} {l : List MapEntry} {i : Nat} {r r' : Option (Nat × Value)}, ERs μ A es l → mfind P kt k es i = some r →
    Instr.findNow dd k' l i = some r' → FR μ A r r'
  | [], [], i, r, r', _, h, hn => by simp only [mfind, Option.some.injEq] at h; subst h; simp only [Instr.findNow, Option.some.injEq] at hn; subst hn; trivial
  | [], _ :: _, _, _, _, h, _, _ => h.elim
  | _ :: _, [], _, _, _, h, _, _ => h.elim
  | e :: es, e' :: l, i, r, r', h, hf, hn => by
    simp only [mfind, Option.bind_eq_some_iff] at hf
    obtain ⟨b, hb, hf⟩ := hf
    simp only [Instr.findNow] at hn
    cases hs : Instr.sameNow dd k' e'.key with
    | none => simp [hs] at hn
    | some b' =>
      have := sameNow_eqD (d := 19) hu hb hk h.1.1 hs
      subst this
      cases b' with
      | true =>
        simp only [if_true, Option.some.injEq] at hf
        simp only [hs, Option.some.injEq] at hn
        subst hf; subst hn
        exact ⟨rfl, h.1.2.1⟩
      | false =>
        simp only [Bool.false_eq_true, if_false] at hf
        simp only [hs] at hn
        exact findNow_run hu hk h.2 hf hn
theorem findKey_run {kt : TypeId} {k k' : Value} {μ : Mu} {dd : TypeDesc} (hu : P.underlying kt = some dd) (hk : VR μ A k k') (w : World) {es : List (Value × Value × Nat)} {l : List MapEntry} {r : Option (Nat × Value)} (h : ERs μ A es l) (hf : mfind P kt k es 0 = some r) :
    ∃ r', (Instr.findKey kt k' l).run P w = .ok r' w ∧ FR μ A r r' := by
  simp only [Instr.findKey, Sem.run_bind, run_underlying hu, Result.andThen_ok]
  cases hn : Instr.findNow dd k' l 0 with
  | some r' => exact ⟨r', by simp, findNow_run hu hk h hf hn⟩
  | none => exact findAsking_run hk w h hf

theorem ckK_under {d : Nat} {t : TypeId} {v : Value} (h : ckK P d t v = true) : ∃ dd, P.underlying t = some dd := by
  cases d with
  | zero => simp [ckK] at h
  | succ d =>
    unfold ckK at h
    cases hu : P.underlying t with
    | none => simp [hu] at h
    | some dd => exact ⟨dd, rfl⟩

theorem zv_vr {et : TypeId} {E : Ty} (hE : tyOf P et = some E) (hz : E.zero.all zc = true) (μ : Mu) (A : Hp) : VR μ A E.zv E.zv := by
  unfold Ty.zv
  split
  · exact .agg rfl fun i hi hi' => VR.of_zc (List.all_eq_true.1 hz _ (by simp))
  · cases hzz : E.zero with
    | nil => obtain ⟨i, d, z, hi, hd, hz', rfl⟩ := tyOf_inv hE
             simp only at hzz
             rename_i hag
             simp only [List.headD_nil]
             exact VR.bool _
    | cons x xs => exact VR.of_zc (List.all_eq_true.1 hz _ (by rw [hzz]; simp))

theorem ok_lookup {t : TypeId} {x i : Operand} {cok : Bool} (ho : o.op = .lookup t x i cok) {m k : Value} (hm : ev τ x = some m) (hk : ev τ i = some k) {K : Value → Prop} (h : alookup P A t m k cok K) :
    ∃ v, K v ∧ OpOK P G o fl τ A v A := by
  obtain ⟨T, kt, et, E, hT, hd, hE, hz, hck, es, hmp, r, hf, hK⟩ := h
  refine ⟨_, hK, .same fun μ w a H hop => ?_⟩
  obtain ⟨it, dt, zt, hit, hut, _, rfl⟩ := tyOf_inv hT
  have := td_mp hd; subst this
  obtain ⟨dd, hu⟩ := ckK_under hck
  have hmv := hop x (by simp [ho, Op.operands]) _ hm
  have hkv := hop i (by simp [ho, Op.operands]) _ hk
  obtain ⟨iE, hiE, hzE⟩ := tyOf_zv hE
  have hzr := fun w => run_zero' (P := P) hiE hzE w
  have hzv := zv_vr hE hz μ A
  have hck' : ∀ emp (w : World), (Instr.checkKey emp 10000 kt (a.eval i)).run P w = .ok () w := fun emp w => ckK_run 9980 emp 20 kt k hck μ A _ hkv w
  rcases hmp with ⟨rfl, rfl⟩ | ⟨id, ck, rfl, hb⟩
  · have hv' := map0_inv hmv
    have hers : ERs μ A [] [] := trivial
    obtain ⟨r', h1, h2⟩ := findKey_run (P := P) hu hkv w hers hf
    cases r with
    | none =>
      cases r' with
      | some _ => exact h2.elim
      | none =>
        cases cok with
        | false => exact ⟨E.zv, by simp [execOp, ho, Instr.lookup, hv', run_underlying hut, hck', h1, hzr], hzv⟩
        | true =>
          refine ⟨.tuple #[E.zv, .bool false], by simp [execOp, ho, Instr.lookup, hv', run_underlying hut, hck', h1, hzr], ?_⟩
          exact .tuple rfl fun j hj hj' => by
            match j, hj with
            | 0, _ => exact hzv
            | 1, _ => exact .bool _
    | some p =>
      obtain ⟨j, v⟩ := p
      cases r' with
      | none => exact h2.elim
      | some p' =>
        obtain ⟨j', v'⟩ := p'
        obtain ⟨rfl, hv⟩ := h2
        cases cok with
        | false => exact ⟨v', by simp [execOp, ho, Instr.lookup, hv', run_underlying hut, hck', h1], hv⟩
        | true =>
          refine ⟨.tuple #[v', .bool true], by simp [execOp, ho, Instr.lookup, hv', run_underlying hut, hck', h1], ?_⟩
          exact .tuple rfl fun j hj hj' => by
            match j, hj with
            | 0, _ => exact hv
            | 1, _ => exact .bool _
  · obtain ⟨rr, oo, SS, ob, hv', hmu, hw, hbr⟩ := H.map_at hb rfl hmv
    obtain ⟨ents, rfl, hers⟩ := hbr.mp_inv
    obtain ⟨r', h1, h2⟩ := findKey_run (P := P) hu hkv w hers hf
    cases r with
    | none =>
      cases r' with
      | some _ => exact h2.elim
      | none =>
        cases cok with
        | false => exact ⟨E.zv, by simp [execOp, ho, Instr.lookup, hv', run_underlying hut, MapKept.run_getObj_map hw, hck', h1, hzr], hzv⟩
        | true =>
          refine ⟨.tuple #[E.zv, .bool false], by simp [execOp, ho, Instr.lookup, hv', run_underlying hut, MapKept.run_getObj_map hw, hck', h1, hzr], ?_⟩
          exact .tuple rfl fun j hj hj' => by
            match j, hj with
            | 0, _ => exact hzv
            | 1, _ => exact .bool _
    | some p =>
      obtain ⟨j, v⟩ := p
      cases r' with
      | none => exact h2.elim
      | some p' =>
        obtain ⟨j', v'⟩ := p'
        obtain ⟨rfl, hv⟩ := h2
        cases cok with
        | false => exact ⟨v', by simp [execOp, ho, Instr.lookup, hv', run_underlying hut, MapKept.run_getObj_map hw, hck', h1], hv⟩
        | true =>
          refine ⟨.tuple #[v', .bool true], by simp [execOp, ho, Instr.lookup, hv', run_underlying hut, MapKept.run_getObj_map hw, hck', h1], ?_⟩
          exact .tuple rfl fun j hj hj' => by
            match j, hj with
            | 0, _ => exact hv
            | 1, _ => exact .bool _

theorem ok_makeMap {t : TypeId} {r : Option Operand} (ho : o.op = .makeMap t r) (h : r = none ∨ ∃ x T kt et k n, r = some x ∧ ev τ x = some (.int k n) ∧ tyOf P t = some T ∧ T.d = .mp kt et) :
    OpOK P G o fl τ A (.map (some A.next)) (A.push (.mp [] 0)) := by
  intro μ w a next Q H hfl hop hk
  have hrun : (execOp a.eval o).run P w = .ok (.value (.map (some w.heap.size))) (w.alloc (.map #[] 0)) := by
    rcases h with rfl | ⟨x, T, kt, et, k, n, rfl, hx, hT, hd⟩
    · simp [execOp, ho, Instr.makeMap]
    · obtain ⟨it, dt, zt, hit, hut, _, rfl⟩ := tyOf_inv hT
      have := td_mp hd; subst this
      have hi := (hop x (by simp [ho, Op.operands]) _ hx).int_inv
      simp [execOp, ho, Instr.makeMap, run_underlying hut, hi, asInt, asIntOf]
  obtain ⟨HN, TN⟩ := H.newObj (w' := w.alloc (.map #[] 0)) hfl (.mp [] 0) (.map #[] 0) rfl (fun e he => by simp at he) (.mp_of trivial) (fun _ _ _ h => by cases h) rfl rfl rfl rfl
  refine Oper.wp_value hrun (hk _ _ _ (.map (by simp) fun k hk' ho' => ⟨0, 0, by simp [Mu.add]⟩) HN TN)

theorem ok_range {t : TypeId} {x : Operand} (ho : o.op = .range t x) {m : Value} (hm : ev τ x = some m) {K : Value → Hp → Prop} (h : amrange P A t m K) :
    ∃ v A', K v A' ∧ OpOK P G o fl τ A v A' := by
  obtain ⟨T, kt, et, hT, hd, h⟩ := h
  obtain ⟨it, dt, zt, hit, hut, _, rfl⟩ := tyOf_inv hT
  have := td_mp hd; subst this
  rcases h with ⟨rfl, hK⟩ | ⟨id, es, ck, rfl, hb, hK⟩
  · refine ⟨_, _, hK, ?_⟩
    intro μ w a next Q H hfl hop hk
    have hmv := map0_inv (hop x (by simp [ho, Op.operands]) _ hm)
    have hrun : (execOp a.eval o).run P w = .ok (.value (.pointer (some ⟨w.heap.size, 0, none⟩))) (w.alloc (.mapIter none 0 #[] 0)) := by
      simp [execOp, ho, hmv, run_range_nilMap w t kt et hut]
    obtain ⟨HN, TN⟩ := H.newObj (w' := w.alloc (.mapIter none 0 #[] 0)) hfl (.it none 0 [] 0) (.mapIter none 0 #[] 0) rfl ⟨_, .map0⟩ ⟨.map0, rfl, rfl, rfl⟩ (fun _ _ _ h => by cases h) rfl rfl rfl rfl
    exact Oper.wp_value hrun (hk _ _ _ (.iter (by simp) fun k hk' ho' => ⟨0, 0, by simp [Mu.add]⟩) HN TN)
  · refine ⟨_, _, hK, ?_⟩
    intro μ w a next Q H hfl hop hk
    have hmv := hop x (by simp [ho, Op.operands]) _ hm
    obtain ⟨rr, oo, SS, ob, hv', hmu, hw, hbr⟩ := H.map_at hb rfl hmv
    obtain ⟨ents, rfl, hers⟩ := hbr.mp_inv
    have hrun : (execOp a.eval o).run P w = .ok (.value (.pointer (some ⟨w.heap.size, 0, none⟩))) (w.alloc (.mapIter (some rr) ck #[] ck)) := by
      simp [execOp, ho, hv', run_range_map w t kt et rr ents ck hut hw]
    rw [hv'] at hmv
    obtain ⟨HN, TN⟩ := H.newObj (w' := w.alloc (.mapIter (some rr) ck #[] ck)) hfl (.it (some id) ck [] ck) (.mapIter (some rr) ck #[] ck) rfl hmv.rb ⟨hmv, rfl, rfl, rfl⟩ (fun _ _ _ h => by cases h) rfl rfl rfl rfl
    exact Oper.wp_value hrun (hk _ _ _ (.iter (by simp) fun k hk' ho' => ⟨0, 0, by simp [Mu.add]⟩) HN TN)

theorem kflat1_inv {μ : Mu} {v v' : Value} (h : kflat1 v = true) (hv : VR μ A v v') : v' = v := by
  cases hv <;> first | rfl | simp [kflat1] at h
theorem kflat_inv {μ : Mu} {v v' : Value} (h : kflat v = true) (hv : VR μ A v v') : v' = v := by
  cases v with
  | agg cs =>
    obtain ⟨ds, rfl, hx⟩ := hv.agg_inv
    congr 1
    refine (Array.ext (by have := hx.1; omega) fun i h1 h2 => ?_)
    exact kflat1_inv (List.all_eq_true.1 h _ (by simp)) (hx.2 i h2 h1)
  | _ => exact kflat1_inv h hv
theorem sameBits_kf1 {v : Value} (h : kflat1 v = true) (n : Nat) : Instr.sameBits n v v = true := by
  cases v <;> simp [kflat1] at h <;> cases n <;> simp [Instr.sameBits, beq_toListBytes]
theorem sameBits_kf {v : Value} (h : kflat v = true) (n : Nat) : Instr.sameBits (n + 1) v v = true := by
  cases v with
  | agg cs =>
    simp only [Instr.sameBits, beq_self_eq_true, Bool.true_and, List.all_eq_true]
    rintro ⟨x, y⟩ hxy
    have hz : ∀ (l : List Value) (x y : Value), (x, y) ∈ l.zip l → x = y ∧ x ∈ l := by
      intro l
      induction l with
      | nil => intro x y h; simp at h
      | cons a l ih =>
        intro x y h
        simp only [List.zip_cons_cons, List.mem_cons, Prod.mk.injEq] at h
        rcases h with ⟨rfl, rfl⟩ | h
        · exact ⟨rfl, by simp⟩
        · obtain ⟨h1, h2⟩ := ih x y h; exact ⟨h1, by simp [h2]⟩
    obtain ⟨rfl, h2⟩ := hz _ _ _ hxy
    exact sameBits_kf1 (List.all_eq_true.1 h _ h2) n
  | _ => exact sameBits_kf1 (by simpa [kflat] using h) _

theorem ok_mapput {t : TypeId} {x y z : Operand} (ho : o.op = .mapUpdate t x y z ∨ o.op = .insert t x y z) {m k v : Value} (hm : ev τ x = some m) (hk : ev τ y = some k) (hv : ev τ z = some v) {K : Value → Hp → Prop} (h : amput P fl A t m k v K) :
    ∃ v A', K v A' ∧ OpOK P G o fl τ A v A' := by
  obtain ⟨T, kt, et, hT, hd, hck, id, es, ck, rfl, hb, hfl, r, hf, hsame, hK⟩ := h
  refine ⟨_, _, hK, ?_⟩
  obtain ⟨it, dt, zt, hit, hut, _, rfl⟩ := tyOf_inv hT
  have := td_mp hd; subst this
  obtain ⟨dd, hu⟩ := ckK_under hck
  intro μ w a next Q H hfl' hop hk'
  have hmv := hop x (by rcases ho with ho | ho <;> simp [ho, Op.operands]) _ hm
  have hkv := hop y (by rcases ho with ho | ho <;> simp [ho, Op.operands]) _ hk
  have hvv := hop z (by rcases ho with ho | ho <;> simp [ho, Op.operands]) _ hv
  obtain ⟨rr, oo, SS, ob, hv', hmu, hw, hbr⟩ := H.map_at hb rfl hmv
  obtain ⟨ents, rfl, hers⟩ := hbr.mp_inv
  obtain ⟨r', h1, h2⟩ := findKey_run (P := P) hu hkv w hers hf
  have hck' : ∀ emp (w : World), (Instr.checkKey emp 10000 kt (a.eval y)).run P w = .ok () w := fun emp w => ckK_run 9980 emp 20 kt k hck μ A _ hkv w
  have hex : ∀ w', (Instr.mapUpdate t (a.eval x) (a.eval y) (a.eval z)).run P w = .ok () w' → (execOp a.eval o).run P w = .ok .skip w' := fun w' h => by
    rcases ho with ho | ho <;> simp [execOp, ho, h]
  have fin : ∀ (ents' : Array MapEntry) (es' : List (Value × Value × Nat)) (ck' : Nat), ERs μ A es' ents'.toList → mput k v r es ck = .mp es' ck' →
      (execOp a.eval o).run P w = .ok .skip { w with heap := w.heap.setIfInBounds rr (.map ents' ck') } → o.wp P a w next Q := fun ents' es' ck' he hmp hrun => by
    rw [hmp] at hk'
    obtain ⟨s1, s2⟩ := MapKept.heap_set (o' := .map ents' ck') hw
    obtain ⟨HN, TN⟩ := H.putObj (w' := { w with heap := w.heap.setIfInBounds rr (.map ents' ck') }) (k := .mp es' ck') (ob := .map ents' ck') hfl hb rfl hmu rfl (fun e hm => RBs_of he e hm) (.mp_of he) (fun _ _ _ h => by cases h) s1 s2 (by simp) rfl rfl rfl
    exact Oper.wp_skip hrun (hk' undef _ _ (.tuple rfl fun i h _ => absurd h (by simp)) HN TN)
  cases r with
  | none =>
    cases r' with
    | some _ => exact h2.elim
    | none =>
      refine fin (ents.push { key := a.eval y, val := a.eval z, born := ck }) (es ++ [(k, v, ck)]) (ck + 1) ?_ rfl (hex _ ?_)
      · rw [Array.toList_push]
        exact hers.append ⟨⟨hkv, hvv, rfl⟩, trivial⟩
      · simp only [Instr.mapUpdate, Sem.run_bind, run_underlying hut, Result.andThen_ok, hv', MapKept.run_getObj_map hw, hck', h1]
        exact MapKept.run_setObj_map _ hw
  | some p =>
    obtain ⟨j, u⟩ := p
    cases r' with
    | none => exact h2.elim
    | some p' =>
      obtain ⟨j', u'⟩ := p'
      obtain ⟨rfl, hu'⟩ := h2
      obtain ⟨hfk, hkey⟩ := hsame j u rfl
      have hky := kflat_inv hfk hkv
      cases hej : es[j]? with
      | none => simp [hej] at hkey
      | some e =>
        obtain ⟨ek, eu, eb⟩ := e
        simp only [hej, Option.map_some, Option.some.injEq] at hkey
        subst hkey
        obtain ⟨e', g1, g2, g3, g4⟩ := hers.get j _ hej
        have hek : e'.key = ek := kflat_inv hfk g2
        have gA : ents[j]? = some e' := by simpa using g1
        rw [hky] at h1
        simp only [hky] at hck'
        refine fin (ents.modify j fun e => { e with key := a.eval y, val := a.eval z }) (es.modify j fun e => (ek, v, e.2.2)) ck ?_ rfl (hex _ ?_)
        · rw [Array.toList_modify]
          exact hers.modify j fun e e' _ he => ⟨hkv, hvv, he.2.2⟩
        · simp only [Instr.mapUpdate, Sem.run_bind, run_underlying hut, Result.andThen_ok, hv', MapKept.run_getObj_map hw, hck', h1, Instr.keyThatStays, gA, Option.map_some, Option.getD_some, hek, hky, sameBits_kf hfk 9999, if_true, Sem.run_pure]
          exact MapKept.run_setObj_map _ hw

theorem ok_delete {c : Call} (ho : o.op = .call c) (hc : c.callee = .builtin .delete) {xs : List Value}
    (hxs : ∀ (μ : Mu) (A : Hp) (ρ : Operand → Value), (∀ x ∈ c.args.toList, ∀ u, ev τ x = some u → VR μ A u (ρ x)) → VRa μ A xs.toArray (c.args.toList.map ρ).toArray) {K : Value → Hp → Prop}
    (h : amdel P fl A c.argTypes xs K) : ∃ v A', K v A' ∧ OpOK P G o fl τ A v A' := by
  obtain ⟨t, T, kt, et, m, k, hat, hT, hd, rfl, hck, id, es, ck, rfl, hb, hfl, r, hf, hK⟩ := h
  refine ⟨_, _, hK, ?_⟩
  obtain ⟨it, dt, zt, hit, hut, _, rfl⟩ := tyOf_inv hT
  have := td_mp hd; subst this
  obtain ⟨dd, hu⟩ := ckK_under hck
  intro μ w a next Q H hfl' hop hk'
  have hr := hxs μ A a.eval fun x hx => hop x (by simp [ho, Op.operands, Call.operands, hc]; simpa using hx)
  obtain ⟨m', a0, hmv⟩ := hr.get (i := 0) (u := .map (some id)) rfl
  obtain ⟨k', a1, hkv⟩ := hr.get (i := 1) (u := k) rfl
  have a0' : (c.args.map a.eval)[0]? = some m' := by simpa using a0
  have a1' : (c.args.map a.eval)[1]? = some k' := by simpa using a1
  obtain ⟨rr, oo, SS, ob, hv', hmu, hw, hbr⟩ := H.map_at hb rfl hmv
  obtain ⟨ents, rfl, hers⟩ := hbr.mp_inv
  subst hv'
  obtain ⟨r', h1, h2⟩ := findKey_run (P := P) hu hkv w hers hf
  have hck' : ∀ emp (w : World), (Instr.checkKey emp 10000 kt k').run P w = .ok () w := fun emp w => ckK_run 9980 emp 20 kt k hck μ A _ hkv w
  obtain ⟨cst, hrb⟩ := run_builtin (P := P) ho hc a w
  have fin : ∀ (ents' : Array MapEntry) (es' : List (Value × Value × Nat)), ERs μ A es' ents'.toList → mdel r es = es' →
      (execOp a.eval o).run P w = .ok (.value (.tuple #[])) { w with heap := w.heap.setIfInBounds rr (.map ents' ck) } → o.wp P a w next Q := fun ents' es' he hmp hrun => by
    rw [hmp] at hk'
    obtain ⟨s1, s2⟩ := MapKept.heap_set (o' := .map ents' ck) hw
    obtain ⟨HN, TN⟩ := H.putObj (w' := { w with heap := w.heap.setIfInBounds rr (.map ents' ck) }) (k := .mp es' ck) (ob := .map ents' ck) hfl hb rfl hmu rfl (fun e hm => RBs_of he e hm) (.mp_of he) (fun _ _ _ h => by cases h) s1 s2 (by simp) rfl rfl rfl
    exact Oper.wp_value hrun (hk' _ _ _ (.tuple rfl fun i h _ => absurd h (by simp)) HN TN)
  cases r with
  | none =>
    cases r' with
    | some _ => exact h2.elim
    | none =>
      refine fin ents es hers rfl ?_
      rw [hrb]
      simp only [Go.builtin, Builtin.delete_, hat, a0', a1', Sem.run_bind, run_underlying hut, Result.andThen_ok, MapKept.run_getObj_map hw, hck', h1, MapKept.run_setObj_map _ hw, Sem.run_pure]
  | some p =>
    obtain ⟨j, u⟩ := p
    cases r' with
    | none => exact h2.elim
    | some p' =>
      obtain ⟨j', u'⟩ := p'
      obtain ⟨rfl, hu'⟩ := h2
      refine fin (ents.eraseIdxIfInBounds j) (es.eraseIdx j) ?_ rfl ?_
      · rw [Array.toList_eraseIdxIfInBounds]; exact hers.erase j
      · rw [hrb]
        simp only [Go.builtin, Builtin.delete_, hat, a0', a1', Sem.run_bind, run_underlying hut, Result.andThen_ok, MapKept.run_getObj_map hw, hck', h1, MapKept.run_setObj_map _ hw, Sem.run_pure]

theorem ok_lenMap {c : Call} (ho : o.op = .call c) (hc : c.callee = .builtin .len) {t : TypeId} {T : Ty} (ht : c.argTypes[0]? = some t) (hT : tyOf P t = some T) {xs : List Value}
    (hxs : ∀ (μ : Mu) (A : Hp) (ρ : Operand → Value), (∀ x ∈ c.args.toList, ∀ u, ev τ x = some u → VR μ A u (ρ x)) → VRa μ A xs.toArray (c.args.toList.map ρ).toArray) {v : Value} (hv : xs[0]? = some v)
    {kt et : TypeId} {es : List (Value × Value × Nat)} (hd : T.d = .mp kt et) (hm : amap A v es) : OpOK P G o fl τ A (.int .i64 (es.length : Int)) A := by
  obtain ⟨i, d, z, hi, hu, _, rfl⟩ := tyOf_inv hT
  have := td_mp hd; subst this
  refine .same fun μ w ac H hop => ⟨_, ?_, .int _ _⟩
  obtain ⟨v', h1, h2⟩ := (hxs μ A ac.eval fun x hx => hop x (by simp [ho, Op.operands, Call.operands, hc]; simpa using hx)).get (i := 0) (u := v) (by simpa using hv)
  have h1' : (c.args.map ac.eval)[0]? = some v' := by simpa using h1
  obtain ⟨cst, hrb⟩ := run_builtin (P := P) ho hc ac w
  rw [hrb]
  rcases hm with ⟨rfl, rfl⟩ | ⟨id, ck, rfl, hb⟩
  · have := map0_inv h2; subst this
    simp only [Go.builtin, Builtin.len_, ht, h1']
    simp [run_underlying hu, goInt]
  · obtain ⟨rr, oo, SS, ob, rfl, hmu, hw, hbr⟩ := H.map_at hb rfl h2
    obtain ⟨ents, rfl, hers⟩ := hbr.mp_inv
    have hl := hers.length
    simp only [Array.length_toList] at hl
    simp only [Go.builtin, Builtin.len_, ht, h1']
    simp [run_underlying hu, goInt, MapKept.run_getObj_map hw, hl]

theorem find_ERs {μ : Mu} {b : Nat} : ∀ {es : List (Value × Value × Nat)} {l : List MapEntry} {e : Value × Value × Nat}, ERs μ A es l → es.find? (fun e => e.2.2 == b) = some e → ∃ e', l.find? (·.born == b) = some e' ∧ ER μ A e e'
  | [], _, e, _, h => by simp at h
  | _ :: _, [], _, h, _ => h.elim
  | x :: es, x' :: l, e, h, hf => by
    rw [List.find?_cons] at hf ⊢
    rw [h.1.2.2]
    cases hb : x.2.2 == b with
    | true => simp only [hb, Option.some.injEq] at hf; subst hf; exact ⟨x', rfl, h.1⟩
    | false => simp only [hb] at hf; exact find_ERs h.2 hf

theorem ok_entry {x : Operand} (ho : o.op = .entry x) {v : Value} (hv : ev τ x = some v) {K : Value → Prop} (h : aentry A v K) : ∃ u, K u ∧ OpOK P G o fl τ A u A := by
  obtain ⟨id, r, since, seen, last, rfl, hb, b, hl, es, hm, e, hf, hK⟩ := h
  refine ⟨_, hK, .same fun μ w a H hop => ?_⟩
  have hvv := hop x (by simp [ho, Op.operands]) _ hv
  obtain ⟨rr, oo, SS, ob, hv', hmu, hw, hbr⟩ := H.iter_at hb rfl hvv
  cases ob with
  | mapIter m' since' seen' last' =>
    obtain ⟨hmv, rfl, rfl, rfl⟩ := hbr
    cases m' with
    | none => cases hmv
    | some mm =>
      obtain ⟨r2, o2, S2, ob2, hv2, hmu2, hw2, hbr2⟩ := H.map_at hm rfl hmv
      cases hv2
      obtain ⟨ents, rfl, hers⟩ := hbr2.mp_inv
      obtain ⟨e', h1, h2⟩ := find_ERs hers hf
      have h1' : ents.find? (·.born == b) = some e' := by rw [← Array.find?_toList]; exact h1
      have hl' : seen.toArray.back? = some b := by rw [List.getLast?_eq_getElem?] at hl; simpa [Array.back?] using hl
      refine ⟨.tuple #[e'.key, e'.val], ?_, ?_⟩
      · have g1 : ∀ w : World, w.heap[rr]? = some (.mapIter (some mm) since seen.toArray last) → (getObj rr).run P w = .ok (.mapIter (some mm) since seen.toArray last) w := fun w h => by simp [getObj, Sem.run, h]
        have g2 := MapKept.run_getObj_map (P := P) hw2
        simp only [execOp, ho, Instr.entry, hv', Sem.run_bind, g1 w hw, Result.andThen_ok, hl', g2, bne_self_eq_false, Bool.false_eq_true, if_false, h1', Sem.run_pure]
      · exact .tuple rfl fun j hj hj' => by
          match j, hj with
          | 0, _ => exact h2.1
          | 1, _ => exact h2.2.1
  | _ => exact hbr.elim

theorem left_run (ents : Array MapEntry) (seen : Array Nat) (since last ck : Nat) (hold : ∀ x ∈ ents.toList, x.born < since) (hsl : since ≤ last) {w : World} {ir mr : Nat}
    (hi : w.heap[ir]? = some (.mapIter (some mr) since seen last)) (hm : w.heap[mr]? = some (.map ents ck)) (ty : TypeId) :
    ((∀ e ∈ ents.toList, e.born ∈ seen) ∧ (Instr.next (.pointer (some ⟨ir, 0, none⟩)) false ty).run P w = .ok (.tuple #[.bool false]) w) ∨
    ∃ e ∈ ents.toList, e.born ∉ seen ∧ ∃ w1 : World, w1.heap = w.heap ∧ w1.os = w.os ∧ w1.tape = w.tape ∧ w1.output = w.output ∧
      (Instr.next (.pointer (some ⟨ir, 0, none⟩)) false ty).run P w = .ok (.tuple #[.bool true, e.key, e.val]) { w1 with heap := w1.heap.setIfInBounds ir (.mapIter (some mr) since (seen.push e.born) ck) } := by
  simp only [Instr.next, getObj, Sem.run_bind, Sem.run, hi, hm, Result.andThen, next_test_false seen ents since last hold hsl, Bool.false_eq_true, if_false]
  have hmem : ∀ x ∈ (Array.filter (fun e => !seen.contains e.born) ents).toList, x.born < since := fun x hx => hold x (by simp at hx ⊢; exact hx.1)
  have hin : ∀ x ∈ (Array.filter (fun e => !seen.contains e.born) ents).toList, x ∈ ents.toList ∧ x.born ∉ seen := fun x hx => by simpa using hx
  have hall : (Array.filter (fun e => !seen.contains e.born) ents).size = 0 → ∀ e ∈ ents.toList, e.born ∈ seen := fun h e he => by
    have := Array.eq_empty_of_size_eq_zero h
    rw [Array.filter_eq_empty_iff] at this
    have := this e (by simpa using he)
    simpa using this
  generalize Array.filter (fun e => !seen.contains e.born) ents = L at hmem hin hall ⊢
  have e1 : L.filter (fun x => decide (x.born < since)) = L := Array.filter_eq_self.2 (fun x hx => by simpa using hmem x (by simpa using hx))
  have e2 : L.filter (fun x => decide (x.born ≥ since)) = #[] := by
    rw [Array.filter_eq_empty_iff]
    intro x hx
    have := hmem x (by simpa using hx)
    simp
    omega
  simp only [e1, e2, Array.append_empty]
  by_cases h0 : L.size = 0
  · left
    have : L = #[] := Array.eq_empty_of_size_eq_zero h0
    refine ⟨hall h0, ?_⟩
    subst this
    simp [choose, Sem.run, Question.forced]
  · right
    have hne : L.isEmpty = false := by simp [Array.isEmpty, h0]
    simp only [hne, Bool.false_eq_true, if_false, Array.empty_append, Array.size_map]
    have hch : ∃ (j : Nat) (w1 : World), j < L.size ∧ (w1.heap = w.heap ∧ w1.os = w.os ∧ w1.tape = w.tape ∧ w1.output = w.output) ∧ (choose (Question.mapNext L.size)).run P w = .ok j w1 := by
      by_cases hf : L.size ≤ 1
      · exact ⟨0, w, by omega, ⟨rfl, rfl, rfl, rfl⟩, by simp [choose, Sem.run, Question.forced, hf]⟩
      · exact ⟨_, w.drew, Nat.mod_lt _ (by omega), ⟨rfl, rfl, rfl, rfl⟩, by
          simp only [choose, Sem.run, Question.forced, decide_eq_true_eq, hf, if_false, Question.cut]
          rfl⟩
    obtain ⟨j, w1, hj, ⟨q1, q2, q3, q4⟩, hrun⟩ := hch
    obtain ⟨p1, p2⟩ := hin L[j] (by simp)
    refine ⟨L[j], p1, p2, w1, q1, q2, q3, q4, ?_⟩
    have hset : ∀ o', (setObj ir o').run P w1 = .ok () { w1 with heap := w1.heap.setIfInBounds ir o' } := fun o' => by
      simp only [setObj, Sem.run, q1, hi]
    simp only [hrun, Array.getElem?_map, Array.getElem?_eq_getElem hj, Option.map_some, Sem.run_bind, hset, Result.andThen]
    rfl

theorem ERs.mem {μ : Mu} : ∀ {es : List (Value × Value × Nat)} {l : List MapEntry} {e' : MapEntry}, ERs μ A es l → e' ∈ l → ∃ e ∈ es, ER μ A e e'
  | [], [], _, _, h => by simp at h
  | [], _ :: _, _, h, _ => h.elim
  | _ :: _, [], _, h, _ => h.elim
  | x :: es, x' :: l, e', h, hm => by
    rcases List.mem_cons.1 hm with rfl | hm
    · exact ⟨x, by simp, h.1⟩
    · obtain ⟨e, h1, h2⟩ := ERs.mem h.2 hm
      exact ⟨e, by simp [h1], h2⟩
theorem ERs.mem' {μ : Mu} : ∀ {es : List (Value × Value × Nat)} {l : List MapEntry} {e : Value × Value × Nat}, ERs μ A es l → e ∈ es → ∃ e' ∈ l, ER μ A e e'
  | [], _, _, _, h => by simp at h
  | _ :: _, [], _, h, _ => h.elim
  | x :: es, x' :: l, e, h, hm => by
    rcases List.mem_cons.1 hm with rfl | hm
    · exact ⟨x', by simp, h.1⟩
    · obtain ⟨e', h1, h2⟩ := ERs.mem' h.2 hm
      exact ⟨e', by simp [h1], h2⟩

/-- A step of an iterator, whatever it yields. -/
theorem next_wp {x : Operand} {s : Bool} (ho : o.op = .next x s) {K : Value → Hp → Prop} (h : aop P G fl o τ A K) {μ : Mu} {w : World} {a : Act} {next : Act → World → Prop} {Q : Exit → Act → World → Prop}
    (H : HR G μ fl A w) (hfl : fl ≤ A.next) (hop : ∀ x ∈ o.op.operands, ∀ u, ev τ x = some u → VR μ A u (a.eval x))
    (hk : ∀ v A' v' w', K v A' → VR μ A' v v' → HR G μ fl A' w' → Trans fl μ A w μ A' w' → next (a.put o.dst v') w') : o.wp P a w next Q := by
  simp only [aop, ho] at h
  obtain ⟨rfl, v, hv, id, m, since, seen, last, rfl, hb, hfi, h⟩ := h
  have hvv := hop x (by simp [ho, Op.operands]) _ hv
  obtain ⟨rr, oo, SS, ob, hv', hmu, hw, hbr⟩ := H.iter_at hb rfl hvv
  cases ob with
  | mapIter m' since' seen' last' =>
    obtain ⟨hmv, rfl, rfl, rfl⟩ := hbr
    have hex : ∀ v w', (Instr.next (.pointer (some ⟨rr, 0, none⟩)) false o.type).run P w = .ok v w' → (execOp a.eval o).run P w = .ok (.value v) w' := fun v w' h => by
      simp [execOp, ho, hv', h]
    rcases h with ⟨rfl, hK⟩ | ⟨r, es, ck, rfl, hm, hsl, hold, hK0, hK1⟩
    · have hm0 := map0_inv hmv
      cases hm0
      refine Oper.wp_value (hex (.tuple #[.bool false]) w ?_) (hk _ A _ w hK (.tuple rfl fun j hj hj' => ?_) H (Trans.refl _ _ _ _))
      · simp only [Instr.next, getObj, Sem.run_bind, Sem.run, hw, Result.andThen]; rfl
      · match j, hj with
        | 0, _ => exact .bool _
    · cases m' with
      | none => cases hmv
      | some mm =>
        obtain ⟨r2, o2, S2, ob2, hv2, hmu2, hw2, hbr2⟩ := H.map_at hm rfl hmv
        cases hv2
        obtain ⟨ents, rfl, hers⟩ := hbr2.mp_inv
        have hold' : ∀ e' ∈ ents.toList, e'.born < since := fun e' he' => by
          obtain ⟨e, h1, h2⟩ := hers.mem he'
          rw [h2.2.2]; exact hold e h1
        rcases left_run (P := P) ents seen.toArray since last ck hold' hsl hw hw2 o.type with ⟨h1, h2⟩ | ⟨e', h1, h2, w1, q1, q2, q3, q4, h3⟩
        · refine Oper.wp_value (hex _ _ h2) (hk _ A _ w (hK0 fun e he => ?_) (.tuple rfl fun j hj hj' => ?_) H (Trans.refl _ _ _ _))
          · obtain ⟨e', h3, h4⟩ := hers.mem' he
            have := h1 e' h3
            rw [h4.2.2] at this
            simpa using this
          · match j, hj with
            | 0, _ => exact .bool _
        · obtain ⟨e, g1, g2⟩ := hers.mem h1
          have hns : e.2.2 ∉ seen := by rw [← g2.2.2]; simpa using h2
          have hw1 : w1.heap[rr]? = some (.mapIter (some mm) since seen.toArray last) := by rw [q1]; exact hw
          obtain ⟨s1, s2⟩ := MapKept.heap_set (o' := .mapIter (some mm) since (seen.toArray.push e'.born) ck) hw1
          obtain ⟨HN, TN⟩ := H.putObj (w' := { w1 with heap := w1.heap.setIfInBounds rr (.mapIter (some mm) since (seen.toArray.push e'.born) ck) }) (k := .it (some r) since (seen ++ [e.2.2]) ck) (ob := .mapIter (some mm) since (seen.toArray.push e'.born) ck)
            hfi hb rfl hmu rfl hmv.rb ⟨hmv, rfl, by rw [g2.2.2]; simp, rfl⟩ (fun _ _ _ h => by cases h) s1 (fun i hi => by rw [s2 i hi, q1]) (by simp [q1]) q2 q3 q4
          refine Oper.wp_value (hex _ _ h3) (hk _ _ _ _ (hK1 e g1 hns) (.tuple rfl fun j hj hj' => ?_) HN TN)
          match j, hj with
          | 0, _ => exact .bool _
          | 1, _ => exact g2.1.mono TN.ext
          | 2, _ => exact g2.2.1.mono TN.ext
  | _ => exact hbr.elim

end
end Go.Proofs.Ytiiapkhdjchhjaa.Ab

/- append is sound; and all operations in one theorem. -/
namespace Go.Proofs.Ytiiapkhdjchhjaa.Ab
open Go.RowKit
set_option linter.unusedVariables false
set_option linter.unusedSimpArgs false

section
variable {P : Program} {G : Gl} {fl : Nat} {τ : Tm} {A : Hp} {o : Oper}

theorem VRa.list {μ : Mu} {A : Hp} {vs vs' : List Value} (h1 : vs.length = vs'.length) (h : ∀ (j : Nat) (v : Value), vs[j]? = some v → ∃ v' : Value, vs'[j]? = some v' ∧ VR μ A v v') : VRa μ A vs.toArray vs'.toArray :=
  VRa.of_get (by simpa using h1) fun i u hi => by
    obtain ⟨v', h2, h3⟩ := h i u (by simpa using hi)
    exact ⟨v', by simpa using h2, h3⟩

theorem sl_AR {μ : Mu} {A : Hp} {a a' : Addr} {n c c' : Nat} (h : VR μ A (.slice (some a) n c) (.slice (some a') n c')) (hc : c' ≠ 0) : AR μ A a a' := by
  cases h with
  | sl hlt hcc hn hl =>
    obtain ⟨g', hg', hl⟩ := hl
    refine .inr ⟨hlt, g', hg', fun cs g e hb => ⟨(hl cs g e hb).1, fun hgg => ?_⟩⟩
    obtain ⟨b, o, S, hm, hh⟩ := (hl cs g e hb).2 hgg
    exact ⟨b, o, S, hm, (hh hc).1⟩

theorem news_run {μ : Mu} {w : World} (H : HR G μ fl A w) {size m : Nat} {x x' : Value} {vs : List Value} (hn : news G A size x m vs) (hx : VR μ A x x') :
    ∃ vs' : List Value, VRa μ A vs.toArray vs'.toArray ∧ (∀ w2 : World, (Builtin.lenOf x').run P w2 = .ok m w2) ∧ ∀ w2 : World, w2.heap = w.heap → (Builtin.firstCells size m x').run P w2 = .ok vs'.toArray w2 := by
  obtain ⟨hl, h⟩ := hn
  rcases h with ⟨c, rfl, rfl⟩ | ⟨a, c, rfl, hsp, hg⟩ | ⟨s, rfl, rfl, rfl, rfl⟩
  · have : vs = [] := List.eq_nil_of_length_eq_zero (by simpa using hl)
    subst this
    have := hx.sl0_inv; subst this
    exact ⟨[], ⟨rfl, fun i hi => by simp at hi⟩, fun w2 => by simp [Builtin.lenOf], fun w2 _ => by simp [Builtin.firstCells]⟩
  · obtain ⟨a', c', rfl⟩ : ∃ a' c', x' = .slice (some a') m c' := by cases hx; exact ⟨_, _, rfl⟩
    by_cases h0 : m * size = 0
    · rw [h0] at hl
      have : vs = [] := List.eq_nil_of_length_eq_zero hl
      subst this
      refine ⟨[], ⟨rfl, fun i hi => by simp at hi⟩, fun w2 => by simp [Builtin.lenOf], fun w2 _ => ?_⟩
      simp [Builtin.firstCells, h0, loadCells, loadCellsFrom]
    · have hc0 : c' ≠ 0 := by
        have hm : m ≠ 0 := fun h => h0 (by simp [h])
        cases hx with
        | sl hlt hcc hn hl => omega
      obtain ⟨vs', h1, h2, h3⟩ := loads H (sl_AR hx hc0) vs hg
      refine ⟨vs', VRa.list h1 h3, fun w2 => by simp [Builtin.lenOf], fun w2 hw2 => ?_⟩
      exact run_firstCells_some (P := P) w2 size m a' m c' vs' (by omega) fun j v hj => by
        have := h2 j v hj
        simp only [World.cell?, hw2] at this ⊢
        exact this
  · have := hx.string_inv; subst this
    refine ⟨s.data.toList.map fun b => Value.int .u8 (b.toNat : Int), ⟨rfl, fun i hi hi' => ?_⟩, fun w2 => by simp [Builtin.lenOf], fun w2 _ => ?_⟩
    · simp only [List.getElem_toArray, List.getElem_map]; exact .int _ _
    · have hx : (Array.map (fun b : UInt8 => Value.int IntKind.u8 (b.toNat : Int)) s.data).extract 0 s.size = Array.map (fun b : UInt8 => Value.int IntKind.u8 (b.toNat : Int)) s.data := by
        have hs : s.size = (Array.map (fun b : UInt8 => Value.int IntKind.u8 (b.toNat : Int)) s.data).size := by rw [Array.size_map]; rfl
        rw [hs, Array.extract_size]
      simp only [Builtin.firstCells, Sem.run_pure]
      congr 1
      have e1 : (s.extract 0 s.size).data = s.data := by
        have : s.extract 0 s.size = s := by simp
        rw [this]
      rw [e1]
      apply Array.ext'
      simp

theorem run_app_in (w w1 : World) {t u ty e : TypeId} {ud : TypeDesc} (hud : (∃ e', ud = .slice e') ∨ ud = .string) {i : TypeInfo} (ht : P.underlying t = some (.slice e)) (hu : P.underlying u = some ud) (hi : P.info? e = some i)
    {a : Option Addr} {sLen sCap m : Nat} {x' : Value} {vs' : List Value} (hlen : ∀ w2 : World, (Builtin.lenOf x').run P w2 = .ok m w2) (hfc : (Builtin.firstCells i.size m x').run P w = .ok vs'.toArray w)
    (hroom : sLen + m ≤ sCap) (hst : ∀ b, a = some b → (storeCells (b.add (sLen * i.size)) vs').run P w = .ok () w1) (hst0 : a = none → w1 = w) :
    (Builtin.append_ #[t, u] ty #[.slice a sLen sCap, x']).run P w = .ok (.slice a (sLen + m) sCap) w1 := by
  have hsz := run_sizeOf' (P := P) hi w
  cases a with
  | none =>
    have := hst0 rfl; subst this
    rcases hud with ⟨e', rfl⟩ | rfl <;> simp [Builtin.append_, run_underlying ht, run_underlying hu, hsz, hlen, hroom, hfc]
  | some b =>
    have h := hst b rfl
    rcases hud with ⟨e', rfl⟩ | rfl <;> simp [Builtin.append_, run_underlying ht, run_underlying hu, hsz, hlen, hroom, hfc, h]

theorem run_app_out (w : World) {t u ty e : TypeId} {ud : TypeDesc} (hud : (∃ e', ud = .slice e') ∨ ud = .string) {i : TypeInfo} {z : Value} (ht : P.underlying t = some (.slice e)) (hu : P.underlying u = some ud) (hi : P.info? e = some i) (hz : i.zero = some z)
    {a : Option Addr} {sLen sCap m : Nat} {x' : Value} {vs' olds : List Value} (hlen : ∀ w2 : World, (Builtin.lenOf x').run P w2 = .ok m w2) (hfc : (Builtin.firstCells i.size m x').run P w.drew = .ok vs'.toArray w.drew)
    (hfo : (Builtin.firstCells i.size sLen (.slice a sLen sCap)).run P w.drew = .ok olds.toArray w.drew)
    (hroom : sCap < sLen + m) (h63 : ((sLen + m : Nat) : Int) ≤ 9223372036854775807) (hfit : Builtin.nextslicecap (sLen + m) sCap * i.bytes ≤ 281474976710656) :
    (Builtin.append_ #[t, u] ty #[.slice a sLen sCap, x']).run P w = .ok (.slice (some ⟨w.heap.size, 0, none⟩) (sLen + m) (grownCap w (sLen + m) sCap e))
      (w.drew.alloc (.cells (olds.toArray ++ vs'.toArray ++ Builtin.zeroCells z.cells (grownCap w (sLen + m) sCap e - (sLen + m))) e)) := by
  have hn : ¬ (sLen + m ≤ sCap) := by omega
  have h63' : ¬ (9223372036854775807 < ((sLen : Int) + (m : Int))) := by omega
  have h48' : ¬ (281474976710656 < Builtin.nextslicecap (sLen + m) sCap * i.bytes) := by omega
  have hsz := fun w => run_sizeOf' (P := P) hi w
  have hzr := fun w => run_zero' (P := P) hi hz w
  have hti := fun w => run_typeInfo' (P := P) hi w
  rcases hud with ⟨e', rfl⟩ | rfl
  · simp [Builtin.append_, run_underlying ht, run_underlying hu, hsz, hti, hzr, hlen, hn, h63', h48', Question.forced, hfc, hfo, newRow, grownCap]
    congr 2
    apply Array.ext'
    simp [List.append_assoc]
  · simp [Builtin.append_, run_underlying ht, run_underlying hu, hsz, hti, hzr, hlen, hn, h63', h48', Question.forced, hfc, hfo, newRow, grownCap]
    congr 2
    apply Array.ext'
    simp [List.append_assoc]

theorem ok_append {c : Call} (ho : o.op = .call c) (hc : c.callee = .builtin .append) {s x : Value}
    (hxs : ∀ (μ : Mu) (A : Hp) (ρ : Operand → Value), (∀ x ∈ c.args.toList, ∀ u, ev τ x = some u → VR μ A u (ρ x)) → VRa μ A [s, x].toArray (c.args.toList.map ρ).toArray) {K : Value → Hp → Prop}
    (h : aappend P G fl A c.argTypes s x K) : ∃ v A', K v A' ∧ OpOK P G o fl τ A v A' := by
  obtain ⟨t, u, e, T, E, m, vs, hat, hT, hd, hE, hU, hsz0, hzl, hone, hnews, h⟩ := h
  obtain ⟨it, dt, zt, hit, hut, _, rfl⟩ := tyOf_inv hT
  obtain ⟨ie, de, ze, hie, hue, hze, rfl⟩ := tyOf_inv hE
  have := td_sl hd; subst this
  cases hUt : tyOf P u with
  | none => simp [hUt] at hU
  | some U =>
  obtain ⟨iu, du, zu, hiu, huu, _, rfl⟩ := tyOf_inv hUt
  have hud : (∃ e', du = .slice e') ∨ du = .string := by
    simp only [hUt, Option.map_some, Option.some.injEq] at hU
    cases hdd : toTD P du with
    | sl e' => exact .inl ⟨e', td_sl hdd⟩
    | str => exact .inr (td_str hdd)
    | _ => simp [hdd] at hU
  have args : ∀ {μ : Mu} {ac : Act}, (∀ x ∈ o.op.operands, ∀ u, ev τ x = some u → VR μ A u (ac.eval x)) → ∃ s' x', c.args.map ac.eval = #[s', x'] ∧ VR μ A s s' ∧ VR μ A x x' := fun {μ ac} hop => by
    have hr := hxs μ A ac.eval fun x hx => hop x (by simp [ho, Op.operands, Call.operands, hc]; simpa using hx)
    have hsz := hr.1
    simp only [List.size_toArray, List.length_cons, List.length_nil, List.length_map, Array.length_toList] at hsz
    obtain ⟨u0, a0, b0⟩ := hr.get (i := 0) (u := s) rfl
    obtain ⟨u1, a1, b1⟩ := hr.get (i := 1) (u := x) rfl
    refine ⟨u0, u1, ?_, b0, b1⟩
    apply Array.ext'
    apply List.ext_getElem?
    intro j
    match j with
    | 0 => simpa using a0
    | 1 => simpa using a1
    | j + 2 => rw [List.getElem?_eq_none (by simp; omega), List.getElem?_eq_none (by simp)]
  simp only at hnews hsz0 hzl
  have hvl : vs.length = m * ie.size := hnews.1
  rcases h with ⟨rfl, rfl, hK⟩ | ⟨rfl, hm, hby, hmx, hK⟩ | ⟨a, n, cp, g, cs, rfl, hsp, hb, hfl, hlen, hones, hby, hmx, hK⟩
  · refine ⟨_, _, hK, .same fun μ w ac H hop => ?_⟩
    obtain ⟨s', x', ha, hs', hx'⟩ := args hop
    have := hs'.sl0_inv; subst this
    obtain ⟨vs', r1, r2, r3⟩ := news_run (P := P) H hnews hx'
    obtain ⟨cst, hrb⟩ := run_builtin (P := P) ho hc ac w
    have hrun := run_app_in (P := P) w w (ty := o.type) hud hut huu hie (a := none) (sLen := 0) (sCap := 0) r2 (r3 w rfl) (by omega) (fun b hb => by cases hb) (fun _ => rfl)
    refine ⟨.slice none 0 0, ?_, .sl0 _ _⟩
    rw [hrb, ha, hat]
    simp only [Go.builtin, Sem.run_bind, hrun, Result.andThen_ok, Sem.run_pure]
  · refine ⟨_, _, hK, .make (n := m) (c := m) (.inr ⟨rfl, Nat.le_refl _⟩) fun μ w ac H hop => ?_⟩
    obtain ⟨s', x', ha, hs', hx'⟩ := args hop
    have := hs'.sl0_inv; subst this
    obtain ⟨vs', r1, r2, r3⟩ := news_run (P := P) H hnews hx'
    obtain ⟨cst, hrb⟩ := run_builtin (P := P) ho hc ac w
    have hrun := run_app_out (P := P) w (ty := o.type) hud hut huu hie hze (a := none) (sLen := 0) (sCap := 0) (olds := []) r2 (r3 w.drew rfl) (by simp [Builtin.firstCells]) (by omega) (by omega)
      (growslice_fits (by omega) (by simpa using hby))
    have hvl' : vs.length = vs'.length := by have := r1.1; simpa using this
    have hge := grownCap_ge w (0 + m) 0 e
    simp only [Nat.zero_add] at hrun hge
    have hzs : ze.cells.size = ie.size := by simpa using hzl
    refine ⟨vs'.toArray ++ Builtin.zeroCells ze.cells (grownCap w m 0 e - m), e, (0, 0), w.drew.alloc (.cells (vs'.toArray ++ Builtin.zeroCells ze.cells (grownCap w m 0 e - m)) e), grownCap w m 0 e, ?_, fun j v hj => ?_, by simp, ?_, ?_, ?_, ?_, hge, ?_, ?_⟩
    · simp [hvl']
    · obtain ⟨v', h1, h2⟩ := r1.get (i := j) (u := v) (by simpa using hj)
      have hlt := (Array.getElem?_eq_some_iff.1 h1).1
      exact ⟨v', by rw [Array.getElem?_append_left hlt]; exact h1, h2⟩
    · rfl
    · rfl
    · rfl
    · rfl
    · simp only [Array.size_append, List.size_toArray, size_zeroCells, hzs, ← hvl', hvl, ← Nat.add_mul]
      exact Nat.mul_le_mul_right _ (by omega)
    · rw [hrb, ha, hat]
      simp only [Go.builtin, Sem.run_bind, hrun, Result.andThen_ok, Sem.run_pure]
      simp
  · refine ⟨_, _, hK, ?_⟩
    intro μ w ac next Q H hfl' hop hk
    obtain ⟨s', x', ha, hs', hx'⟩ := args hop
    obtain ⟨a', cp', rfl⟩ : ∃ a' c', s' = .slice (some a') n c' := by cases hs'; exact ⟨_, _, rfl⟩
    obtain ⟨vs', r1, r2, r3⟩ := news_run (P := P) H hnews hx'
    obtain ⟨cst, hrb⟩ := run_builtin (P := P) ho hc ac w
    have hvl' : vs.length = vs'.length := by have := r1.1; simpa using this
    have hzs : ze.cells.size = ie.size := by simpa using hzl
    simp only at hb hlen hfl hby hK ⊢
    -- where the row lies
    have hs'' := hs'
    cases hs'' with
    | @sl _ _ _ _ _ hlt hcc hn hl =>
    obtain ⟨g', hg', hl⟩ := hl
    rw [hsp] at hg'; cases hg'
    obtain ⟨b, ob, S, hm, hplace⟩ := (hl cs g ie.size hb).2 rfl
    obtain ⟨c, tt, fr, hw, hS, hle, hcc2⟩ := H.row _ _ _ _ _ _ _ hb hm
    have hidx : a.block < A.next := hlt
    -- the elder elements
    have hold : ∀ (j : Nat) (v : Value), ((cs.drop a.off).take (n * ie.size))[j]? = some v → ∃ v' : Value, c[ob + a.off + j]? = some v' ∧ VR μ A v v' := fun j v hj => by
      have hjl : j < n * ie.size := by
        have := (List.getElem?_eq_some_iff.1 hj).1
        simp only [List.length_take, List.length_drop] at this; omega
      rw [List.getElem?_take_of_lt hjl, List.getElem?_drop] at hj
      obtain ⟨v', h1, h2⟩ := hcc2 (a.off + j) v hj
      exact ⟨v', by rw [Nat.add_assoc]; exact h1, h2⟩
    have holdlen : ((cs.drop a.off).take (n * ie.size)).length = n * ie.size := by
      simp only [List.length_take, List.length_drop]; omega
    by_cases hroom : n + m ≤ cp'
    · by_cases hz : cp' = 0
      · -- nothing at all is stored
        have hm0 : m = 0 := by omega
        have hn0 : n = 0 := by omega
        subst hm0; subst hn0
        have hvs0 : vs = [] := List.eq_nil_of_length_eq_zero (by simpa using hvl)
        have hvs0' : vs' = [] := List.eq_nil_of_length_eq_zero (by rw [← hvl', hvs0]; rfl)
        subst hvs0; subst hvs0'
        have hrun := run_app_in (P := P) w w (ty := o.type) hud hut huu hie (a := some a') (sLen := 0) (sCap := cp') r2 (r3 w rfl) (by omega) (fun b hb => by simp [storeCells]) (fun h => by cases h)
        obtain ⟨HN, TN⟩ := H.retell (w' := w) (e2 := ie.size) (g2 := g + 1) (ds := []) (b' := b) (o' := ob) (S' := S) hfl (by omega) hb hm (fun _ _ _ => rfl) (Nat.le_refl _) rfl rfl rfl hw hS (by simp; omega)
          (fun j hj hh => by
            have := H.free _ _ _ _ _ _ _ hfl hb hm j hj
            simp only [World.frozen?, hw, Bool.and_eq_false_iff, decide_eq_false_iff_not] at this
            omega) (fun j v hj => by simp at hj) (.inl rfl)
        refine Oper.wp_value (v := .slice (some a') 0 cp') ?_ (hk _ w _ ?_ (by simpa using HN) (by simpa using TN))
        · rw [hrb, ha, hat]
          simp only [Go.builtin, Sem.run_bind, hrun, Result.andThen_ok, Sem.run_pure]
        · refine .sl (by simpa using hidx) (by omega) (by omega) ⟨g + 1, rfl, fun cs2 g2 e2 hb2 => ?_⟩
          simp only [Hp.put_blk, if_true] at hb2
          cases hb2
          exact ⟨Nat.le_refl _, fun _ => ⟨b, ob, S, by simp [Mu.add], fun hne => absurd hz hne⟩⟩
      · obtain ⟨rfl, hSr⟩ := hplace hz
        have hmul : (n + m) * ie.size = n * ie.size + m * ie.size := Nat.add_mul _ _ _
        have hmul2 : (n + m) * ie.size ≤ cp' * ie.size := Nat.mul_le_mul_right _ hroom
        have hst := run_storeCells_cells (P := P) b (ob + a.off + n * ie.size) vs' 0 w (fun j hj => by
            rw [cell?_plain w b _ hw]
            simp only [Option.isSome_iff_exists, Nat.add_zero]
            exact ⟨_, Array.getElem?_eq_getElem (by omega)⟩)
          (fun j hj => H.free _ _ _ _ _ _ _ hfl hb hm _ (by omega))
          (fun v hv => by
            obtain ⟨j, hj⟩ := List.mem_iff_getElem?.1 hv
            have hjl := (List.getElem?_eq_some_iff.1 hj).1
            obtain ⟨v2, h3, h4⟩ := r1.get (i := j) (u := vs[j]) (by simp [hvl', hjl])
            simp only [List.getElem?_toArray, hj, Option.some.injEq] at h3
            subst h3
            rw [← h4.one]
            exact List.all_eq_true.1 hone _ (List.getElem_mem _))
        simp only [Nat.add_zero] at hst
        have hrun := run_app_in (P := P) w (w.setCells b (ob + a.off + n * ie.size) vs') (ty := o.type) hud hut huu hie (a := some ⟨b, ob + a.off, none⟩) (sLen := n) (sCap := cp') r2 (r3 w rfl) hroom
          (fun b2 hb2 => by
            cases hb2
            rw [Addr.add_lit]
            exact hst) (fun h => by cases h)
        -- the world behind
        have hwc : ∀ (us : List Value) (off : Nat) (w : World) (c : Array Value), w.heap[b]? = some (.cells c tt fr) → off + us.length ≤ c.size →
            ∃ c2 : Array Value, (w.setCells b off us).heap[b]? = some (.cells c2 tt fr) ∧ c2.size = c.size ∧ (∀ k, k ≠ b → (w.setCells b off us).heap[k]? = w.heap[k]?) ∧ (w.setCells b off us).heap.size = w.heap.size ∧
              (w.setCells b off us).os = w.os ∧ (w.setCells b off us).tape = w.tape ∧ (w.setCells b off us).output = w.output ∧ (∀ j, j < off → c2[j]? = c[j]?) ∧ ∀ j, j < us.length → c2[off + j]? = us[j]? := by
          intro us
          induction us with
          | nil => intro off w c hw _; exact ⟨c, hw, rfl, fun _ _ => rfl, rfl, rfl, rfl, rfl, fun _ _ => rfl, fun j hj => by simp at hj⟩
          | cons v us ih =>
            intro off w c hw hlen
            simp only [List.length_cons] at hlen
            have h1 : (w.setCell ⟨b, off, none⟩ v).heap[b]? = some (.cells (c.setIfInBounds off v) tt fr) := by simp [World.setCell, Array.getElem?_modify, hw]
            obtain ⟨c2, q1, q2, q3, q4, q5, q6, q7, q8, q9⟩ := ih (off + 1) (w.setCell ⟨b, off, none⟩ v) _ h1 (by simp; omega)
            refine ⟨c2, q1, by simpa using q2, fun k hk => (q3 k hk).trans (Below.heap_setCell _ _ _ _ hk), by rw [World.setCells, q4]; simp [World.setCell], q5, q6, q7, fun j hj => ?_, fun j hj => ?_⟩
            · rw [q8 j (by omega), Array.getElem?_setIfInBounds_ne (by omega)]
            · cases j with
              | zero =>
                rw [Nat.add_zero, q8 off (by omega), Array.getElem?_setIfInBounds_self_of_lt (by omega)]; rfl
              | succ j =>
                have := q9 j (by simpa using hj)
                rw [show off + (j + 1) = off + 1 + j by omega, this]; rfl
        obtain ⟨c2, q1, q2, q3, q4, q5, q6, q7, q8, q9⟩ := hwc vs' (ob + a.off + n * ie.size) w c hw (by omega)
        obtain ⟨HN, TN⟩ := H.retell (w' := w.setCells b (ob + a.off + n * ie.size) vs') (e2 := ie.size) (g2 := g + 1) (ds := (cs.drop a.off).take (n * ie.size) ++ vs) (b' := b) (o' := ob + a.off) (S' := S) hfl (by omega) hb hm
          (fun k hk _ => q3 k hk) (by omega) q5 q6 q7 q1 (by omega) (by rw [List.length_append, holdlen, hvl]; omega)
          (fun j hj hh => by
            have := H.free _ _ _ _ _ _ _ hfl hb hm j hj
            simp only [World.frozen?, hw, Bool.and_eq_false_iff, decide_eq_false_iff_not] at this
            omega)
          (fun j v hj => by
            by_cases hjl : j < n * ie.size
            · rw [List.getElem?_append_left (by omega)] at hj
              obtain ⟨v', h1, h2⟩ := hold j v hj
              exact ⟨v', by rw [q8 _ (by omega)]; exact h1, h2⟩
            · rw [List.getElem?_append_right (by omega), holdlen] at hj
              obtain ⟨v', h1, h2⟩ := r1.get (i := j - n * ie.size) (u := v) (by simpa using hj)
              have hjv := (Array.getElem?_eq_some_iff.1 h1).1
              simp only [List.size_toArray] at hjv
              have := q9 (j - n * ie.size) hjv
              rw [show ob + a.off + n * ie.size + (j - n * ie.size) = ob + a.off + j by omega] at this
              exact ⟨v', by rw [this]; simpa using h1, h2⟩) (.inl rfl)
        refine Oper.wp_value (v := .slice (some ⟨b, ob + a.off, none⟩) (n + m) cp') ?_ (hk _ _ _ ?_ HN TN)
        · rw [hrb, ha, hat]
          simp only [Go.builtin, Sem.run_bind, hrun, Result.andThen_ok, Sem.run_pure]
        · refine .sl (by simpa using hidx) hroom hroom ⟨g + 1, rfl, fun cs2 g2 e2 hb2 => ?_⟩
          simp only [Hp.put_blk, if_true] at hb2
          cases hb2
          exact ⟨Nat.le_refl _, fun _ => ⟨b, ob + a.off, S, by simp [Mu.add], fun _ => ⟨rfl, by simpa using hSr⟩⟩⟩
    · -- a new row
      have hfo : ∃ olds : List Value, olds.length = n * ie.size ∧ (Builtin.firstCells ie.size n (.slice (some a') n cp')).run P w.drew = .ok olds.toArray w.drew ∧ ∀ (j : Nat) (v : Value), ((cs.drop a.off).take (n * ie.size))[j]? = some v → ∃ v' : Value, olds[j]? = some v' ∧ VR μ A v v' := by
        by_cases hz : cp' = 0
        · have hn0 : n = 0 := by omega
          subst hn0
          exact ⟨[], by simp, by simp [Builtin.firstCells, loadCells, loadCellsFrom], fun j v hj => by simp at hj⟩
        · obtain ⟨olds, h1, h2, h3⟩ := loads H (sl_AR hs' hz) ((cs.drop a.off).take (n * ie.size)) (fun j v hj => by
            have hjl : j < n * ie.size := by
              have := (List.getElem?_eq_some_iff.1 hj).1
              simp only [List.length_take, List.length_drop] at this; omega
            rw [List.getElem?_take_of_lt hjl, List.getElem?_drop] at hj
            simp only [Hp.get, aadd, hsp, hb, if_true]
            exact hj)
          exact ⟨olds, by omega, run_firstCells_some (P := P) w.drew ie.size n a' n cp' olds (by omega) (fun j v hj => by
            have := h2 j v hj
            exact this), h3⟩
      obtain ⟨olds, ho1, ho2, ho3⟩ := hfo
      have hrun := run_app_out (P := P) w (ty := o.type) hud hut huu hie hze (a := some a') (sLen := n) (sCap := cp') (olds := olds) r2 (r3 w.drew rfl) ho2 (by omega) (by omega) (growslice_fits (by omega) hby)
      have hge := grownCap_ge w (n + m) cp' e
      have hsize : (olds.toArray ++ vs'.toArray ++ Builtin.zeroCells ze.cells (grownCap w (n + m) cp' e - (n + m))).size = grownCap w (n + m) cp' e * ie.size := by
        simp only [Array.size_append, List.size_toArray, size_zeroCells, hzs, ho1, ← hvl', hvl, ← Nat.add_mul]
        congr 1; omega
      have hnewb : (w.drew.alloc (.cells (olds.toArray ++ vs'.toArray ++ Builtin.zeroCells ze.cells (grownCap w (n + m) cp' e - (n + m))) e)).heap[w.heap.size]? = some (.cells (olds.toArray ++ vs'.toArray ++ Builtin.zeroCells ze.cells (grownCap w (n + m) cp' e - (n + m))) e (0, 0)) := by
        show (w.heap.push _)[w.heap.size]? = _
        simp
      obtain ⟨HN, TN⟩ := H.retell (w' := w.drew.alloc (.cells (olds.toArray ++ vs'.toArray ++ Builtin.zeroCells ze.cells (grownCap w (n + m) cp' e - (n + m))) e)) (e2 := ie.size) (g2 := g + 1)
        (ds := (cs.drop a.off).take (n * ie.size) ++ vs) (b' := w.heap.size) (o' := 0) (S' := grownCap w (n + m) cp' e * ie.size) hfl (by omega) hb hm
        (fun k _ hk => by show (w.heap.push _)[k]? = _; exact getElem?_push_lt _ hk) (by show _ ≤ (w.heap.push _).size; simp) rfl rfl rfl hnewb hsize
        (by rw [List.length_append, holdlen, hvl, ← Nat.add_mul, Nat.zero_add]; exact Nat.mul_le_mul_right _ hge) (by simp)
        (fun j v hj => by
          rw [Nat.zero_add]
          by_cases hjl : j < n * ie.size
          · rw [List.getElem?_append_left (by omega)] at hj
            obtain ⟨v', h1, h2⟩ := ho3 j v hj
            refine ⟨v', ?_, h2⟩
            rw [Array.getElem?_append_left (by simp; omega), Array.getElem?_append_left (by simp; omega)]
            simpa using h1
          · rw [List.getElem?_append_right (by omega), holdlen] at hj
            obtain ⟨v', h1, h2⟩ := r1.get (i := j - n * ie.size) (u := v) (by simpa using hj)
            have hjv := (Array.getElem?_eq_some_iff.1 h1).1
            simp only [List.size_toArray] at hjv
            refine ⟨v', ?_, h2⟩
            rw [Array.getElem?_append_left (by simp; omega), Array.getElem?_append_right (by simp; omega)]
            simpa [ho1] using h1) (.inr (Nat.le_refl _))
      refine Oper.wp_value (v := .slice (some ⟨w.heap.size, 0, none⟩) (n + m) (grownCap w (n + m) cp' e)) ?_ (hk _ _ _ ?_ HN TN)
      · rw [hrb, ha, hat]
        simp only [Go.builtin, Sem.run_bind, hrun, Result.andThen_ok, Sem.run_pure]
      · refine .sl (by simpa using hidx) hge hge ⟨g + 1, rfl, fun cs2 g2 e2 hb2 => ?_⟩
        simp only [Hp.put_blk, if_true] at hb2
        cases hb2
        exact ⟨Nat.le_refl _, fun _ => ⟨w.heap.size, 0, grownCap w (n + m) cp' e * ie.size, by simp [Mu.add], fun _ => ⟨rfl, by simp⟩⟩⟩


/-- Operations that neither read nor write memory. -/
def toInt (P : Program) (d : TypeId) : Bool := match tyOf P d with | some T => (match T.d with | .int _ => true | _ => false) | none => false
def pureOp (P : Program) : Op → Bool
  | .move _ | .assign _ | .pick .. | .nilCheck _ | .binOp .. | .unOp .. | .makeFunc .. | .fieldAddr .. | .field .. | .indexAddr .. | .index .. | .extract .. => true
  | .build .. => true
  | .convert _ d _ => toInt P d
  | _ => false

theorem zeroCells_zl {z : Array Value} {n k : Nat} (h : z.size = k) : (Builtin.zeroCells z n).toList = zl z.toList (n * k) := by
  unfold Builtin.zeroCells zl
  simp only [Array.toList_map, Array.toList_range, Array.length_toList, h]
  apply List.map_congr_left
  intro j _
  simp only [List.getD, Array.getElem?_toList]
  rw [getElem!_def]
  cases z[j % k]? <;> rfl

theorem ok_clear {c : Call} (ho : o.op = .call c) (hc : c.callee = .builtin .clear) {xs : List Value}
    (hxs : ∀ (μ : Mu) (A : Hp) (ρ : Operand → Value), (∀ x ∈ c.args.toList, ∀ u, ev τ x = some u → VR μ A u (ρ x)) → VRa μ A xs.toArray (c.args.toList.map ρ).toArray) {K : Value → Hp → Prop}
    (h : aclear P fl A c.argTypes xs K) : ∃ v A', K v A' ∧ OpOK P G o fl τ A v A' := by
  obtain ⟨t, e, T, E, s, hat, hT, hd, hE, rfl, hzc, hzl, h⟩ := h
  obtain ⟨it, dt, zt, hit, hut, _, rfl⟩ := tyOf_inv hT
  obtain ⟨ie, de, ze, hie, hue, hze, rfl⟩ := tyOf_inv hE
  have := td_sl hd; subst this
  have args : ∀ {μ : Mu} {ac : Act}, (∀ x ∈ o.op.operands, ∀ u, ev τ x = some u → VR μ A u (ac.eval x)) → ∃ s', c.args.map ac.eval = #[s'] ∧ VR μ A s s' := fun {μ ac} hop => by
    have hr := hxs μ A ac.eval fun x hx => hop x (by simp [ho, Op.operands, Call.operands, hc]; simpa using hx)
    have hsz := hr.1
    simp only [List.size_toArray, List.length_cons, List.length_nil, List.length_map, Array.length_toList] at hsz
    obtain ⟨u0, a0, b0⟩ := hr.get (i := 0) (u := s) rfl
    refine ⟨u0, ?_, b0⟩
    apply Array.ext'
    apply List.ext_getElem?
    intro j
    match j with
    | 0 => simpa using a0
    | j + 1 => rw [List.getElem?_eq_none (by simp; omega), List.getElem?_eq_none (by simp)]
  simp only at hzc hzl h
  rcases h with ⟨a, cp, rfl, hK⟩ | ⟨a, n, cp, g, cs, e', rfl, h0, hsp, hb, hfl, hlen, hK⟩
  · refine ⟨_, _, hK, .same fun μ w ac H hop => ⟨.tuple #[], ?_, .tuple rfl fun i h _ => absurd h (by simp)⟩⟩
    obtain ⟨s', ha, hs⟩ := args hop
    obtain ⟨a', c', rfl⟩ : ∃ a' c', s' = .slice a' 0 c' := by cases hs <;> exact ⟨_, _, rfl⟩
    obtain ⟨cst, hrb⟩ := run_builtin (P := P) ho hc ac w
    rw [hrb, ha, hat]
    cases a' <;> simp [Go.builtin, Builtin.clear_, run_underlying hut]
  · refine ⟨_, _, hK, ?_⟩
    intro μ w ac next Q H hfl' hop hk
    obtain ⟨s', ha, hs⟩ := args hop
    have hzs : ze.cells.size = ie.size := by simpa using hzl
    obtain ⟨cst, hrb⟩ := run_builtin (P := P) ho hc ac w
    cases hs with
    | @sl _ a' _ _ cp' hlt hcc hn hl =>
    obtain ⟨g', hg', hl⟩ := hl
    rw [hsp] at hg'; cases hg'
    obtain ⟨b, ob, S, hm, hplace⟩ := (hl cs g e' hb).2 rfl
    obtain ⟨rfl, hSr⟩ := hplace (by omega)
    obtain ⟨cc, tt, fr, hw, hS, hle, hcc2⟩ := H.row _ _ _ _ _ _ _ hb hm
    have hzlen : (zl ze.cells.toList (n * ie.size)).length = n * ie.size := by simp [zl]
    have hst := run_storeCells_cells (P := P) b (ob + a.off) (zl ze.cells.toList (n * ie.size)) 0 w (fun j hj => by
        rw [cell?_plain w b _ hw]
        simp only [Option.isSome_iff_exists, Nat.add_zero]
        exact ⟨_, Array.getElem?_eq_getElem (by omega)⟩)
      (fun j hj => H.free _ _ _ _ _ _ _ hfl hb hm _ (by omega))
      (fun v hv => by
        have := zl_zc hzc (n * ie.size) v hv
        cases v <;> first | rfl | simp [zc] at this)
    simp only [Nat.add_zero] at hst
    obtain ⟨HN, TN⟩ := HR.setCells hfl hm (zl ze.cells.toList (n * ie.size)) (zl ze.cells.toList (n * ie.size)) A w cs a.off H hb (by omega) rfl (fun j v v' e1 e2 => by
      rw [e1] at e2; cases e2
      exact VR.of_zc (zl_zc hzc _ v (List.mem_of_getElem? e1)))
    refine Oper.wp_value (v := .tuple #[]) ?_ (hk _ (w.setCells b (ob + a.off) (zl ze.cells.toList (n * ie.size))) _ (.tuple rfl fun i h _ => absurd h (by simp)) HN TN)
    rw [hrb, ha, hat]
    obtain ⟨m, rfl⟩ : ∃ m, n = m + 1 := ⟨n - 1, by omega⟩
    have hz2 := fun w => run_zero' (P := P) hie hze w
    simp [Go.builtin, Builtin.clear_, run_underlying hut, hz2, zeroCells_zl hzs, hst]

theorem zc_all {l : List Value} (h : l.all zc = true) : ∀ (μ : Mu) (A : Hp), ∀ u ∈ l, VR μ A u u := fun μ A u hu => VR.of_zc (List.all_eq_true.1 h u hu)

/-- Every operation is sound. -/
theorem aop_sound {K : Value → Hp → Prop} (hnx : isNextO o.op = false) (h : aop P G fl o τ A K) : ∃ v A', K v A' ∧ OpOK P G o fl τ A v A' ∧ (pureOp P o.op = true → A' = A ∧ ∀ (fl : Nat) (A : Hp), OpOK P G o fl τ A v A) := by
  obtain ⟨q, hq⟩ : ∃ q, pureOp P o.op = q := ⟨_, rfl⟩
  rw [hq]
  have np : ∀ {v : Value} {A' : Hp}, K v A' → OpOK P G o fl τ A v A' → pureOp P o.op = false → ∃ v A', K v A' ∧ OpOK P G o fl τ A v A' ∧ (q = true → A' = A ∧ ∀ (fl : Nat) (A : Hp), OpOK P G o fl τ A v A) :=
    fun {v A'} hK hO hp => ⟨v, A', hK, hO, fun h => by rw [← hq, hp] at h; cases h⟩
  have pr : ∀ {v : Value}, K v A → (∀ (fl : Nat) (A : Hp), OpOK P G o fl τ A v A) → ∃ v A', K v A' ∧ OpOK P G o fl τ A v A' ∧ (q = true → A' = A ∧ ∀ (fl : Nat) (A : Hp), OpOK P G o fl τ A v A) :=
    fun {v} hK hO => ⟨v, A, hK, hO fl A, fun _ => ⟨rfl, hO⟩⟩
  cases ho : o.op <;> simp only [aop, ho] at h <;> (try exact h.elim)
  case move x => obtain ⟨v, hv, hK⟩ := h; exact pr hK fun _ _ => ok_move ho hv
  case assign x => obtain ⟨v, hv, hK⟩ := h; exact pr hK fun _ _ => ok_assign ho hv
  case pick c x y =>
    obtain ⟨b, hc, h1, h2⟩ := h
    cases b with
    | true => obtain ⟨v, hv, hK⟩ := h1 rfl; exact pr hK fun _ _ => ok_pick ho hc (by simpa using hv)
    | false => obtain ⟨v, hv, hK⟩ := h2 rfl; exact pr hK fun _ _ => ok_pick ho hc (by simpa using hv)
  case alloc t => obtain ⟨T, hT, hz, hK⟩ := h; exact np hK (ok_alloc ho hT (zc_all hz)) (by rw [ho]; rfl)
  case box t x => obtain ⟨T, hT, v, hv, hK⟩ := h; exact np hK (ok_box ho hv) (by rw [ho]; rfl)
  case build t ps =>
    obtain ⟨T, hT, hz, h⟩ := h
    obtain ⟨pvs, h, hp⟩ := evp_spec _ _ _ h
    simp only [List.nil_append] at h
    rcases h with ⟨fs, hd, cs, hb, hK⟩ | ⟨n, e, E, hd, hE, cs, hb, hK⟩
    · exact pr hK fun _ _ => ok_build_st ho hT (zc_all hz) hd hp hb
    · exact pr hK fun _ _ => ok_build_arr ho hT (zc_all hz) hd hE hp hb
  case buildSlice t len ps =>
    obtain ⟨T, hT, e, E, hd, hE, hz, h24, h⟩ := h
    obtain ⟨pvs, h, hp⟩ := evp_spec _ _ _ h
    simp only [List.nil_append] at h
    obtain ⟨cs, hb, hK⟩ := h
    exact np hK (ok_buildSlice ho hT hd hE hz h24 hp hb) (by rw [ho]; rfl)
  case load t x =>
    obtain ⟨p, hp, T, hT, h⟩ := h
    rcases h with ⟨ha, h⟩ | ⟨ha, v, hv, hK⟩
    · obtain ⟨vs, hK, hl, hg⟩ := rdn_spec _ _ _ _ h
      simp only [List.nil_append, Nat.zero_add] at hK hg
      exact np hK (ok_load_agg ho hp hT ha hl hg) (by rw [ho]; rfl)
    · exact np hK (ok_load_one ho hp hT ha hv) (by rw [ho]; rfl)
  case store t x y =>
    obtain ⟨p, hp, v, hv, T, hT, hsz, hone, g, cs, e, hsp, hb, hfl, hlen, hK⟩ := h
    exact np hK (ok_store ho hp hv hT hsz hone hsp hb hfl hlen) (by rw [ho]; rfl)
  case nilCheck x =>
    rcases h with ⟨p, hp, hK⟩ | ⟨f, a, b, hp, hK⟩
    · exact pr hK fun _ _ => ok_nilCheck ho hp
    · exact pr hK fun _ _ => ok_nilCheckF ho hp
  case binOp op t x y yt =>
    obtain ⟨a, ha, b, hb, h⟩ := h
    obtain ⟨r, hK, hO⟩ := ok_abin ho ha hb h
    exact pr hK hO
  case unOp op t x =>
    cases op <;> simp only at h <;> (try exact h.elim)
    case neg => obtain ⟨k, n, hx, hK⟩ := h; exact pr hK fun _ _ => ok_neg ho hx
    case not => obtain ⟨b, hx, hK⟩ := h; exact pr hK fun _ _ => ok_not ho hx
  case convert s d x =>
    obtain ⟨S, hS, D, hD, v, hv, h⟩ := h
    rcases h with ⟨k, k', n, hd, rfl, hK⟩ | ⟨b, hd, rfl, hK⟩ | ⟨e, E, b, hs, hd, hE, he, rfl, hK⟩ | ⟨e, E, hs, hd, hE, he, h⟩
    · exact pr hK fun _ _ => ok_conv_int ho hS hD hd hv
    · exact np hK (ok_conv_str ho hS hD hd hv) (by rw [ho]; simp [pureOp, toInt, hD, hd])
    · exact np hK (ok_conv_bytes ho hS hD hs hd hE he hv) (by rw [ho]; simp [pureOp, toInt, hD, hd])
    · rcases h with ⟨n, c, rfl, hK⟩ | ⟨a, n, c, l, rfl, hsp, hl, hg, hK⟩
      · exact np hK (ok_conv_back_nil ho hS hD hs hd hE he hv) (by rw [ho]; simp [pureOp, toInt, hD, hd])
      · exact np hK (ok_conv_back ho hS hD hs hd hE he hv hsp hl hg) (by rw [ho]; simp [pureOp, toInt, hD, hd])
  case makeFunc fn first captured =>
    obtain ⟨f, rfl, h⟩ := h
    obtain ⟨us, h, hu⟩ := evs_spec _ _ _ h
    obtain ⟨vs, h, hv⟩ := evs_spec _ _ _ h
    simp only [List.nil_append] at h
    exact pr h fun _ _ => ok_makeFunc ho hu hv
  case makeSlice t x y =>
    obtain ⟨T, hT, e, E, hd, hE, hz, k, k', l, c, hx, hy, h0, hlc, hby, h63, hK⟩ := h
    exact np hK (ok_makeSlice ho hT hd hE hz hx hy h0 hlc hby h63) (by rw [ho]; rfl)
  case slice t x lo hi mx =>
    obtain ⟨rfl, v, hv, h⟩ := h
    obtain ⟨l, h, hl⟩ := alo_spec h
    obtain ⟨hh, h, hhi⟩ := ahi_spec h
    obtain ⟨r, hK, hO⟩ := ok_slice (G := G) (fl := fl) ho hv hl hhi h
    exact np hK hO (by rw [ho]; rfl)
  case fieldAddr s x i =>
    obtain ⟨p, hp, S, hS, f, hf, h0, hK⟩ := h
    exact pr hK fun _ _ => ok_fieldAddr ho hp hS hf h0
  case field s x i =>
    obtain ⟨cs, hx, S, hS, f, hf, T, hT, h⟩ := h
    rcases h with ⟨ha, hK⟩ | ⟨ha, v, hv, hK⟩
    · exact pr hK fun _ _ => ok_field ho hx hS hf hT (.inl ⟨ha, rfl⟩)
    · exact pr hK fun _ _ => ok_field ho hx hS hf hT (.inr ⟨ha, hv⟩)
  case indexAddr t x i =>
    obtain ⟨T, hT, k, n, hi, h0, v, hv, h⟩ := h
    rcases h with ⟨e, E, a, len, c, hd, hE, rfl, hn, hK⟩ | ⟨len, e, E, a, hd, hE, rfl, hn, hK⟩
    · exact pr hK fun _ _ => ok_indexAddr_sl ho hT hi h0 hd hE hv hn
    · exact pr hK fun _ _ => ok_indexAddr_arr ho hT hi h0 hd hE hv hn
  case index t x i =>
    obtain ⟨T, hT, k, n, hi, h0, v, hv, h⟩ := h
    rcases h with ⟨s, hd, rfl, hn, hK⟩ | ⟨len, e, E, cs, hd, hE, rfl, hn, h⟩
    · exact pr hK fun _ _ => ok_index_str ho hT hi h0 hd hv hn
    · rcases h with ⟨ha, hK⟩ | ⟨ha, u, hu, hK⟩
      · exact pr hK fun _ _ => ok_index_arr ho hT hi h0 hd hE hv hn (.inl ⟨ha, rfl⟩)
      · exact pr hK fun _ _ => ok_index_arr ho hT hi h0 hd hE hv hn (.inr ⟨ha, hu⟩)
  case extract x i =>
    obtain ⟨vs, hx, v, hv, hK⟩ := h
    exact pr hK fun _ _ => ok_extract ho hx hv
  case makeMap t r =>
    obtain ⟨h, hK⟩ := h
    exact np hK (ok_makeMap ho h) (by rw [ho]; rfl)
  case lookup t x i cok =>
    obtain ⟨m, hm, k, hk, h⟩ := h
    obtain ⟨v, hK, hO⟩ := ok_lookup (G := G) (fl := fl) ho hm hk h
    exact np hK hO (by rw [ho]; rfl)
  case mapUpdate t x y z =>
    obtain ⟨m, hm, k, hk, v, hv, h⟩ := h
    obtain ⟨v, A', hK, hO⟩ := ok_mapput (G := G) (.inl ho) hm hk hv h
    exact np hK hO (by rw [ho]; rfl)
  case insert t x y z =>
    obtain ⟨m, hm, k, hk, v, hv, h⟩ := h
    obtain ⟨v, A', hK, hO⟩ := ok_mapput (G := G) (.inr ho) hm hk hv h
    exact np hK hO (by rw [ho]; rfl)
  case next x s => rw [ho] at hnx; cases hnx
  case entry x =>
    obtain ⟨v, hv, h⟩ := h
    obtain ⟨u, hK, hO⟩ := ok_entry (G := G) (fl := fl) ho hv h
    exact np hK hO (by rw [ho]; rfl)
  case range t x =>
    obtain ⟨m, hm, h⟩ := h
    obtain ⟨v, A', hK, hO⟩ := ok_range (G := G) (fl := fl) ho hm h
    exact np hK hO (by rw [ho]; rfl)
  case call c =>
    cases hc : c.callee with
    | value f =>
      simp only [hc] at h
      obtain ⟨fid, first, captured, hf, h⟩ := h
      obtain ⟨xs, h, hxs⟩ := evs_spec _ _ _ h
      simp only [List.nil_append] at h
      obtain ⟨v, A', hs, hK⟩ := h
      exact np hK (ok_call ho hc hf hxs hs) (by rw [ho]; rfl)
    | invoke r m => simp only [hc] at h
    | builtin b =>
      cases b <;> simp only [hc] at h <;> (try exact h.elim)
      case len =>
        obtain ⟨t, T, ht, hT, h⟩ := h
        obtain ⟨xs, h, hxs⟩ := evs_spec _ _ _ h
        simp only [List.nil_append] at h
        obtain ⟨v, hv, h⟩ := h
        have h' : ((∃ s, T.d = .str ∧ v = .string s ∧ K (.int .i64 s.size) A) ∨ (∃ e, ∃ a : Option Addr, ∃ n cp : Nat, T.d = .sl e ∧ v = .slice a n cp ∧ K (.int .i64 (n : Int)) A) ∨ (∃ n : Nat, ∃ e, T.d = .arr n e ∧ K (.int .i64 (n : Int)) A)) ∨
            (∃ kt et es, T.d = .mp kt et ∧ amap A v es ∧ K (.int .i64 (es.length : Int)) A) := by
          rcases h with h | h | h | h
          · exact .inl (.inl h)
          · exact .inl (.inr (.inl h))
          · exact .inl (.inr (.inr h))
          · exact .inr h
        rcases h' with h | ⟨kt, et, es, hd, hm, hK⟩
        · obtain ⟨r, hK, hO⟩ := ok_len (G := G) (fl := fl) ho hc ht hT hxs hv h
          exact np hK hO (by rw [ho]; rfl)
        · exact np hK (ok_lenMap (G := G) (fl := fl) ho hc ht hT hxs hv hd hm) (by rw [ho]; rfl)
      case delete =>
        obtain ⟨xs, h, hxs⟩ := evs_spec _ _ _ h
        simp only [List.nil_append] at h
        obtain ⟨v, A', hK, hO⟩ := ok_delete ho hc hxs h
        exact np hK hO (by rw [ho]; rfl)
      case append =>
        obtain ⟨xs, h, hxs⟩ := evs_spec _ _ _ h
        simp only [List.nil_append] at h
        obtain ⟨s, x, rfl, h⟩ := h
        obtain ⟨v, A', hK, hO⟩ := ok_append ho hc hxs h
        exact np hK hO (by rw [ho]; rfl)
      case clear =>
        obtain ⟨xs, h, hxs⟩ := evs_spec _ _ _ h
        simp only [List.nil_append] at h
        obtain ⟨v, A', hK, hO⟩ := ok_clear ho hc hxs h
        exact np hK hO (by rw [ho]; rfl)
      case min =>
        obtain ⟨xs, h, hxs⟩ := evs_spec _ _ _ h
        simp only [List.nil_append] at h
        obtain ⟨k, x, y, rfl, hK⟩ := h
        exact np hK (by simpa using ok_minmax (P := P) (G := G) (fl := fl) (A := A) false ho (by simpa using hc) hxs) (by rw [ho]; rfl)
      case max =>
        obtain ⟨xs, h, hxs⟩ := evs_spec _ _ _ h
        simp only [List.nil_append] at h
        obtain ⟨k, x, y, rfl, hK⟩ := h
        exact np hK (by simpa using ok_minmax (P := P) (G := G) (fl := fl) (A := A) true ho (by simpa using hc) hxs) (by rw [ho]; rfl)

/-! what is known besides of operations that make, name, write and read single blocks -/
def isAB (o : Oper) : Bool := match o.op with | .alloc _ => true | .box .. => true | _ => false
/-- The operand whose block an address is in. -/
def rootOp (o : Oper) : Option Operand := match o.op with | .fieldAddr _ x _ => some x | .indexAddr _ x _ => some x | _ => none
def isLd (o : Oper) : Option Operand := match o.op with | .load _ x => some x | _ => none
def isSt (o : Oper) : Option Operand := match o.op with | .store _ x _ => some x | _ => none

variable (P G) in
structure Known (o : Oper) (τ : Tm) (A : Hp) (v : Value) (A' : Hp) : Prop where
  fresh : isAB o = true → v = .pointer (some ⟨A.next, 0, some 0⟩) ∧ A'.next = A.next + 1
  addr : ∀ x, rootOp o = some x → (∃ p q, ev τ x = some (.pointer (some p)) ∧ v = .pointer (some q) ∧ q.block = p.block) ∨ ∃ a l c, ev τ x = some (.slice a l c)
  store : ∀ x, isSt o = some x → ∃ p, ev τ x = some (.pointer (some p)) ∧ ∀ id, id ≠ p.block → A'.blk id = A.blk id
  load : ∀ x, isLd o = some x → A' = A ∧ ((∀ (fl : Nat) (B : Hp), OpOK P G o fl τ B v B) ∨ ∃ p, ev τ x = some (.pointer (some p)) ∧ A.blk p.block ≠ none ∧ ∀ (fl : Nat) (B : Hp), B.blk p.block = A.blk p.block → OpOK P G o fl τ B v B)

theorem get_same {A B : Hp} {p : Addr} {i : Nat} (h : p.spot ≠ none → B.blk p.block = A.blk p.block) : B.get G (aadd p i) = A.get G (aadd p i) := by
  cases hs : p.spot with
  | none => simp only [Hp.get, aadd, hs]
  | some g => simp only [Hp.get, aadd, hs, h (by rw [hs]; simp)]
theorem get_same0 {A B : Hp} {p : Addr} (h : p.spot ≠ none → B.blk p.block = A.blk p.block) : B.get G p = A.get G p := by
  cases hs : p.spot with
  | none => simp only [Hp.get, hs]
  | some g => simp only [Hp.get, hs, h (by rw [hs]; simp)]
theorem get_has {A : Hp} {p : Addr} {v : Value} (h : A.get G p = some v) (hs : p.spot ≠ none) : A.blk p.block ≠ none := by
  intro hb
  cases hg : p.spot with
  | none => exact hs hg
  | some g => simp only [Hp.get, hg, hb] at h; cases h

/-- Every operation is sound, and what is known besides. -/
theorem aop_known {K : Value → Hp → Prop} (hnx : isNextO o.op = false) (h : aop P G fl o τ A K) : ∃ v A', K v A' ∧ OpOK P G o fl τ A v A' ∧ (pureOp P o.op = true → A' = A ∧ ∀ (fl : Nat) (A : Hp), OpOK P G o fl τ A v A) ∧ Known P G o τ A v A' := by
  by_cases hs : (isAB o || (rootOp o).isSome || (isLd o).isSome || (isSt o).isSome) = true
  case neg =>
    simp only [Bool.or_eq_true, not_or, Bool.not_eq_true, Option.isSome_eq_false_iff, Option.isNone_iff_eq_none] at hs
    obtain ⟨v, A', h1, h2, h3⟩ := aop_sound hnx h
    exact ⟨v, A', h1, h2, h3, ⟨fun hq => (by rw [hs.1.1.1] at hq; cases hq), fun x hx => (by rw [hs.1.1.2] at hx; cases hx), fun x hx => (by rw [hs.2] at hx; cases hx), fun x hx => (by rw [hs.1.2] at hx; cases hx)⟩⟩
  obtain ⟨q, hq⟩ : ∃ q, pureOp P o.op = q := ⟨_, rfl⟩
  rw [hq]
  have kAB : ∀ {v : Value} {A' : Hp}, rootOp o = none → isSt o = none → isLd o = none → v = .pointer (some ⟨A.next, 0, some 0⟩) → A'.next = A.next + 1 → Known P G o τ A v A' := fun h1 h2 h3 h4 h5 =>
    ⟨fun _ => ⟨h4, h5⟩, fun x hx => (by rw [h1] at hx; cases hx), fun x hx => (by rw [h2] at hx; cases hx), fun x hx => (by rw [h3] at hx; cases hx)⟩
  have np : ∀ {v : Value} {A' : Hp}, K v A' → OpOK P G o fl τ A v A' → pureOp P o.op = false → Known P G o τ A v A' → ∃ v A', K v A' ∧ OpOK P G o fl τ A v A' ∧ (q = true → A' = A ∧ ∀ (fl : Nat) (A : Hp), OpOK P G o fl τ A v A) ∧ Known P G o τ A v A'
    := fun {v A'} hK hO hp hk => ⟨v, A', hK, hO, (fun h => (by rw [← hq, hp] at h; cases h)), hk⟩
  have pr : ∀ {v : Value}, K v A → (∀ (fl : Nat) (A : Hp), OpOK P G o fl τ A v A) → Known P G o τ A v A → ∃ v A', K v A' ∧ OpOK P G o fl τ A v A' ∧ (q = true → A' = A ∧ ∀ (fl : Nat) (A : Hp), OpOK P G o fl τ A v A) ∧ Known P G o τ A v A'
    := fun {v} hK hO hk => ⟨v, A, hK, hO fl A, (fun _ => ⟨rfl, hO⟩), hk⟩
  have kLd : ∀ {v : Value}, isAB o = false → rootOp o = none → isSt o = none → (∀ x, isLd o = some x → (∀ (fl : Nat) (B : Hp), OpOK P G o fl τ B v B) ∨ ∃ p, ev τ x = some (.pointer (some p)) ∧ A.blk p.block ≠ none ∧ ∀ (fl : Nat) (B : Hp), B.blk p.block = A.blk p.block → OpOK P G o fl τ B v B) → Known P G o τ A v A := fun h1 h2 h3 h4 =>
    ⟨fun h => (by rw [h1] at h; cases h), fun x hx => (by rw [h2] at hx; cases hx), fun x hx => (by rw [h3] at hx; cases hx), fun x hx => ⟨rfl, h4 x hx⟩⟩
  have kAd : ∀ {v : Value}, isAB o = false → isLd o = none → isSt o = none → (∀ x, rootOp o = some x → (∃ p q, ev τ x = some (.pointer (some p)) ∧ v = .pointer (some q) ∧ q.block = p.block) ∨ ∃ a l c, ev τ x = some (.slice a l c)) → Known P G o τ A v A := fun h1 h2 h3 h4 =>
    ⟨fun h => (by rw [h1] at h; cases h), h4, fun x hx => (by rw [h3] at hx; cases hx), fun x hx => (by rw [h2] at hx; cases hx)⟩
  cases ho : o.op <;> (try (simp [isAB, rootOp, isLd, isSt, ho] at hs; done)) <;> simp only [aop, ho] at h
  case alloc t =>
    obtain ⟨T, hT, hz, hK⟩ := h
    exact np hK (ok_alloc ho hT (zc_all hz)) (by rw [ho]; rfl) (kAB (by simp [rootOp, ho]) (by simp [isSt, ho]) (by simp [isLd, ho]) rfl rfl)
  case box t x =>
    obtain ⟨T, hT, v, hv, hK⟩ := h
    exact np hK (ok_box ho hv) (by rw [ho]; rfl) (kAB (by simp [rootOp, ho]) (by simp [isSt, ho]) (by simp [isLd, ho]) rfl rfl)
  case load t x =>
    obtain ⟨p, hp, T, hT, h⟩ := h
    rcases h with ⟨ha, h⟩ | ⟨ha, v, hv, hK⟩
    · obtain ⟨vs, hK, hl, hg⟩ := rdn_spec _ _ _ _ h
      simp only [List.nil_append, Nat.zero_add] at hK hg
      refine np hK (ok_load_agg ho hp hT ha hl hg) (by rw [ho]; rfl) (kLd (by simp [isAB, ho]) (by simp [rootOp, ho]) (by simp [isSt, ho]) fun y hy => ?_)
      simp only [isLd, ho, Option.some.injEq] at hy
      subst hy
      by_cases hs0 : p.spot = none
      · exact .inl fun fl B => ok_load_agg ho hp hT ha hl fun j v hj => (by rw [get_same (A := A) (fun h => absurd hs0 h)]; exact hg j v hj)
      · cases vs with
        | nil => exact .inl fun fl B => ok_load_agg ho hp hT ha hl fun j v hj => (by simp at hj)
        | cons v vs => exact .inr ⟨p, hp, get_has (p := aadd p 0) (hg 0 v rfl) hs0, fun fl B hB => ok_load_agg ho hp hT ha hl fun j v hj => (by rw [get_same (A := A) (fun _ => hB)]; exact hg j v hj)⟩
    · refine np hK (ok_load_one ho hp hT ha hv) (by rw [ho]; rfl) (kLd (by simp [isAB, ho]) (by simp [rootOp, ho]) (by simp [isSt, ho]) fun y hy => ?_)
      simp only [isLd, ho, Option.some.injEq] at hy
      subst hy
      by_cases hs0 : p.spot = none
      · exact .inl fun fl B => ok_load_one ho hp hT ha (by rw [get_same0 (A := A) (fun h => absurd hs0 h)]; exact hv)
      · exact .inr ⟨p, hp, get_has hv hs0, fun fl B hB => ok_load_one ho hp hT ha (by rw [get_same0 (A := A) (fun _ => hB)]; exact hv)⟩
  case store t x y =>
    obtain ⟨p, hp, v, hv, T, hT, hsz, hone, g, cs, e, hsp, hb, hfl, hlen, hK⟩ := h
    refine np hK (ok_store ho hp hv hT hsz hone hsp hb hfl hlen) (by rw [ho]; rfl) ⟨fun h => (by simp [isAB, ho] at h), fun x hx => (by simp [rootOp, ho] at hx), fun y hy => ?_, fun x hx => (by simp [isLd, ho] at hx)⟩
    simp only [isSt, ho, Option.some.injEq] at hy
    subst hy
    exact ⟨p, hp, fun id hid => (by simp only [Hp.put_blk, if_neg hid])⟩
  case fieldAddr s x i =>
    obtain ⟨p, hp, S, hS, f, hf, h0, hK⟩ := h
    refine pr hK (fun _ _ => ok_fieldAddr ho hp hS hf h0) (kAd (by simp [isAB, ho]) (by simp [isLd, ho]) (by simp [isSt, ho]) fun y hy => ?_)
    simp only [rootOp, ho, Option.some.injEq] at hy
    subst hy
    exact .inl ⟨p, _, hp, rfl, rfl⟩
  case indexAddr t x i =>
    obtain ⟨T, hT, k, n, hi, h0, v, hv, h⟩ := h
    rcases h with ⟨e, E, a, len, c, hd, hE, rfl, hn, hK⟩ | ⟨len, e, E, a, hd, hE, rfl, hn, hK⟩
    · refine pr hK (fun _ _ => ok_indexAddr_sl ho hT hi h0 hd hE hv hn) (kAd (by simp [isAB, ho]) (by simp [isLd, ho]) (by simp [isSt, ho]) fun y hy => ?_)
      simp only [rootOp, ho, Option.some.injEq] at hy
      subst hy
      exact .inr ⟨_, _, _, hv⟩
    · refine pr hK (fun _ _ => ok_indexAddr_arr ho hT hi h0 hd hE hv hn) (kAd (by simp [isAB, ho]) (by simp [isLd, ho]) (by simp [isSt, ho]) fun y hy => ?_)
      simp only [rootOp, ho, Option.some.injEq] at hy
      subst hy
      exact .inl ⟨a, _, hv, rfl, rfl⟩

end
end Go.Proofs.Ytiiapkhdjchhjaa.Ab
