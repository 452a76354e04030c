/- Each operation of the abstract machine is sound. -/
import Derived.Test.YtpaffoiiipgkeaaDoorAb3
namespace Go.Proofs.YtpaffoiiipgkeaaDoor.Ab
open Go.RowKit
set_option linter.unusedVariables false
set_option linter.unusedSimpArgs false

section
variable {P : Program} {G : Gl}

theorem tyOf_inv {t : TypeId} {T : Ty} (h : tyOf P t = some T) : ∃ i d z, P.info? t = some i ∧ P.underlying t = some d ∧ i.zero = some z ∧
    T = ⟨toTD P d, i.size, i.bytes, z.cells.toList, aggB P t, eszOf P i.size d⟩ := by
  unfold tyOf at h
  cases hi : P.info? t with
  | none => simp [hi] at h
  | some i =>
    cases hd : P.underlying t with
    | none => simp [hi, hd] at h
    | some d =>
      simp only [hi, hd] at h
      cases hz : i.zero with
      | none => simp [hz] at h
      | some z =>
        simp only [hz, Option.some.injEq] at h
        exact ⟨i, d, z, rfl, rfl, hz, h.symm⟩

theorem td_ptr {d : TypeDesc} {e : TypeId} (h : toTD P d = .ptr e) : d = .pointer e := by
  cases d with
  | struct gs => simp only [toTD] at h; split at h <;> cases h
  | _ => first | (cases h; rfl) | (simp [toTD] at h; done) | (simp [toTD] at h; rw [h])
theorem td_sl {d : TypeDesc} {e : TypeId} (h : toTD P d = .sl e) : d = .slice e := by
  cases d with
  | struct gs => simp only [toTD] at h; split at h <;> cases h
  | _ => first | (cases h; rfl) | (simp [toTD] at h; done) | (simp [toTD] at h; rw [h])
theorem td_arr {d : TypeDesc} {n : Nat} {e : TypeId} (h : toTD P d = .arr n e) : d = .array n e := by
  cases d with
  | struct gs => simp only [toTD] at h; split at h <;> cases h
  | _ => first | (cases h; rfl) | (simp [toTD] at h; done) | (simp [toTD] at h; rw [h.1, h.2])
theorem td_int {d : TypeDesc} {k : IntKind} (h : toTD P d = .int k) : d = .int k := by
  cases d with
  | struct gs => simp only [toTD] at h; split at h <;> cases h
  | _ => first | (cases h; rfl) | (simp [toTD] at h; done) | (simp [toTD] at h; rw [h])
theorem td_str {d : TypeDesc} (h : toTD P d = .str) : d = .string := by
  cases d with
  | struct gs => simp only [toTD] at h; split at h <;> cases h
  | _ => first | (cases h; rfl) | (simp [toTD] at h; done) | (simp [toTD] at h; rfl)
theorem td_bool {d : TypeDesc} (h : toTD P d = .bool) : d = .bool := by
  cases d with
  | struct gs => simp only [toTD] at h; split at h <;> cases h
  | _ => first | (cases h; rfl) | (simp [toTD] at h; done) | (simp [toTD] at h; rfl)
theorem td_st {d : TypeDesc} {fs : List (Nat × Nat × TypeId)} (h : toTD P d = .st fs) : ∃ gs : Array Field, d = .struct gs ∧ (∀ f ∈ gs.toList, (P.info? f.type).isSome = true) ∧ fs = gs.toList.map fun f => (f.offset, sizeB P f.type, f.type) := by
  cases d with
  | struct gs =>
    simp only [toTD] at h
    split at h
    · rename_i hall
      cases h
      exact ⟨_, rfl, fun f hf => List.all_eq_true.1 hall f hf, rfl⟩
    · cases h
  | _ => simp [toTD] at h

theorem run_typeInfo' {t : TypeId} {i : TypeInfo} (h : P.info? t = some i) (w : World) : (typeInfo t).run P w = .ok i w := by simp [typeInfo, h]
theorem run_sizeOf' {t : TypeId} {i : TypeInfo} (h : P.info? t = some i) (w : World) : (sizeOf t).run P w = .ok i.size w := by simp [sizeOf, run_typeInfo' h]
theorem run_zero' {t : TypeId} {i : TypeInfo} {z : Value} (h : P.info? t = some i) (hz : i.zero = some z) (w : World) : (zeroValue t).run P w = .ok z w := by simp [zeroValue, run_typeInfo' h, hz]
theorem run_isAgg' {t : TypeId} {d : TypeDesc} (h : P.underlying t = some d) (w : World) : (isAgg t).run P w = .ok (aggB P t) w := by
  simp only [isAgg, Sem.run_bind, run_underlying h, Result.andThen_ok, aggB, h]
  cases d <;> rfl

theorem Oper.wp_value {o : Oper} {a : Act} {w w' : World} {next : Act → World → Prop} {Q : Exit → Act → World → Prop} {v : Value}
    (hr : (execOp a.eval o).run P w = .ok (.value v) w') (h : next (a.put o.dst v) w') : o.wp P a w next Q := by
  unfold Oper.wp; rw [hr]; exact h
theorem Oper.wp_skip {o : Oper} {a : Act} {w w' : World} {next : Act → World → Prop} {Q : Exit → Act → World → Prop}
    (hr : (execOp a.eval o).run P w = .ok .skip w') (h : next (a.put o.dst undef) w') : o.wp P a w next Q := by
  unfold Oper.wp; rw [hr]; exact h

variable (P G) in
/-- An operation carries a related state on. -/
def OpOK (o : Oper) (fl : Nat) (τ : Tm) (A : Hp) (v : Value) (A' : Hp) : Prop :=
  ∀ (μ : Mu) (w : World) (a : Act) (next : Act → World → Prop) (Q : Exit → Act → World → Prop), HR G μ fl A w → fl ≤ A.next →
    (∀ x ∈ o.op.operands, ∀ u, ev τ x = some u → VR μ A u (a.eval x)) →
    (∀ v' w' μ', VR μ' A' v v' → HR G μ' fl A' w' → Trans fl μ A w μ' A' w' → next (a.put o.dst v') w') → o.wp P a w next Q

/-- Operations that leave the world alone. -/
theorem OpOK.same {o : Oper} {fl : Nat} {τ : Tm} {A : Hp} {v : Value}
    (h : ∀ (μ : Mu) (w : World) (a : Act), HR G μ fl A w → (∀ x ∈ o.op.operands, ∀ u, ev τ x = some u → VR μ A u (a.eval x)) → ∃ v', (execOp a.eval o).run P w = .ok (.value v') w ∧ VR μ A v v') :
    OpOK P G o fl τ A v A := by
  intro μ w a next Q H hfl hop hk
  obtain ⟨v', hr, hv⟩ := h μ w a H hop
  exact Oper.wp_value hr (hk v' w μ hv H (Trans.refl _ _ _ _))

/-- Operations that make one block. -/
theorem OpOK.make {o : Oper} {fl : Nat} {τ : Tm} {A : Hp} {cs : List Value} {e n c : Nat} {v : Value}
    (hv : (v = .pointer (some ⟨A.next, 0, some 0⟩)) ∨ (v = .slice (some ⟨A.next, 0, some 0⟩) n c ∧ n ≤ c))
    (h : ∀ (μ : Mu) (w : World) (a : Act), HR G μ fl A w → (∀ x ∈ o.op.operands, ∀ u, ev τ x = some u → VR μ A u (a.eval x)) →
      ∃ (ds : Array Value) (t : TypeId) (fr : Nat × Nat) (w' : World) (cc : Nat), cs.length ≤ ds.size ∧ (∀ (j : Nat) (u : Value), cs[j]? = some u → ∃ u' : Value, ds[j]? = some u' ∧ VR μ A u u') ∧
        (∀ j, j < ds.size → ¬ (fr.1 ≤ j ∧ j < fr.2)) ∧ w'.heap = w.heap.push (.cells ds t fr) ∧ w'.os = w.os ∧ w'.tape = w.tape ∧ w'.output = w.output ∧ c ≤ cc ∧ cc * e ≤ ds.size ∧
        (execOp a.eval o).run P w = .ok (.value (match v with | .pointer _ => .pointer (some ⟨w.heap.size, 0, none⟩) | _ => .slice (some ⟨w.heap.size, 0, none⟩) n cc)) w') :
    OpOK P G o fl τ A v (A.push (.row cs 0 e)) := by
  intro μ w a next Q H hfl hop hk
  obtain ⟨ds, t, fr, w', cc, h1, h2, h3, h4, h5, h6, h7, h8, h9, hr⟩ := h μ w a H hop
  obtain ⟨HN, TN⟩ := H.newBlock hfl cs ds t fr e h1 h2 h3 h4 h5 h6 h7
  refine Oper.wp_value hr (hk _ w' _ ?_ HN TN)
  rcases hv with rfl | ⟨rfl, hnc⟩
  · exact .ptr (AR.new 0)
  · refine .sl (by simp) h8 (by omega) ⟨0, rfl, fun cs' g' e' hb => ⟨Nat.zero_le _, fun _ => ⟨w.heap.size, 0, ds.size, by simp [Mu.add], fun _ => ⟨by simp, ?_⟩⟩⟩⟩
    simp only [Hp.push_blk, if_true, Option.some.injEq, Blk.row.injEq] at hb
    obtain ⟨_, _, rfl⟩ := hb
    simpa using h9

theorem VR.cells {μ : Mu} {A : Hp} {v v' : Value} (h : VR μ A v v') : v.cells.size = v'.cells.size ∧ ∀ (j : Nat) (u : Value), v.cells[j]? = some u → ∃ u' : Value, v'.cells[j]? = some u' ∧ VR μ A u u' := by
  have one : ∀ {x y : Value}, VR μ A x y → x.cells = #[x] → y.cells = #[y] → x.cells.size = y.cells.size ∧ ∀ (j : Nat) (u : Value), x.cells[j]? = some u → ∃ u' : Value, y.cells[j]? = some u' ∧ VR μ A u u' := by
    intro x y hxy hx hy
    rw [hx, hy]
    refine ⟨rfl, fun j u hj => ?_⟩
    cases j with
    | zero => simp at hj; subst hj; exact ⟨y, by simp, hxy⟩
    | succ j => simp at hj
  cases h with
  | agg h1 h2 =>
    refine ⟨h1, fun j u hj => ?_⟩
    simp only [Value.cells] at hj ⊢
    obtain ⟨hlt, rfl⟩ := Array.getElem?_eq_some_iff.1 hj
    exact ⟨_, Array.getElem?_eq_getElem (by omega), h2 j hlt (by omega)⟩
  | bool b => exact one (.bool b) rfl rfl
  | int k n => exact one (.int k n) rfl rfl
  | float k n => exact one (.float k n) rfl rfl
  | string s => exact one (.string s) rfl rfl
  | ptr0 => exact one .ptr0 rfl rfl
  | ptr h => exact one (.ptr h) rfl rfl
  | sl0 n c => exact one (.sl0 n c) rfl rfl
  | sl h1 h2 h3 h4 => exact one (.sl h1 h2 h3 h4) rfl rfl
  | map0 => exact one .map0 rfl rfl
  | nilFunc => exact one .nilFunc rfl rfl
  | nilIface => exact one .nilIface rfl rfl
  | func fn h1 h2 h3 h4 => exact one (.func fn h1 h2 h3 h4) rfl rfl
  | iface t h => exact one (.iface t h) rfl rfl
  | tuple h1 h2 => exact one (.tuple h1 h2) rfl rfl

theorem VR.one {μ : Mu} {A : Hp} {v v' : Value} (h : VR μ A v v') : v.oneCell' = v'.oneCell' := by cases h <;> rfl

/-- Values of the program's text, closed. -/
theorem VRa.get {μ : Mu} {A : Hp} {xs ys : Array Value} (h : VRa μ A xs ys) {i : Nat} {u : Value} (hi : xs[i]? = some u) : ∃ u' : Value, ys[i]? = some u' ∧ VR μ A u u' := by
  obtain ⟨hlt, rfl⟩ := Array.getElem?_eq_some_iff.1 hi
  have := h.1
  exact ⟨_, Array.getElem?_eq_getElem (by omega), h.2 i hlt (by omega)⟩

theorem VRa.of_get {μ : Mu} {A : Hp} {xs ys : Array Value} (h1 : xs.size = ys.size) (h : ∀ (i : Nat) (u : Value), xs[i]? = some u → ∃ u' : Value, ys[i]? = some u' ∧ VR μ A u u') : VRa μ A xs ys := by
  refine ⟨h1, fun i hi hi' => ?_⟩
  obtain ⟨u', h2, h3⟩ := h i _ (Array.getElem?_eq_getElem hi)
  rw [Array.getElem?_eq_getElem hi'] at h2
  cases h2
  exact h3

theorem rdn_spec {A : Hp} {p : Addr} : ∀ (n i : Nat) (acc : List Value) (K : List Value → Prop), rdn G A p i n acc K →
    ∃ vs, K (acc ++ vs) ∧ vs.length = n ∧ ∀ (j : Nat) (v : Value), vs[j]? = some v → A.get G (aadd p (i + j)) = some v
  | 0, i, acc, K, h => ⟨[], by rw [List.append_nil]; exact h, rfl, fun j v hj => by simp at hj⟩
  | n + 1, i, acc, K, h => by
    obtain ⟨v, hv, h⟩ := h
    obtain ⟨vs, hK, hl, hg⟩ := rdn_spec n (i + 1) _ K h
    refine ⟨v :: vs, by simpa using hK, by simp [hl], fun j u hj => ?_⟩
    cases j with
    | zero => simp at hj; subst hj; simpa using hv
    | succ j =>
      simp only [List.getElem?_cons_succ] at hj
      have := hg j u hj
      rwa [show i + 1 + j = i + (j + 1) by omega] at this

/-- Cells read in the world, one behind the other. -/
theorem loads_at {μ : Mu} {fl : Nat} {A : Hp} {w : World} (H : HR G μ fl A w) {p p' : Addr} (hp : AR μ A p p') : ∀ (vs : List Value) (i : Nat),
    (∀ (j : Nat) (v : Value), vs[j]? = some v → A.get G (aadd p (i + j)) = some v) →
    ∃ vs' : List Value, vs.length = vs'.length ∧ (∀ (j : Nat) (u : Value), vs'[j]? = some u → w.cell? (p'.add (i + j)) = some u) ∧ ∀ (j : Nat) (v : Value), vs[j]? = some v → ∃ v' : Value, vs'[j]? = some v' ∧ VR μ A v v'
  | [], i, hg => ⟨[], rfl, fun j u h => by simp at h, fun j v h => by simp at h⟩
  | v :: vs, i, hg => by
    obtain ⟨v', hc, hv⟩ := H.get (hp.add (i + 0)) (hg 0 v (by simp))
    obtain ⟨vs', h1, h2, h3⟩ := loads_at H hp vs (i + 1) (fun j u hj => by
      have := hg (j + 1) u (by simpa using hj)
      rwa [show i + (j + 1) = i + 1 + j by omega] at this)
    refine ⟨v' :: vs', by simp [h1], fun j u hj => ?_, fun j u hj => ?_⟩
    · cases j with
      | zero => simp at hj; subst hj; exact hc
      | succ j =>
        simp only [List.getElem?_cons_succ] at hj
        have := h2 j u hj
        rwa [show i + 1 + j = i + (j + 1) by omega] at this
    · cases j with
      | zero => simp at hj; subst hj; exact ⟨v', by simp, hv⟩
      | succ j =>
        simp only [List.getElem?_cons_succ] at hj ⊢
        exact h3 j u hj

theorem loads {μ : Mu} {fl : Nat} {A : Hp} {w : World} (H : HR G μ fl A w) {p p' : Addr} (hp : AR μ A p p') (vs : List Value)
    (hg : ∀ (j : Nat) (v : Value), vs[j]? = some v → A.get G (aadd p j) = some v) :
    ∃ vs' : List Value, vs.length = vs'.length ∧ (∀ (j : Nat) (u : Value), vs'[j]? = some u → w.cell? (p'.add j) = some u) ∧ ∀ (j : Nat) (v : Value), vs[j]? = some v → ∃ v' : Value, vs'[j]? = some v' ∧ VR μ A v v' := by
  have := loads_at H hp vs 0 (fun j v hj => by rw [Nat.zero_add]; exact hg j v hj)
  simpa only [Nat.zero_add] using this

end
end Go.Proofs.YtpaffoiiipgkeaaDoor.Ab
