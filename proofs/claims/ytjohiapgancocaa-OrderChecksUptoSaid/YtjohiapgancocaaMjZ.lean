/- gantlaw4.OrderChecks returns true for every input of a bulk that fits: the row's statement. -/
import Derived.Test.YtjohiapgancocaaMj
import Derived.Test.YtjohiapgancocaaRows
import Derived.WalkKit
import Derived.ProofKit
import Derived.OpenShut
import Derived.ShutString
import Derived.ChangeOld
import Derived.Below
import Derived.SizedLaws
import Derived.LaidMore
import Derived.Lay
import Derived.SevenTiedAt
import Derived.Stop.Joined
import Derived.Deep.DeepHandedRow
import Derived.JoinedCond
namespace Go.Proofs.Ytjohiapgancocaa.Ab
open Go.ChangeShapes Go.WideShapes Go.ChangeAt Go.RowKit
open Go.ChangeMaps (open_string shut_string)
set_option linter.unusedVariables false
set_option linter.unusedSimpArgs false
set_option maxRecDepth 100000

theorem own : ownKnob Try.prog.godebug = none := by kernel_rfl
theorem laidOut : laidOutB Try.prog = true := by kernel_rfl
theorem int_bounds {n : Int} (h : (Lit.int .i64 n).wf = true) : -9223372036854775808 ≤ n ∧ n ≤ 9223372036854775807 := by
  simp [Lit.wf, IntKind.min, IntKind.max, IntKind.bits, IntKind.signed] at h
  exact ⟨by omega, by omega⟩
theorem len_max {n : Nat} (h : n ≤ maxLen) : n ≤ 9223372036854775807 := by
  have : maxLen = 9223372036854775807 := rfl
  omega

section
variable {H : Type} {A : Hp} {cs : List Value} {d : DataW H}
theorem bulk_mem {l : List (DataW H)} (h : d ∈ l) : Rows.uptoBulk d ≤ Rows.uptoBulkAll l := by
  induction l with
  | nil => cases h
  | cons x r ih =>
    simp only [Rows.uptoBulkAll]
    cases List.mem_cons.1 h with
    | inl e => subst e; omega
    | inr e => have := ih e; omega
theorem bulk_one (d : DataW H) : 1 ≤ Rows.uptoBulk d := by
  cases d with
  | lit l => cases l <;> simp [Rows.uptoBulk]
  | nil => simp [Rows.uptoBulk]
  | ptr d => simp [Rows.uptoBulk]
  | slice elems spare => simp [Rows.uptoBulk]
  | agg parts => simp [Rows.uptoBulk]
  | iface t d => simp [Rows.uptoBulk]
  | map entries => simp [Rows.uptoBulk]
  | held h => simp [Rows.uptoBulk]
theorem bulk_len (l : List (DataW H)) : l.length ≤ Rows.uptoBulkAll l := by
  induction l with
  | nil => simp [Rows.uptoBulkAll]
  | cons x r ih => have := bulk_one x; simp only [Rows.uptoBulkAll, List.length_cons]; omega
theorem Lies.elems {P : Program} {t e : TypeId} (ht : P.underlying t = some (.slice e)) (h : Lies P A t cs d) :
    ∃ v css, cs = [v] ∧ Sl A (P.cellsOf e) v css ∧ css.length ≤ Rows.uptoBulk d ∧ ∀ c ∈ css, ∃ d' : DataW H, Rows.uptoBulk d' ≤ Rows.uptoBulk d ∧ Lies P A e c d' := by
  cases h with
  | bool h b => rw [ht] at h; cases h
  | int h => rw [ht] at h; cases h
  | str h s hs => rw [ht] at h; cases h
  | nil h => exact ⟨_, [], rfl, ⟨by simp, .inl ⟨rfl, rfl⟩⟩, by simp, by simp⟩
  | @sl t e2 v css ds rest h hs hl hm hh =>
    rw [ht] at h; cases h
    have hb := bulk_len ds
    refine ⟨v, css, rfl, hs, by simp only [Rows.uptoBulk]; omega, fun c hc => ?_⟩
    obtain ⟨i, hi⟩ := List.getElem?_of_mem hc
    have hd : i < ds.length := by have := (List.getElem?_eq_some_iff.1 hi).1; omega
    have hm2 := bulk_mem (List.getElem_mem hd)
    exact ⟨ds[i], by simp only [Rows.uptoBulk]; omega, hh i c _ hi (List.getElem?_eq_getElem hd)⟩
  | st h => rw [ht] at h; cases h
end
theorem each_of {α : Type} {enc : α → List Value} {ok : α → Prop} : ∀ {css : List (List Value)}, (∀ c ∈ css, ∃ x : α, c = enc x ∧ ok x) → ∃ l : List α, css = l.map enc ∧ ∀ x ∈ l, ok x
  | [], _ => ⟨[], rfl, by simp⟩
  | c :: cs, h => by
    obtain ⟨x, rfl, hx⟩ := h c (by simp)
    obtain ⟨l, rfl, hl⟩ := each_of (css := cs) fun c hc => h c (by simp [hc])
    exact ⟨x :: l, rfl, by simpa using ⟨hx, hl⟩⟩


theorem step_of_lies {H : Type} {A : Hp} {cs : List Value} {d : DataW H} (h : Lies Try.prog A 66 cs d) : ∃ f : St, cs = tC f := by
  obtain ⟨hl, hf⟩ := h.struct_inv Try.underlying66
  have h3 : Try.prog.cellsOf 66 = 5 := by kernel_rfl
  rw [h3] at hl
  match cs, hl with
  | [x0, x1, x2, x3, x4], _ =>
    obtain ⟨d0, l0⟩ := hf 0 _ rfl
    obtain ⟨d1, l1⟩ := hf 1 _ rfl
    obtain ⟨d2, l2⟩ := hf 2 _ rfl
    obtain ⟨d3, l3⟩ := hf 3 _ rfl
    obtain ⟨d4, l4⟩ := hf 4 _ rfl
    have h1 : Try.prog.cellsOf 3 = 1 := by kernel_rfl
    change Lies Try.prog A 3 (([x0, x1, x2, x3, x4].drop 0).take (Try.prog.cellsOf 3)) d0 at l0
    change Lies Try.prog A 3 (([x0, x1, x2, x3, x4].drop 1).take (Try.prog.cellsOf 3)) d1 at l1
    change Lies Try.prog A 3 (([x0, x1, x2, x3, x4].drop 2).take (Try.prog.cellsOf 3)) d2 at l2
    change Lies Try.prog A 3 (([x0, x1, x2, x3, x4].drop 3).take (Try.prog.cellsOf 3)) d3 at l3
    change Lies Try.prog A 3 (([x0, x1, x2, x3, x4].drop 4).take (Try.prog.cellsOf 3)) d4 at l4
    rw [h1] at l0 l1 l2 l3 l4
    simp only [List.drop_zero, List.drop_succ_cons, List.take_succ_cons, List.take_zero] at l0 l1 l2 l3 l4
    obtain ⟨a0, e0, -, -⟩ := l0.int_inv Try.underlying3
    obtain ⟨a1, e1, -, -⟩ := l1.int_inv Try.underlying3
    obtain ⟨a2, e2, -, -⟩ := l2.int_inv Try.underlying3
    obtain ⟨a3, e3, -, -⟩ := l3.int_inv Try.underlying3
    obtain ⟨a4, e4, -, -⟩ := l4.int_inv Try.underlying3
    simp only [List.cons.injEq, and_true] at e0 e1 e2 e3 e4
    subst e0; subst e1; subst e2; subst e3; subst e4
    exact ⟨⟨a0, a1, a2, a3, a4⟩, rfl⟩
theorem steps_of_lies {H : Type} {A : Hp} {cs : List Value} {d : DataW H} (hb : Rows.uptoBulk d ≤ 1048576) (h : Lies Try.prog A 57 cs d) : ∃ (v : Value) (l : List St), cs = [v] ∧ Sl A 5 v (l.map tC) ∧ l.length ≤ 1048576 := by
  obtain ⟨v, css, rfl, hs, hm, he⟩ := h.elems Try.underlying57
  have h3 : Try.prog.cellsOf 66 = 5 := by kernel_rfl
  rw [h3] at hs
  obtain ⟨l, rfl, -⟩ := each_of (enc := tC) (ok := fun _ => True) fun c hc => by
    obtain ⟨d, -, hd⟩ := he c hc
    obtain ⟨f, hf⟩ := step_of_lies hd
    exact ⟨f, hf, trivial⟩
  rw [List.length_map] at hm
  exact ⟨v, l, rfl, hs, by omega⟩
theorem ints_of_lies {H : Type} {A : Hp} {cs : List Value} {d : DataW H} (hb : Rows.uptoBulk d ≤ 1048576) (h : Lies Try.prog A 40 cs d) : ∃ (v : Value) (l : List Int), cs = [v] ∧ Sl A 1 v (l.map iC) ∧ l.length ≤ 1048576 := by
  obtain ⟨v, css, rfl, hs, hm, he⟩ := h.elems Try.underlying40
  have h1 : Try.prog.cellsOf 3 = 1 := by kernel_rfl
  rw [h1] at hs
  obtain ⟨l, rfl, -⟩ := each_of (enc := iC) (ok := fun _ => True) fun c hc => by
    obtain ⟨d, -, hd⟩ := he c hc
    obtain ⟨a, ha, -, -⟩ := hd.int_inv Try.underlying3
    exact ⟨a, ha, trivial⟩
  rw [List.length_map] at hm
  exact ⟨v, l, rfl, hs, by omega⟩
theorem rows_of {A : Hp} : ∀ {css : List (List Value)}, (∀ c ∈ css, ∃ (v : Value) (l : List Int), c = [v] ∧ Sl A 1 v (l.map iC) ∧ l.length ≤ 1048576) → ∃ (vs : List Value) (ls : List (List Int)), css = vs.map (fun u => [u]) ∧ vs.length = ls.length ∧ (∀ i (h : i < vs.length) (h' : i < ls.length), Sl A 1 vs[i] (ls[i].map iC)) ∧ ∀ x ∈ ls, x.length ≤ 1048576
  | [], _ => ⟨[], [], rfl, rfl, fun i h => absurd h (Nat.not_lt_zero _), by simp⟩
  | c :: cs, h => by
    obtain ⟨v, l, rfl, h1, h2⟩ := h c (by simp)
    obtain ⟨vs, ls, rfl, e, h3, h4⟩ := rows_of (css := cs) fun c hc => h c (by simp [hc])
    refine ⟨v :: vs, l :: ls, rfl, by simp [e], fun i a b => ?_, by simpa using ⟨h2, h4⟩⟩
    cases i with
    | zero => exact h1
    | succ i => exact h3 i (by simpa using a) (by simpa using b)
theorem nst_of_lies {H : Type} {A : Hp} {cs : List Value} {d : DataW H} (hb : Rows.uptoBulk d ≤ 1048576) (h : Lies Try.prog A 44 cs d) : ∃ (v : Value) (ls : List (List Int)), cs = [v] ∧ Nst A v ls ∧ ∀ k, k < ls.length → (ls.getD k []).length ≤ 1048576 := by
  obtain ⟨v, css, rfl, hs, hm, he⟩ := h.elems Try.underlying44
  have h1 : Try.prog.cellsOf 40 = 1 := by kernel_rfl
  rw [h1] at hs
  obtain ⟨vs, ls, rfl, e, h3, h4⟩ := rows_of fun c hc => by
    obtain ⟨d', hd', hd⟩ := he c hc
    exact ints_of_lies (Nat.le_trans hd' hb) hd
  exact ⟨v, ls, rfl, ⟨vs, hs, e, h3⟩, fun k hk => by rw [getD_row hk]; exact h4 _ (List.getElem_mem hk)⟩

set_option maxHeartbeats 2000000 in
theorem orderChecks_lifted (os : Os) (started : os.Started) (H : Type) (enc : TypeId × Value → H) (F : Stop.Interp) :
    ReturnsInHanded {} Try.checked os 7 .any ((Rows.OpenSpec.upto Rows.orderChecksSpec).preRow enc Try.prog Try.f7 Rows.orderChecksUptoRow.domain false Rows.orderChecksUptoRow.laid) (((Rows.OpenSpec.upto Rows.orderChecksSpec).at F).post enc Try.prog Try.f7 false true false false) := by
  have hx : ((DataW.whole enc Try.prog ((World.laidAll Try.prog os Rows.orderChecksUptoRow.laid).forCall (fun _ _ => 0) ⟨#[], #[.slice none 0 0, .slice none 0 0, .slice none 0 0, .slice none 0 0], []⟩).memory Try.f7.params.toList (Rows.OpenSpec.upto Rows.orderChecksSpec).vars false (#[.slice none 0 0, .slice none 0 0, .slice none 0 0, .slice none 0 0] : Array Value).toList 8).any fun x => Rows.uptoSmall H (x.1 ++ x.2.1)) = true := by kernel_rfl
  obtain ⟨x, hx1, hx2⟩ : ∃ x, DataW.whole enc Try.prog ((World.laidAll Try.prog os Rows.orderChecksUptoRow.laid).forCall (fun _ _ => 0) ⟨#[], #[.slice none 0 0, .slice none 0 0, .slice none 0 0, .slice none 0 0], []⟩).memory Try.f7.params.toList (Rows.OpenSpec.upto Rows.orderChecksSpec).vars false (#[.slice none 0 0, .slice none 0 0, .slice none 0 0, .slice none 0 0] : Array Value).toList 8 = some x ∧ Rows.uptoSmall H (x.1 ++ x.2.1) = true := by
    revert hx
    generalize DataW.whole enc Try.prog ((World.laidAll Try.prog os Rows.orderChecksUptoRow.laid).forCall (fun _ _ => 0) ⟨#[], #[.slice none 0 0, .slice none 0 0, .slice none 0 0, .slice none 0 0], []⟩).memory Try.f7.params.toList (Rows.OpenSpec.upto Rows.orderChecksSpec).vars false (#[.slice none 0 0, .slice none 0 0, .slice none 0 0, .slice none 0 0] : Array Value).toList 8 = y
    intro hx
    cases y with
    | none => cases hx
    | some x => exact ⟨x, rfl, hx⟩
  have hok : Input.okWideB Try.prog ((World.laidAll Try.prog os Rows.orderChecksUptoRow.laid).forCall (fun _ _ => 0) ⟨#[], #[.slice none 0 0, .slice none 0 0, .slice none 0 0, .slice none 0 0], []⟩) 7 ⟨#[], #[.slice none 0 0, .slice none 0 0, .slice none 0 0, .slice none 0 0], []⟩ = true := by kernel_rfl
  refine returnsInHanded_of_row (C := Try.checked) (s := Rows.OpenSpec.upto Rows.orderChecksSpec) own started (by kernel_rfl) Try.func7
    ⟨World.laidAll Try.prog os Rows.orderChecksUptoRow.laid, fun _ _ => 0, ⟨#[], #[.slice none 0 0, .slice none 0 0, .slice none 0 0, .slice none 0 0], []⟩, World.laidAll_os _ _ _, World.shaped_of_ZipB (by kernel_rfl) (by kernel_rfl), (Input.okWide_of_okWideB (base := 0) hok).1, (Input.okWide_of_okWideB hok).2,
      OpenSpec.preRow_of_cond 8 hx1 (by kernel_rfl) (fun k hk => by cases hk; exact hx2) (by kernel_rfl) (by rw [MakeChecks.laidMetH_plain _ _ _ (by kernel_rfl)]; exact laidMet_laidAll _ (by kernel_rfl) (by kernel_rfl)),
      by simp only [Assume.holds]; exact ⟨by simp, by simp, fun _ => Modest.zero, by simp, by simp⟩⟩ ?_
  intro W base args ds gs before hval0 hW hcnd hcond _ hL _ _
  have hval : ∀ (j : Nat) t v, Try.f7.params[j]? = some t → args[j]? = some v → Value.okWide Try.prog W .any base t v := hval0
  have hW' := hW
  obtain ⟨p, q, hA0, hV, rfl, hfz, hnd⟩ := hW
  have hA : DataW.TrodAll enc Try.prog W 0 (fun _ => true) true Try.f7.params.toList args.toList ds p := hA0
  rw [Try.params7] at hA hval
  obtain ⟨v0, vs0, d0, ds0, p0, q0, hargs, rfl, rfl, h0, r0⟩ := trodAll_cons hA
  obtain ⟨v1, vs1, d1, ds1, p1, q1, rfl, rfl, rfl, h1, r1⟩ := trodAll_cons r0
  obtain ⟨v2, vs2, d2, ds2, p2, q2, rfl, rfl, rfl, h2, r2⟩ := trodAll_cons r1
  obtain ⟨v3, vs3, d3, ds3, p3, q3, rfl, rfl, rfl, h3, r3⟩ := trodAll_cons r2
  obtain ⟨rfl, rfl, rfl⟩ := trodAll_nil r3
  obtain rfl : args = #[v0, v1, v2, v3] := by cases args; simp_all
  obtain ⟨rfl, rfl⟩ := trodVars_none hV
  have hbk : Rows.uptoBulkAll (H := H) [d0, d1, d2, d3] ≤ 1048576 := by
    have h := hcond _ rfl
    simp only [List.append_nil] at h
    exact of_decide_eq_true h
  simp only [Rows.uptoBulkAll] at hbk
  obtain ⟨b0, len0, cap0, rfl⟩ := okWide_slice Try.underlying44 (hval 0 44 v0 rfl rfl)
  have k0 := h0
  have lt0 : ∀ x ∈ p0, x.block < W.heap.size := by obtain ⟨m, hm⟩ := k0; exact DataW.trod_lt m _ _ _ hm
  obtain ⟨fuel0, hf0⟩ := h0
  obtain ⟨b1, len1, cap1, rfl⟩ := okWide_slice Try.underlying40 (hval 1 40 v1 rfl rfl)
  have k1 := h1
  have lt1 : ∀ x ∈ p1, x.block < W.heap.size := by obtain ⟨m, hm⟩ := k1; exact DataW.trod_lt m _ _ _ hm
  obtain ⟨fuel1, hf1⟩ := h1
  obtain ⟨b2, len2, cap2, rfl⟩ := okWide_slice Try.underlying40 (hval 2 40 v2 rfl rfl)
  have k2 := h2
  have lt2 : ∀ x ∈ p2, x.block < W.heap.size := by obtain ⟨m, hm⟩ := k2; exact DataW.trod_lt m _ _ _ hm
  obtain ⟨fuel2, hf2⟩ := h2
  obtain ⟨b3, len3, cap3, rfl⟩ := okWide_slice Try.underlying57 (hval 3 57 v3 rfl rfl)
  have k3 := h3
  have lt3 : ∀ x ∈ p3, x.block < W.heap.size := by obtain ⟨m, hm⟩ := k3; exact DataW.trod_lt m _ _ _ hm
  obtain ⟨fuel3, hf3⟩ := h3
  have HA0 := HR.bare (W := W) (G := fun _ => none) (fun g cs h => by cases h)
  obtain ⟨μ, A, vss, -, HA, hvl, hvs⟩ := open_each (G := fun _ => none) [(_, _, (d0, p0).1), (_, _, (d1, p1).1), (_, _, (d2, p2).1), (_, _, (d3, p3).1)] (fun q hq => by
    simp only [List.mem_cons, List.not_mem_nil, or_false] at hq
    rcases hq with rfl | rfl | rfl | rfl
    · exact open_cells 8 44 (by kernel_rfl) fuel0 _ _ hf0
    · exact open_cells 8 40 (by kernel_rfl) fuel1 _ _ hf1
    · exact open_cells 8 40 (by kernel_rfl) fuel2 _ _ hf2
    · exact open_cells 8 57 (by kernel_rfl) fuel3 _ _ hf3) _ _ HA0
  match vss, hvl with
  | [ws0, ws1, ws2, ws3], _ =>
  obtain ⟨cr0, lies0⟩ := hvs 0 _ _ rfl rfl
  replace lies0 : Lies Try.prog A 44 ws0 d0 := lies0
  have hb0 : Rows.uptoBulk d0 ≤ 1048576 := by omega
  obtain ⟨vv0, l0, rfl, hs0, hm0⟩ := nst_of_lies hb0 lies0
  have hv0 : VR μ A vv0 (.slice b0 len0 cap0) := VR.of_cell (by simpa [Value.cells] using cr0)
  obtain ⟨cr1, lies1⟩ := hvs 1 _ _ rfl rfl
  replace lies1 : Lies Try.prog A 40 ws1 d1 := lies1
  have hb1 : Rows.uptoBulk d1 ≤ 1048576 := by omega
  obtain ⟨vv1, l1, rfl, hs1, hm1⟩ := ints_of_lies hb1 lies1
  have hv1 : VR μ A vv1 (.slice b1 len1 cap1) := VR.of_cell (by simpa [Value.cells] using cr1)
  obtain ⟨cr2, lies2⟩ := hvs 2 _ _ rfl rfl
  replace lies2 : Lies Try.prog A 40 ws2 d2 := lies2
  have hb2 : Rows.uptoBulk d2 ≤ 1048576 := by omega
  obtain ⟨vv2, l2, rfl, hs2, hm2⟩ := ints_of_lies hb2 lies2
  have hv2 : VR μ A vv2 (.slice b2 len2 cap2) := VR.of_cell (by simpa [Value.cells] using cr2)
  obtain ⟨cr3, lies3⟩ := hvs 3 _ _ rfl rfl
  replace lies3 : Lies Try.prog A 57 ws3 d3 := lies3
  have hb3 : Rows.uptoBulk d3 ≤ 1048576 := by omega
  obtain ⟨vv3, l3, rfl, hs3, hm3⟩ := steps_of_lies hb3 lies3
  have hv3 : VR μ A vv3 (.slice b3 len3 cap3) := VR.of_cell (by simpa [Value.cells] using cr3)
  refine (orderChecks_calls hs0 hm0 hs1 hm1 hs2 hm2 hs3 hm3 μ W #[.slice b0 len0 cap0, .slice b1 len1 cap1, .slice b2 len2 cap2, .slice b3 len3 cap3] HA (Nat.le_refl _) ⟨rfl, fun i hi hi' => ?_⟩).mono fun e W' he => ?_
  · match i with
    | 0 => exact hv0
    | 1 => exact hv1
    | 2 => exact hv2
    | 3 => exact hv3
    | i + 4 => simp at hi; omega
  obtain ⟨u, rfl, ν, hu, -, T⟩ := he
  have bel := below_of_trans HA.wf T
  cases hu
  exact ⟨_, rfl, _, _, _, [], _, [], hW', trodAll_mk1 (shut_bool Try.underlying4 _), (trodAll_cons_mk (Below.trod laidOut (by kernel_rfl) (of_decide_eq_true (by kernel_rfl)) k0 bel lt0) (trodAll_cons_mk (Below.trod laidOut (by kernel_rfl) (of_decide_eq_true (by kernel_rfl)) k1 bel lt1) (trodAll_cons_mk (Below.trod laidOut (by kernel_rfl) (of_decide_eq_true (by kernel_rfl)) k2 bel lt2) (trodAll_cons_mk (Below.trod laidOut (by kernel_rfl) (of_decide_eq_true (by kernel_rfl)) k3 bel lt3) trodAll_mk0)))), rfl, bel.frame _, fun h => by cases h⟩

theorem orderChecks_holds : Rows.OrderChecksUptoSaid :=
  OpenClaim.holds_of_cond 7 Try.f7 rfl rfl rfl rfl rfl rfl rfl ⟨rfl, rfl, rfl, rfl, rfl⟩ rfl rfl rfl rfl rfl (by kernel_rfl) Try.func7 (by kernel_rfl)
    (of_decide_eq_true (by kernel_rfl)) (by unfold Func.isWrapper; first | (rw [if_pos (by decide +kernel)]; kernel_rfl) | (rw [if_neg (by decide +kernel)]; exact ⟨rfl, rfl⟩))
    (fun os started H enc _ F => by rw [OpenClaim.pre_eq_preRow]; exact orderChecks_lifted os started H enc F)
#print axioms orderChecks_holds
end Go.Proofs.Ytjohiapgancocaa.Ab
namespace Go.Proofs.Ytjohiapgancocaa
/-- The statement, under a short name, for the claim. -/
theorem orderChecksUpto_proved : Rows.OrderChecksUptoSaid := Ab.orderChecks_holds
end Go.Proofs.Ytjohiapgancocaa
