/- gantlaw4.ToolsChecks returns true for every input of a bulk that fits: the row's statement. -/
import Derived.Test.YtjohiapgancocaaTr
import Derived.Test.YtjohiapgancocaaRows
import Derived.WalkKit
import Derived.ProofKit
import Derived.OpenShut
import Derived.ShutString
import Derived.ChangeOld
import Derived.Below
import Derived.SizedLaws
import Derived.LaidMore
import Derived.Lay
import Derived.SevenTiedAt
import Derived.Stop.Joined
import Derived.Deep.DeepHandedRow
import Derived.JoinedCond
namespace Go.Proofs.Ytjohiapgancocaa.Ab
open Go.ChangeShapes Go.WideShapes Go.ChangeAt Go.RowKit
open Go.ChangeMaps (open_string shut_string)
set_option linter.unusedVariables false
set_option linter.unusedSimpArgs false
set_option maxRecDepth 100000

theorem own : ownKnob Try.prog.godebug = none := by kernel_rfl
theorem laidOut : laidOutB Try.prog = true := by kernel_rfl
theorem int_bounds {n : Int} (h : (Lit.int .i64 n).wf = true) : -9223372036854775808 ≤ n ∧ n ≤ 9223372036854775807 := by
  simp [Lit.wf, IntKind.min, IntKind.max, IntKind.bits, IntKind.signed] at h
  exact ⟨by omega, by omega⟩
theorem len_max {n : Nat} (h : n ≤ maxLen) : n ≤ 9223372036854775807 := by
  have : maxLen = 9223372036854775807 := rfl
  omega

section
variable {H : Type} {A : Hp} {cs : List Value} {d : DataW H}
theorem bulk_mem {l : List (DataW H)} (h : d ∈ l) : Rows.uptoBulk d ≤ Rows.uptoBulkAll l := by
  induction l with
  | nil => cases h
  | cons x r ih =>
    simp only [Rows.uptoBulkAll]
    cases List.mem_cons.1 h with
    | inl e => subst e; omega
    | inr e => have := ih e; omega
theorem bulk_one (d : DataW H) : 1 ≤ Rows.uptoBulk d := by
  cases d with
  | lit l => cases l <;> simp [Rows.uptoBulk]
  | nil => simp [Rows.uptoBulk]
  | ptr d => simp [Rows.uptoBulk]
  | slice elems spare => simp [Rows.uptoBulk]
  | agg parts => simp [Rows.uptoBulk]
  | iface t d => simp [Rows.uptoBulk]
  | map entries => simp [Rows.uptoBulk]
  | held h => simp [Rows.uptoBulk]
theorem bulk_len (l : List (DataW H)) : l.length ≤ Rows.uptoBulkAll l := by
  induction l with
  | nil => simp [Rows.uptoBulkAll]
  | cons x r ih => have := bulk_one x; simp only [Rows.uptoBulkAll, List.length_cons]; omega
theorem Lies.elems {P : Program} {t e : TypeId} (ht : P.underlying t = some (.slice e)) (h : Lies P A t cs d) :
    ∃ v css, cs = [v] ∧ Sl A (P.cellsOf e) v css ∧ css.length ≤ Rows.uptoBulk d ∧ ∀ c ∈ css, ∃ d' : DataW H, Rows.uptoBulk d' ≤ Rows.uptoBulk d ∧ Lies P A e c d' := by
  cases h with
  | bool h b => rw [ht] at h; cases h
  | int h => rw [ht] at h; cases h
  | str h s hs => rw [ht] at h; cases h
  | nil h => exact ⟨_, [], rfl, ⟨by simp, .inl ⟨rfl, rfl⟩⟩, by simp, by simp⟩
  | @sl t e2 v css ds rest h hs hl hm hh =>
    rw [ht] at h; cases h
    have hb := bulk_len ds
    refine ⟨v, css, rfl, hs, by simp only [Rows.uptoBulk]; omega, fun c hc => ?_⟩
    obtain ⟨i, hi⟩ := List.getElem?_of_mem hc
    have hd : i < ds.length := by have := (List.getElem?_eq_some_iff.1 hi).1; omega
    have hm2 := bulk_mem (List.getElem_mem hd)
    exact ⟨ds[i], by simp only [Rows.uptoBulk]; omega, hh i c _ hi (List.getElem?_eq_getElem hd)⟩
  | st h => rw [ht] at h; cases h
end
theorem each_of {α : Type} {enc : α → List Value} {ok : α → Prop} : ∀ {css : List (List Value)}, (∀ c ∈ css, ∃ x : α, c = enc x ∧ ok x) → ∃ l : List α, css = l.map enc ∧ ∀ x ∈ l, ok x
  | [], _ => ⟨[], rfl, by simp⟩
  | c :: cs, h => by
    obtain ⟨x, rfl, hx⟩ := h c (by simp)
    obtain ⟨l, rfl, hl⟩ := each_of (css := cs) fun c hc => h c (by simp [hc])
    exact ⟨x :: l, rfl, by simpa using ⟨hx, hl⟩⟩

theorem use_of_lies {H : Type} {A : Hp} {cs : List Value} {d : DataW H} (h : Lies Try.prog A 29 cs d) : ∃ f : Us, cs = f.cells := by
  obtain ⟨hl, hf⟩ := h.struct_inv Try.underlying29
  have h3 : Try.prog.cellsOf 29 = 3 := by kernel_rfl
  rw [h3] at hl
  match cs, hl with
  | [x, y, z], _ =>
    obtain ⟨d0, l0⟩ := hf 0 _ rfl
    obtain ⟨d1, l1⟩ := hf 1 _ rfl
    obtain ⟨d2, l2⟩ := hf 2 _ rfl
    have h1 : Try.prog.cellsOf 3 = 1 := by kernel_rfl
    change Lies Try.prog A 3 (([x, y, z].drop 0).take (Try.prog.cellsOf 3)) d0 at l0
    change Lies Try.prog A 3 (([x, y, z].drop 1).take (Try.prog.cellsOf 3)) d1 at l1
    change Lies Try.prog A 3 (([x, y, z].drop 2).take (Try.prog.cellsOf 3)) d2 at l2
    rw [h1] at l0 l1 l2
    simp only [List.drop_zero, List.drop_succ_cons, List.take_succ_cons, List.take_zero] at l0 l1 l2
    obtain ⟨a, ha, -, wa⟩ := l0.int_inv Try.underlying3
    obtain ⟨b, hb, -, wb⟩ := l1.int_inv Try.underlying3
    obtain ⟨c, hc, -, wc⟩ := l2.int_inv Try.underlying3
    simp only [List.cons.injEq, and_true] at ha hb hc
    subst ha; subst hb; subst hc
    exact ⟨⟨a, b, c⟩, rfl⟩
theorem uses_of_lies {H : Type} {A : Hp} {cs : List Value} {d : DataW H} (hb : Rows.uptoBulk d ≤ 1048576) (h : Lies Try.prog A 22 cs d) : ∃ (v : Value) (l : List Us), cs = [v] ∧ Sl A 3 v (l.map Us.cells) ∧ l.length ≤ 1048576 := by
  obtain ⟨v, css, rfl, hs, hm, he⟩ := h.elems Try.underlying22
  have h3 : Try.prog.cellsOf 29 = 3 := by kernel_rfl
  rw [h3] at hs
  obtain ⟨l, rfl, -⟩ := each_of (enc := Us.cells) (ok := fun _ => True) fun c hc => by
    obtain ⟨d, -, hd⟩ := he c hc
    obtain ⟨f, hf⟩ := use_of_lies hd
    exact ⟨f, hf, trivial⟩
  rw [List.length_map] at hm
  exact ⟨v, l, rfl, hs, by omega⟩

set_option maxHeartbeats 2000000 in
theorem toolsChecks_lifted (os : Os) (started : os.Started) (H : Type) (enc : TypeId × Value → H) (F : Stop.Interp) :
    ReturnsInHanded {} Try.checked os 4 .any ((Rows.OpenSpec.upto Rows.toolsChecksSpec).preRow enc Try.prog Try.f4 Rows.toolsChecksUptoRow.domain false Rows.toolsChecksUptoRow.laid) (((Rows.OpenSpec.upto Rows.toolsChecksSpec).at F).post enc Try.prog Try.f4 false true false false) := by
  have hx : ((DataW.whole enc Try.prog ((World.laidAll Try.prog os Rows.toolsChecksUptoRow.laid).forCall (fun _ _ => 0) ⟨#[], #[.slice none 0 0, .agg #[.int .i64 0, .int .i64 0, .int .i64 0], .agg #[.int .i64 0, .int .i64 0, .int .i64 0], .int .i64 0, .int .i64 0, .int .i64 0], []⟩).memory Try.f4.params.toList (Rows.OpenSpec.upto Rows.toolsChecksSpec).vars false (#[.slice none 0 0, .agg #[.int .i64 0, .int .i64 0, .int .i64 0], .agg #[.int .i64 0, .int .i64 0, .int .i64 0], .int .i64 0, .int .i64 0, .int .i64 0] : Array Value).toList 8).any fun x => Rows.uptoSmall H (x.1 ++ x.2.1)) = true := by kernel_rfl
  obtain ⟨x, hx1, hx2⟩ : ∃ x, DataW.whole enc Try.prog ((World.laidAll Try.prog os Rows.toolsChecksUptoRow.laid).forCall (fun _ _ => 0) ⟨#[], #[.slice none 0 0, .agg #[.int .i64 0, .int .i64 0, .int .i64 0], .agg #[.int .i64 0, .int .i64 0, .int .i64 0], .int .i64 0, .int .i64 0, .int .i64 0], []⟩).memory Try.f4.params.toList (Rows.OpenSpec.upto Rows.toolsChecksSpec).vars false (#[.slice none 0 0, .agg #[.int .i64 0, .int .i64 0, .int .i64 0], .agg #[.int .i64 0, .int .i64 0, .int .i64 0], .int .i64 0, .int .i64 0, .int .i64 0] : Array Value).toList 8 = some x ∧ Rows.uptoSmall H (x.1 ++ x.2.1) = true := by
    revert hx
    generalize DataW.whole enc Try.prog ((World.laidAll Try.prog os Rows.toolsChecksUptoRow.laid).forCall (fun _ _ => 0) ⟨#[], #[.slice none 0 0, .agg #[.int .i64 0, .int .i64 0, .int .i64 0], .agg #[.int .i64 0, .int .i64 0, .int .i64 0], .int .i64 0, .int .i64 0, .int .i64 0], []⟩).memory Try.f4.params.toList (Rows.OpenSpec.upto Rows.toolsChecksSpec).vars false (#[.slice none 0 0, .agg #[.int .i64 0, .int .i64 0, .int .i64 0], .agg #[.int .i64 0, .int .i64 0, .int .i64 0], .int .i64 0, .int .i64 0, .int .i64 0] : Array Value).toList 8 = y
    intro hx
    cases y with
    | none => cases hx
    | some x => exact ⟨x, rfl, hx⟩
  have hok : Input.okWideB Try.prog ((World.laidAll Try.prog os Rows.toolsChecksUptoRow.laid).forCall (fun _ _ => 0) ⟨#[], #[.slice none 0 0, .agg #[.int .i64 0, .int .i64 0, .int .i64 0], .agg #[.int .i64 0, .int .i64 0, .int .i64 0], .int .i64 0, .int .i64 0, .int .i64 0], []⟩) 4 ⟨#[], #[.slice none 0 0, .agg #[.int .i64 0, .int .i64 0, .int .i64 0], .agg #[.int .i64 0, .int .i64 0, .int .i64 0], .int .i64 0, .int .i64 0, .int .i64 0], []⟩ = true := by kernel_rfl
  refine returnsInHanded_of_row (C := Try.checked) (s := Rows.OpenSpec.upto Rows.toolsChecksSpec) own started (by kernel_rfl) Try.func4
    ⟨World.laidAll Try.prog os Rows.toolsChecksUptoRow.laid, fun _ _ => 0, ⟨#[], #[.slice none 0 0, .agg #[.int .i64 0, .int .i64 0, .int .i64 0], .agg #[.int .i64 0, .int .i64 0, .int .i64 0], .int .i64 0, .int .i64 0, .int .i64 0], []⟩, World.laidAll_os _ _ _, World.shaped_of_ZipB (by kernel_rfl) (by kernel_rfl), (Input.okWide_of_okWideB (base := 0) hok).1, (Input.okWide_of_okWideB hok).2,
      OpenSpec.preRow_of_cond 8 hx1 (by kernel_rfl) (fun k hk => by cases hk; exact hx2) (by kernel_rfl) (by rw [MakeChecks.laidMetH_plain _ _ _ (by kernel_rfl)]; exact laidMet_laidAll _ (by kernel_rfl) (by kernel_rfl)),
      by simp only [Assume.holds]; exact ⟨by simp, by simp, fun _ => Modest.zero, by simp, by simp⟩⟩ ?_
  intro W base args ds gs before hval0 hW hcnd hcond _ hL _ _
  have hval : ∀ (j : Nat) t v, Try.f4.params[j]? = some t → args[j]? = some v → Value.okWide Try.prog W .any base t v := hval0
  have hW' := hW
  obtain ⟨p, q, hA0, hV, rfl, hfz, hnd⟩ := hW
  have hA : DataW.TrodAll enc Try.prog W 0 (fun _ => true) true Try.f4.params.toList args.toList ds p := hA0
  rw [Try.params4] at hA hval
  obtain ⟨v0, vs0, d0, ds0, p0, q0, hargs, rfl, rfl, h0, r0⟩ := trodAll_cons hA
  obtain ⟨v1, vs1, d1, ds1, p1, q1, rfl, rfl, rfl, h1, r1⟩ := trodAll_cons r0
  obtain ⟨v2, vs2, d2, ds2, p2, q2, rfl, rfl, rfl, h2, r2⟩ := trodAll_cons r1
  obtain ⟨v3, vs3, d3, ds3, p3, q3, rfl, rfl, rfl, h3, r3⟩ := trodAll_cons r2
  obtain ⟨v4, vs4, d4, ds4, p4, q4, rfl, rfl, rfl, h4, r4⟩ := trodAll_cons r3
  obtain ⟨v5, vs5, d5, ds5, p5, q5, rfl, rfl, rfl, h5, r5⟩ := trodAll_cons r4
  obtain ⟨rfl, rfl, rfl⟩ := trodAll_nil r5
  obtain rfl : args = #[v0, v1, v2, v3, v4, v5] := by cases args; simp_all
  obtain ⟨rfl, rfl⟩ := trodVars_none hV
  have hbk : Rows.uptoBulkAll (H := H) [d0, d1, d2, d3, d4, d5] ≤ 1048576 := by
    have h := hcond _ rfl
    simp only [List.append_nil] at h
    exact of_decide_eq_true h
  simp only [Rows.uptoBulkAll] at hbk
  obtain ⟨b0, len0, cap0, rfl⟩ := okWide_slice Try.underlying22 (hval 0 22 v0 rfl rfl)
  have k0 := h0
  have lt0 : ∀ x ∈ p0, x.block < W.heap.size := by obtain ⟨m, hm⟩ := k0; exact DataW.trod_lt m _ _ _ hm
  obtain ⟨fuel0, hf0⟩ := h0
  obtain ⟨c1, rfl, -⟩ := okWide_struct Try.underlying29 (hval 1 29 v1 rfl rfl)
  have k1 := h1
  have lt1 : ∀ x ∈ p1, x.block < W.heap.size := by obtain ⟨m, hm⟩ := k1; exact DataW.trod_lt m _ _ _ hm
  obtain ⟨fuel1, hf1⟩ := h1
  obtain ⟨c2, rfl, -⟩ := okWide_struct Try.underlying29 (hval 2 29 v2 rfl rfl)
  have k2 := h2
  have lt2 : ∀ x ∈ p2, x.block < W.heap.size := by obtain ⟨m, hm⟩ := k2; exact DataW.trod_lt m _ _ _ hm
  obtain ⟨fuel2, hf2⟩ := h2
  obtain ⟨a3, rfl, rfl, rfl, w3⟩ := open_int Try.underlying3 (hval 3 3 v3 rfl rfl) h3
  obtain ⟨a4, rfl, rfl, rfl, w4⟩ := open_int Try.underlying3 (hval 4 3 v4 rfl rfl) h4
  obtain ⟨a5, rfl, rfl, rfl, w5⟩ := open_int Try.underlying3 (hval 5 3 v5 rfl rfl) h5
  have HA0 := HR.bare (W := W) (G := fun _ => none) (fun g cs h => by cases h)
  obtain ⟨μ, A, vss, -, HA, hvl, hvs⟩ := open_each (G := fun _ => none) [(_, _, (d0, p0).1), (_, _, (d1, p1).1), (_, _, (d2, p2).1)] (fun q hq => by
    simp only [List.mem_cons, List.not_mem_nil, or_false] at hq
    rcases hq with rfl | rfl | rfl
    · exact open_cells 8 22 (by kernel_rfl) fuel0 _ _ hf0
    · exact open_cells 8 29 (by kernel_rfl) fuel1 _ _ hf1
    · exact open_cells 8 29 (by kernel_rfl) fuel2 _ _ hf2) _ _ HA0
  match vss, hvl with
  | [ws0, ws1, ws2], _ =>
  obtain ⟨cr0, lies0⟩ := hvs 0 _ _ rfl rfl
  replace lies0 : Lies Try.prog A 22 ws0 d0 := lies0
  have hb0 : Rows.uptoBulk d0 ≤ 1048576 := by omega
  obtain ⟨vv0, l0, rfl, hs0, hm0⟩ := uses_of_lies hb0 lies0
  have hv0 : VR μ A vv0 (.slice b0 len0 cap0) := VR.of_cell (by simpa [Value.cells] using cr0)
  obtain ⟨cr1, lies1⟩ := hvs 1 _ _ rfl rfl
  replace lies1 : Lies Try.prog A 29 ws1 d1 := lies1
  have hb1 : Rows.uptoBulk d1 ≤ 1048576 := by omega
  obtain ⟨f1, rfl⟩ := use_of_lies lies1
  have hv1 : VR μ A (.agg _) (.agg c1) := VR.of_cells (by simpa [Value.cells] using cr1) rfl
  obtain ⟨cr2, lies2⟩ := hvs 2 _ _ rfl rfl
  replace lies2 : Lies Try.prog A 29 ws2 d2 := lies2
  have hb2 : Rows.uptoBulk d2 ≤ 1048576 := by omega
  obtain ⟨f2, rfl⟩ := use_of_lies lies2
  have hv2 : VR μ A (.agg _) (.agg c2) := VR.of_cells (by simpa [Value.cells] using cr2) rfl
  refine (toolsChecks_calls (x := f1) (y := f2) hm0 (int_bounds w4) (int_bounds w5) hs0  μ W #[.slice b0 len0 cap0, .agg c1, .agg c2, .int .i64 a3, .int .i64 a4, .int .i64 a5] HA (Nat.le_refl _) ⟨rfl, fun i hi hi' => ?_⟩).mono fun e W' he => ?_
  · match i with
    | 0 => exact hv0
    | 1 => exact hv1
    | 2 => exact hv2
    | 3 => exact .int _ _
    | 4 => exact .int _ _
    | 5 => exact .int _ _
    | i + 6 => simp at hi; omega
  obtain ⟨u, rfl, ν, hu, -, T⟩ := he
  have bel := below_of_trans HA.wf T
  cases hu
  exact ⟨_, rfl, _, _, _, [], _, [], hW', trodAll_mk1 (shut_bool Try.underlying4 _), (trodAll_cons_mk (Below.trod laidOut (by kernel_rfl) (of_decide_eq_true (by kernel_rfl)) k0 bel lt0) (trodAll_cons_mk (Below.trod laidOut (by kernel_rfl) (of_decide_eq_true (by kernel_rfl)) k1 bel lt1) (trodAll_cons_mk (Below.trod laidOut (by kernel_rfl) (of_decide_eq_true (by kernel_rfl)) k2 bel lt2) (trodAll_cons_mk (shut_int Try.underlying3 w3) (trodAll_cons_mk (shut_int Try.underlying3 w4) (trodAll_cons_mk (shut_int Try.underlying3 w5) trodAll_mk0)))))), rfl, bel.frame _, fun h => by cases h⟩

theorem toolsChecks_holds : Rows.ToolsChecksUptoSaid :=
  OpenClaim.holds_of_cond 4 Try.f4 rfl rfl rfl rfl rfl rfl rfl ⟨rfl, rfl, rfl, rfl, rfl⟩ rfl rfl rfl rfl rfl (by kernel_rfl) Try.func4 (by kernel_rfl)
    (of_decide_eq_true (by kernel_rfl)) (by unfold Func.isWrapper; first | (rw [if_pos (by decide +kernel)]; kernel_rfl) | (rw [if_neg (by decide +kernel)]; exact ⟨rfl, rfl⟩))
    (fun os started H enc _ F => by rw [OpenClaim.pre_eq_preRow]; exact toolsChecks_lifted os started H enc F)
#print axioms toolsChecks_holds
end Go.Proofs.Ytjohiapgancocaa.Ab
namespace Go.Proofs.Ytjohiapgancocaa
/-- The statement, under a short name, for the claim. -/
theorem toolsChecksUpto_proved : Rows.ToolsChecksUptoSaid := Ab.toolsChecks_holds
end Go.Proofs.Ytjohiapgancocaa
