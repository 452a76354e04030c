/- ganttop.TopClocks returns true for every input: the row's statement. -/
import Derived.Test.YtiiapkhdjchhjaaCd
import Derived.Test.YtiiapkhdjchhjaaRows
import Derived.WalkKit
import Derived.ProofKit
import Derived.OpenShut
import Derived.ShutString
import Derived.ChangeOld
import Derived.Below
import Derived.SizedLaws
import Derived.LaidMore
import Derived.Lay
import Derived.SevenTiedAt
import Derived.Stop.Joined
import Derived.Deep.DeepHandedRow
import Derived.JoinedCond
namespace Go.Proofs.Ytiiapkhdjchhjaa.Ab
open Go.ChangeShapes Go.WideShapes Go.ChangeAt Go.RowKit
open Go.ChangeMaps (open_string shut_string)
set_option linter.unusedVariables false
set_option linter.unusedSimpArgs false
set_option maxRecDepth 100000

theorem own : ownKnob Try.prog.godebug = none := by kernel_rfl
theorem laidOut : laidOutB Try.prog = true := by kernel_rfl
theorem int_bounds {n : Int} (h : (Lit.int .i64 n).wf = true) : -9223372036854775808 ≤ n ∧ n ≤ 9223372036854775807 := by
  simp [Lit.wf, IntKind.min, IntKind.max, IntKind.bits, IntKind.signed] at h
  exact ⟨by omega, by omega⟩
theorem len_max {n : Nat} (h : n ≤ maxLen) : n ≤ 9223372036854775807 := by
  have : maxLen = 9223372036854775807 := rfl
  omega

theorem each_of {α : Type} {enc : α → List Value} {ok : α → Prop} : ∀ {css : List (List Value)}, (∀ c ∈ css, ∃ x : α, c = enc x ∧ ok x) → ∃ l : List α, css = l.map enc ∧ ∀ x ∈ l, ok x
  | [], _ => ⟨[], rfl, by simp⟩
  | c :: cs, h => by
    obtain ⟨x, rfl, hx⟩ := h c (by simp)
    obtain ⟨l, rfl, hl⟩ := each_of (css := cs) fun c hc => h c (by simp [hc])
    exact ⟨x :: l, rfl, by simpa using ⟨hx, hl⟩⟩
theorem ints_of_lies {H : Type} {A : Hp} {cs : List Value} {d : DataW H} (h : Lies Try.prog A 23 cs d) : ∃ (v : Value) (l : List Int), cs = [v] ∧ Sl A 1 v (l.map iC) ∧ l.length ≤ maxLen := by
  obtain ⟨v, css, rfl, hs, hm, he⟩ := h.slice_inv Try.underlying23
  have h1 : Try.prog.cellsOf 3 = 1 := by kernel_rfl
  rw [h1] at hs
  obtain ⟨l, rfl, -⟩ := each_of (enc := iC) (ok := fun _ => True) fun c hc => by
    obtain ⟨d, hd⟩ := he c hc
    obtain ⟨a, ha, -, -⟩ := hd.int_inv Try.underlying3
    exact ⟨a, ha, trivial⟩
  exact ⟨v, l, rfl, hs, by simpa using hm⟩

theorem fault_of_lies {H : Type} {A : Hp} {cs : List Value} {d : DataW H} (h : Lies Try.prog A 30 cs d) : ∃ f : Fa, cs = fC f := by
  obtain ⟨hl, hf⟩ := h.struct_inv Try.underlying30
  have h3 : Try.prog.cellsOf 30 = 3 := by kernel_rfl
  rw [h3] at hl
  match cs, hl with
  | [x, y, z], _ =>
    obtain ⟨d0, l0⟩ := hf 0 _ rfl
    obtain ⟨d1, l1⟩ := hf 1 _ rfl
    obtain ⟨d2, l2⟩ := hf 2 _ rfl
    have h1 : Try.prog.cellsOf 3 = 1 := by kernel_rfl
    change Lies Try.prog A 3 (([x, y, z].drop 0).take (Try.prog.cellsOf 3)) d0 at l0
    change Lies Try.prog A 3 (([x, y, z].drop 1).take (Try.prog.cellsOf 3)) d1 at l1
    change Lies Try.prog A 3 (([x, y, z].drop 2).take (Try.prog.cellsOf 3)) d2 at l2
    rw [h1] at l0 l1 l2
    simp only [List.drop_zero, List.drop_succ_cons, List.take_succ_cons, List.take_zero] at l0 l1 l2
    obtain ⟨a, ha, -, wa⟩ := l0.int_inv Try.underlying3
    obtain ⟨b, hb, -, wb⟩ := l1.int_inv Try.underlying3
    obtain ⟨c, hc, -, wc⟩ := l2.int_inv Try.underlying3
    simp only [List.cons.injEq, and_true] at ha hb hc
    subst ha; subst hb; subst hc
    exact ⟨⟨a, b, c⟩, rfl⟩
theorem faults_of_lies {H : Type} {A : Hp} {cs : List Value} {d : DataW H} (h : Lies Try.prog A 22 cs d) : ∃ (v : Value) (l : List Fa), cs = [v] ∧ Sl A 3 v (l.map fC) ∧ l.length ≤ maxLen := by
  obtain ⟨v, css, rfl, hs, hm, he⟩ := h.slice_inv Try.underlying22
  have h3 : Try.prog.cellsOf 30 = 3 := by kernel_rfl
  rw [h3] at hs
  obtain ⟨l, rfl, -⟩ := each_of (enc := fC) (ok := fun _ => True) fun c hc => by
    obtain ⟨d, hd⟩ := he c hc
    obtain ⟨f, hf⟩ := fault_of_lies hd
    exact ⟨f, hf, trivial⟩
  exact ⟨v, l, rfl, hs, by simpa using hm⟩

set_option maxHeartbeats 2000000 in
theorem topClocks_lifted (os : Os) (started : os.Started) (H : Type) (enc : TypeId × Value → H) :
    ReturnsInHanded {} Try.checked os 3 .any (Rows.topClocksSpec.pre6 enc Try.prog Try.f3 Rows.topClocksRow.domain false) (Rows.topClocksSpec.post enc Try.prog Try.f3 false true false false) := by
  refine returnsInHanded_of_change_sized (C := Try.checked) own started (by kernel_rfl) Try.func3
    (ChangeSpec.witness6 (enc := enc) (C := Try.checked) false ⟨#[], #[.slice none 0 0, .slice none 0 0, .int .i64 0], []⟩ 8 (by kernel_rfl) (by kernel_rfl) (by kernel_rfl) (by kernel_rfl)) ?_
  intro W base args ds gs before hval0 hW hcnd hsz0 _
  have hval : ∀ (j : Nat) t v, Try.f3.params[j]? = some t → args[j]? = some v → Value.okWide Try.prog W .any base t v := hval0
  have hW' := hW
  obtain ⟨p, q, hA0, hV, rfl, hfz, hnd⟩ := hW
  have hA : DataW.TrodAll enc Try.prog W 0 (fun _ => true) true Try.f3.params.toList args.toList ds p := hA0
  rw [Try.params3] at hA hval
  obtain ⟨v0, vs0, d0, ds0, p0, q0, hargs, rfl, rfl, h0, r0⟩ := trodAll_cons hA
  obtain ⟨v1, vs1, d1, ds1, p1, q1, rfl, rfl, rfl, h1, r1⟩ := trodAll_cons r0
  obtain ⟨v2, vs2, d2, ds2, p2, q2, rfl, rfl, rfl, h2, r2⟩ := trodAll_cons r1
  obtain ⟨rfl, rfl, rfl⟩ := trodAll_nil r2
  obtain rfl : args = #[v0, v1, v2] := by cases args; simp_all
  obtain ⟨rfl, rfl⟩ := trodVars_none hV
  obtain ⟨b0, len0, cap0, rfl⟩ := okWide_slice Try.underlying22 (hval 0 22 v0 rfl rfl)
  have k0 := h0
  have lt0 : ∀ x ∈ p0, x.block < W.heap.size := by obtain ⟨m, hm⟩ := k0; exact DataW.trod_lt m _ _ _ hm
  obtain ⟨fuel0, hf0⟩ := h0
  obtain ⟨b1, len1, cap1, rfl⟩ := okWide_slice Try.underlying23 (hval 1 23 v1 rfl rfl)
  have k1 := h1
  have lt1 : ∀ x ∈ p1, x.block < W.heap.size := by obtain ⟨m, hm⟩ := k1; exact DataW.trod_lt m _ _ _ hm
  obtain ⟨fuel1, hf1⟩ := h1
  obtain ⟨a2, rfl, rfl, rfl, w2⟩ := open_int Try.underlying3 (hval 2 3 v2 rfl rfl) h2
  have HA0 := HR.bare (W := W) (G := fun _ => none) (fun g cs h => by cases h)
  obtain ⟨μ, A, vss, -, HA, hvl, hvs⟩ := open_each (G := fun _ => none) [(_, _, (d0, p0).1), (_, _, (d1, p1).1)] (fun q hq => by
    simp only [List.mem_cons, List.not_mem_nil, or_false] at hq
    rcases hq with rfl | rfl
    · exact open_cells 8 22 (by kernel_rfl) fuel0 _ _ hf0
    · exact open_cells 8 23 (by kernel_rfl) fuel1 _ _ hf1) _ _ HA0
  match vss, hvl with
  | [ws0, ws1], _ =>
  obtain ⟨cr0, lies0⟩ := hvs 0 _ _ rfl rfl
  replace lies0 : Lies Try.prog A 22 ws0 d0 := lies0
  obtain ⟨vv0, l0, rfl, hs0, hm0⟩ := faults_of_lies lies0
  have hv0 : VR μ A vv0 (.slice b0 len0 cap0) := VR.of_cell (by simpa [Value.cells] using cr0)
  obtain ⟨cr1, lies1⟩ := hvs 1 _ _ rfl rfl
  replace lies1 : Lies Try.prog A 23 ws1 d1 := lies1
  obtain ⟨vv1, l1, rfl, hs1, hm1⟩ := ints_of_lies lies1
  have hv1 : VR μ A vv1 (.slice b1 len1 cap1) := VR.of_cell (by simpa [Value.cells] using cr1)
  refine (topClocks_calls hs0 (len_max hm0) hs1 (len_max hm1) μ W #[.slice b0 len0 cap0, .slice b1 len1 cap1, .int .i64 a2] HA (Nat.le_refl _) ⟨rfl, fun i hi hi' => ?_⟩).mono fun e W' he => ?_
  · match i with
    | 0 => exact hv0
    | 1 => exact hv1
    | 2 => exact .int _ _
    | i + 3 => simp at hi; omega
  obtain ⟨u, rfl, ν, hu, -, T⟩ := he
  have bel := below_of_trans HA.wf T
  cases hu
  exact ⟨_, rfl, _, _, _, [], _, [], hW', trodAll_mk1 (shut_bool Try.underlying4 _), (trodAll_cons_mk (Below.trod laidOut (by kernel_rfl) (of_decide_eq_true (by kernel_rfl)) k0 bel lt0) (trodAll_cons_mk (Below.trod laidOut (by kernel_rfl) (of_decide_eq_true (by kernel_rfl)) k1 bel lt1) (trodAll_cons_mk (shut_int Try.underlying3 w2) trodAll_mk0))), rfl, bel.frame _, fun h => by cases h⟩

theorem topClocks_holds : Rows.TopClocksSaid :=
  OpenClaim.holds_of_wide 3 Try.f3 rfl rfl rfl rfl rfl rfl rfl ⟨rfl, rfl, rfl, rfl, rfl⟩ rfl rfl rfl rfl rfl (by kernel_rfl) Try.func3 (by kernel_rfl)
    (of_decide_eq_true (by kernel_rfl)) (by unfold Func.isWrapper; first | (rw [if_pos (by decide +kernel)]; kernel_rfl) | (rw [if_neg (by decide +kernel)]; exact ⟨rfl, rfl⟩))
    (fun os started H enc _ => topClocks_lifted os started H enc)
#print axioms topClocks_holds
end Go.Proofs.Ytiiapkhdjchhjaa.Ab
namespace Go.Proofs.Ytiiapkhdjchhjaa
/-- The statement, under a short name, for the claim. -/
theorem topClocks_proved : Rows.TopClocksSaid := Ab.topClocks_holds
end Go.Proofs.Ytiiapkhdjchhjaa
