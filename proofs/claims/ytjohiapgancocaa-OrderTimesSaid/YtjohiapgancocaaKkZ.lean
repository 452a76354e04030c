/- gantlaw4.OrderTimes returns true for every input: the row's statement. -/
import Derived.Test.YtjohiapgancocaaKk
import Derived.Test.YtjohiapgancocaaRows
import Derived.WalkKit
import Derived.ProofKit
import Derived.OpenShut
import Derived.ShutString
import Derived.ChangeOld
import Derived.Below
import Derived.SizedLaws
import Derived.LaidMore
import Derived.Lay
import Derived.SevenTiedAt
import Derived.Stop.Joined
import Derived.Deep.DeepHandedRow
import Derived.JoinedCond
namespace Go.Proofs.Ytjohiapgancocaa.Ab
open Go.ChangeShapes Go.WideShapes Go.ChangeAt Go.RowKit
open Go.ChangeMaps (open_string shut_string)
set_option linter.unusedVariables false
set_option linter.unusedSimpArgs false
set_option maxRecDepth 100000

theorem own : ownKnob Try.prog.godebug = none := by kernel_rfl
theorem laidOut : laidOutB Try.prog = true := by kernel_rfl
theorem int_bounds {n : Int} (h : (Lit.int .i64 n).wf = true) : -9223372036854775808 ≤ n ∧ n ≤ 9223372036854775807 := by
  simp [Lit.wf, IntKind.min, IntKind.max, IntKind.bits, IntKind.signed] at h
  exact ⟨by omega, by omega⟩
theorem len_max {n : Nat} (h : n ≤ maxLen) : n ≤ 9223372036854775807 := by
  have : maxLen = 9223372036854775807 := rfl
  omega

theorem each_of {α : Type} {enc : α → List Value} {ok : α → Prop} : ∀ {css : List (List Value)}, (∀ c ∈ css, ∃ x : α, c = enc x ∧ ok x) → ∃ l : List α, css = l.map enc ∧ ∀ x ∈ l, ok x
  | [], _ => ⟨[], rfl, by simp⟩
  | c :: cs, h => by
    obtain ⟨x, rfl, hx⟩ := h c (by simp)
    obtain ⟨l, rfl, hl⟩ := each_of (css := cs) fun c hc => h c (by simp [hc])
    exact ⟨x :: l, rfl, by simpa using ⟨hx, hl⟩⟩
theorem ints_of_lies {H : Type} {A : Hp} {cs : List Value} {d : DataW H} (h : Lies Try.prog A 40 cs d) : ∃ (v : Value) (l : List Int), cs = [v] ∧ Sl A 1 v (l.map iC) ∧ l.length ≤ maxLen := by
  obtain ⟨v, css, rfl, hs, hm, he⟩ := h.slice_inv Try.underlying40
  have h1 : Try.prog.cellsOf 3 = 1 := by kernel_rfl
  rw [h1] at hs
  obtain ⟨l, rfl, -⟩ := each_of (enc := iC) (ok := fun _ => True) fun c hc => by
    obtain ⟨d, hd⟩ := he c hc
    obtain ⟨a, ha, -, -⟩ := hd.int_inv Try.underlying3
    exact ⟨a, ha, trivial⟩
  exact ⟨v, l, rfl, hs, by simpa using hm⟩
theorem rows_of {A : Hp} : ∀ {css : List (List Value)}, (∀ c ∈ css, ∃ (v : Value) (l : List Int), c = [v] ∧ Sl A 1 v (l.map iC) ∧ l.length ≤ maxLen) → ∃ (vs : List Value) (ls : List (List Int)), css = vs.map (fun u => [u]) ∧ vs.length = ls.length ∧ (∀ i (h : i < vs.length) (h' : i < ls.length), Sl A 1 vs[i] (ls[i].map iC)) ∧ ∀ x ∈ ls, x.length ≤ maxLen
  | [], _ => ⟨[], [], rfl, rfl, fun i h => absurd h (Nat.not_lt_zero _), by simp⟩
  | c :: cs, h => by
    obtain ⟨v, l, rfl, h1, h2⟩ := h c (by simp)
    obtain ⟨vs, ls, rfl, e, h3, h4⟩ := rows_of (css := cs) fun c hc => h c (by simp [hc])
    refine ⟨v :: vs, l :: ls, rfl, by simp [e], fun i a b => ?_, by simpa using ⟨h2, h4⟩⟩
    cases i with
    | zero => exact h1
    | succ i => exact h3 i (by simpa using a) (by simpa using b)
theorem nst_of_lies {H : Type} {A : Hp} {cs : List Value} {d : DataW H} (h : Lies Try.prog A 44 cs d) : ∃ (v : Value) (ls : List (List Int)), cs = [v] ∧ Nst A v ls ∧ ∀ k, k < ls.length → (ls.getD k []).length ≤ maxLen := by
  obtain ⟨v, css, rfl, hs, hm, he⟩ := h.slice_inv Try.underlying44
  have h1 : Try.prog.cellsOf 40 = 1 := by kernel_rfl
  rw [h1] at hs
  obtain ⟨vs, ls, rfl, e, h3, h4⟩ := rows_of fun c hc => by
    obtain ⟨d, hd⟩ := he c hc
    exact ints_of_lies hd
  exact ⟨v, ls, rfl, ⟨vs, hs, e, h3⟩, fun k hk => by rw [getD_row hk]; exact h4 _ (List.getElem_mem hk)⟩

set_option maxHeartbeats 2000000 in
theorem orderTimes_lifted (os : Os) (started : os.Started) (H : Type) (enc : TypeId × Value → H) :
    ReturnsInHanded {} Try.checked os 6 .any (Rows.orderTimesSpec.pre6 enc Try.prog Try.f6 Rows.orderTimesRow.domain false) (Rows.orderTimesSpec.post enc Try.prog Try.f6 false true false false) := by
  refine returnsInHanded_of_change_sized (C := Try.checked) own started (by kernel_rfl) Try.func6
    (ChangeSpec.witness6 (enc := enc) (C := Try.checked) false ⟨#[], #[.slice none 0 0, .slice none 0 0], []⟩ 8 (by kernel_rfl) (by kernel_rfl) (by kernel_rfl) (by kernel_rfl)) ?_
  intro W base args ds gs before hval0 hW hcnd hsz0 _
  have hval : ∀ (j : Nat) t v, Try.f6.params[j]? = some t → args[j]? = some v → Value.okWide Try.prog W .any base t v := hval0
  have hW' := hW
  obtain ⟨p, q, hA0, hV, rfl, hfz, hnd⟩ := hW
  have hA : DataW.TrodAll enc Try.prog W 0 (fun _ => true) true Try.f6.params.toList args.toList ds p := hA0
  rw [Try.params6] at hA hval
  obtain ⟨v0, vs0, d0, ds0, p0, q0, hargs, rfl, rfl, h0, r0⟩ := trodAll_cons hA
  obtain ⟨v1, vs1, d1, ds1, p1, q1, rfl, rfl, rfl, h1, r1⟩ := trodAll_cons r0
  obtain ⟨rfl, rfl, rfl⟩ := trodAll_nil r1
  obtain rfl : args = #[v0, v1] := by cases args; simp_all
  obtain ⟨rfl, rfl⟩ := trodVars_none hV
  obtain ⟨b0, len0, cap0, rfl⟩ := okWide_slice Try.underlying44 (hval 0 44 v0 rfl rfl)
  have k0 := h0
  have lt0 : ∀ x ∈ p0, x.block < W.heap.size := by obtain ⟨m, hm⟩ := k0; exact DataW.trod_lt m _ _ _ hm
  obtain ⟨fuel0, hf0⟩ := h0
  obtain ⟨b1, len1, cap1, rfl⟩ := okWide_slice Try.underlying40 (hval 1 40 v1 rfl rfl)
  have k1 := h1
  have lt1 : ∀ x ∈ p1, x.block < W.heap.size := by obtain ⟨m, hm⟩ := k1; exact DataW.trod_lt m _ _ _ hm
  obtain ⟨fuel1, hf1⟩ := h1
  have HA0 := HR.bare (W := W) (G := fun _ => none) (fun g cs h => by cases h)
  obtain ⟨μ, A, vss, -, HA, hvl, hvs⟩ := open_each (G := fun _ => none) [(_, _, (d0, p0).1), (_, _, (d1, p1).1)] (fun q hq => by
    simp only [List.mem_cons, List.not_mem_nil, or_false] at hq
    rcases hq with rfl | rfl
    · exact open_cells 8 44 (by kernel_rfl) fuel0 _ _ hf0
    · exact open_cells 8 40 (by kernel_rfl) fuel1 _ _ hf1) _ _ HA0
  match vss, hvl with
  | [ws0, ws1], _ =>
  obtain ⟨cr0, lies0⟩ := hvs 0 _ _ rfl rfl
  replace lies0 : Lies Try.prog A 44 ws0 d0 := lies0
  obtain ⟨vv0, l0, rfl, hs0, hm0⟩ := nst_of_lies lies0
  have hv0 : VR μ A vv0 (.slice b0 len0 cap0) := VR.of_cell (by simpa [Value.cells] using cr0)
  obtain ⟨cr1, lies1⟩ := hvs 1 _ _ rfl rfl
  replace lies1 : Lies Try.prog A 40 ws1 d1 := lies1
  obtain ⟨vv1, l1, rfl, hs1, hm1⟩ := ints_of_lies lies1
  have hv1 : VR μ A vv1 (.slice b1 len1 cap1) := VR.of_cell (by simpa [Value.cells] using cr1)
  refine (orderTimes_calls hs0 (fun k hk => len_max (hm0 k hk)) hs1 (len_max hm1) μ W #[.slice b0 len0 cap0, .slice b1 len1 cap1] HA (Nat.le_refl _) ⟨rfl, fun i hi hi' => ?_⟩).mono fun e W' he => ?_
  · match i with
    | 0 => exact hv0
    | 1 => exact hv1
    | i + 2 => simp at hi; omega
  obtain ⟨u, rfl, ν, hu, -, T⟩ := he
  have bel := below_of_trans HA.wf T
  cases hu
  exact ⟨_, rfl, _, _, _, [], _, [], hW', trodAll_mk1 (shut_bool Try.underlying4 _), (trodAll_cons_mk (Below.trod laidOut (by kernel_rfl) (of_decide_eq_true (by kernel_rfl)) k0 bel lt0) (trodAll_cons_mk (Below.trod laidOut (by kernel_rfl) (of_decide_eq_true (by kernel_rfl)) k1 bel lt1) trodAll_mk0)), rfl, bel.frame _, fun h => by cases h⟩

theorem orderTimes_holds : Rows.OrderTimesSaid :=
  OpenClaim.holds_of_wide 6 Try.f6 rfl rfl rfl rfl rfl rfl rfl ⟨rfl, rfl, rfl, rfl, rfl⟩ rfl rfl rfl rfl rfl (by kernel_rfl) Try.func6 (by kernel_rfl)
    (of_decide_eq_true (by kernel_rfl)) (by unfold Func.isWrapper; first | (rw [if_pos (by decide +kernel)]; kernel_rfl) | (rw [if_neg (by decide +kernel)]; exact ⟨rfl, rfl⟩))
    (fun os started H enc _ => orderTimes_lifted os started H enc)
#print axioms orderTimes_holds
end Go.Proofs.Ytjohiapgancocaa.Ab
namespace Go.Proofs.Ytjohiapgancocaa
/-- The statement, under a short name, for the claim. -/
theorem orderTimes_proved : Rows.OrderTimesSaid := Ab.orderTimes_holds
end Go.Proofs.Ytjohiapgancocaa
