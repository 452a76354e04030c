/- tools.First returns what the document says, for all uses and arguments: the row's statement. -/
import Derived.Test.YtjohiapgancocaaRows
import Derived.Test.YtjohiapgancocaaTlE
import Derived.WalkKit
import Derived.ProofKit
import Derived.OpenShut
import Derived.ShutString
import Derived.ChangeOld
import Derived.Below
import Derived.SizedLaws
namespace Go.Proofs.Ytjohiapgancocaa.Ab
open Go.ChangeShapes Go.WideShapes Go.ChangeAt Go.RowKit
open Go.ChangeMaps (open_string shut_string)
set_option linter.unusedVariables false
set_option maxRecDepth 100000

theorem own : ownKnob Try.prog.godebug = none := by kernel_rfl
theorem laidOut : laidOutB Try.prog = true := by kernel_rfl

theorem int_bounds {n : Int} (h : (Lit.int .i64 n).wf = true) : I64 n := by
  simp [Lit.wf, IntKind.min, IntKind.max, IntKind.bits, IntKind.signed] at h
  exact ⟨by omega, by omega⟩

/-- A use. -/
theorem use_of_lies {H : Type} {A : Hp} {cs : List Value} {d : DataW H} (h : Lies Try.prog A 29 cs d) : ∃ u : Us, cs = u.cells ∧ u.ok := by
  obtain ⟨hl, hf⟩ := h.struct_inv Try.underlying29
  have h3 : Try.prog.cellsOf 29 = 3 := by kernel_rfl
  rw [h3] at hl
  match cs, hl with
  | [x, y, z], _ =>
    obtain ⟨d0, l0⟩ := hf 0 _ rfl
    obtain ⟨d1, l1⟩ := hf 1 _ rfl
    obtain ⟨d2, l2⟩ := hf 2 _ rfl
    have h1 : Try.prog.cellsOf 3 = 1 := by kernel_rfl
    change Lies Try.prog A 3 (([x, y, z].drop 0).take (Try.prog.cellsOf 3)) d0 at l0
    change Lies Try.prog A 3 (([x, y, z].drop 1).take (Try.prog.cellsOf 3)) d1 at l1
    change Lies Try.prog A 3 (([x, y, z].drop 2).take (Try.prog.cellsOf 3)) d2 at l2
    rw [h1] at l0 l1 l2
    simp only [List.drop_zero, List.drop_succ_cons, List.take_succ_cons, List.take_zero] at l0 l1 l2
    obtain ⟨a, ha, -, wa⟩ := l0.int_inv Try.underlying3
    obtain ⟨b, hb, -, wb⟩ := l1.int_inv Try.underlying3
    obtain ⟨c, hc, -, wc⟩ := l2.int_inv Try.underlying3
    simp only [List.cons.injEq, and_true] at ha hb hc
    subst ha; subst hb; subst hc
    exact ⟨⟨a, b, c⟩, rfl, int_bounds wa, int_bounds wb, int_bounds wc⟩

/-- Cells of elements, by what each is. -/
theorem each_of {α : Type} {enc : α → List Value} {ok : α → Prop} : ∀ {css : List (List Value)}, (∀ c ∈ css, ∃ x : α, c = enc x ∧ ok x) → ∃ l : List α, css = l.map enc ∧ ∀ x ∈ l, ok x
  | [], _ => ⟨[], rfl, by simp⟩
  | c :: cs, h => by
    obtain ⟨x, rfl, hx⟩ := h c (by simp)
    obtain ⟨l, rfl, hl⟩ := each_of (css := cs) fun c hc => h c (by simp [hc])
    exact ⟨x :: l, rfl, by simpa using ⟨hx, hl⟩⟩

/-- Slices of uses. -/
theorem uses_of_lies {H : Type} {A : Hp} {cs : List Value} {d : DataW H} (h : Lies Try.prog A 22 cs d) : ∃ (v : Value) (l : List Us), cs = [v] ∧ Sl A 3 v (l.map Us.cells) ∧ (∀ u ∈ l, u.ok) ∧ l.length ≤ maxLen := by
  obtain ⟨v, css, rfl, hs, hm, he⟩ := h.slice_inv Try.underlying22
  have h3 : Try.prog.cellsOf 29 = 3 := by kernel_rfl
  rw [h3] at hs
  obtain ⟨l, rfl, hl⟩ := each_of (enc := Us.cells) (ok := Us.ok) fun c hc => by
    obtain ⟨d, hd⟩ := he c hc
    exact use_of_lies hd
  exact ⟨v, l, rfl, hs, hl, by simpa using hm⟩

theorem toolsFirst_lifted (os : Os) (started : os.Started) (H : Type) (enc : TypeId × Value → H) :
    ReturnsInHanded {} Try.checked os 3 .any (Rows.toolsFirstSpec.pre6 enc Try.prog Try.f3 Rows.toolsFirstRow.domain false) (Rows.toolsFirstSpec.post enc Try.prog Try.f3 false true false false) := by
  refine returnsInHanded_of_change_sized (C := Try.checked) own started (by kernel_rfl) Try.func3
    (ChangeSpec.witness6 (enc := enc) (C := Try.checked) false ⟨#[], #[.slice none 0 0, .int .i64 0, .int .i64 0, .int .i64 0], []⟩ 8 (by kernel_rfl) (by kernel_rfl) (by kernel_rfl) (by kernel_rfl)) ?_
  intro W base args ds gs before hval0 hW hcnd hsz0 _
  have hval : ∀ (j : Nat) t v, Try.f3.params[j]? = some t → args[j]? = some v → Value.okWide Try.prog W .any base t v := hval0
  have hW' := hW
  obtain ⟨p, q, hA0, hV, rfl, hfz, hnd⟩ := hW
  have hA : DataW.TrodAll enc Try.prog W 0 (fun _ => true) true Try.f3.params.toList args.toList ds p := hA0
  rw [Try.params3] at hA hval
  obtain ⟨v0, vs0, d0, ds0, p0, q0, hargs, rfl, rfl, h0, r0⟩ := trodAll_cons hA
  obtain ⟨v1, vs1, d1, ds1, p1, q1, rfl, rfl, rfl, h1, r1⟩ := trodAll_cons r0
  obtain ⟨v2, vs2, d2, ds2, p2, q2, rfl, rfl, rfl, h2, r2⟩ := trodAll_cons r1
  obtain ⟨v3, vs3, d3, ds3, p3, q3, rfl, rfl, rfl, h3, r3⟩ := trodAll_cons r2
  obtain ⟨rfl, rfl, rfl⟩ := trodAll_nil r3
  obtain rfl : args = #[v0, v1, v2, v3] := by cases args; simp_all
  obtain ⟨rfl, rfl⟩ := trodVars_none hV
  obtain ⟨a1, rfl, rfl, rfl, w1⟩ := open_int Try.underlying3 (hval 1 3 v1 rfl rfl) h1
  obtain ⟨a2, rfl, rfl, rfl, w2⟩ := open_int Try.underlying3 (hval 2 3 v2 rfl rfl) h2
  obtain ⟨a3, rfl, rfl, rfl, w3⟩ := open_int Try.underlying3 (hval 3 3 v3 rfl rfl) h3
  obtain ⟨b0, len0, cap0, rfl⟩ := okWide_slice Try.underlying22 (hval 0 22 v0 rfl rfl)
  have k0 := h0
  have lt0 : ∀ x ∈ p0, x.block < W.heap.size := by obtain ⟨m, hm⟩ := k0; exact DataW.trod_lt m _ _ _ hm
  obtain ⟨fuel, hf⟩ := h0
  obtain ⟨μ, A, vs, -, HA, cr, lies⟩ := open_cells (G := fun _ => none) 8 22 (by kernel_rfl) fuel _ _ hf _ _ (HR.bare fun g cs h => by cases h)
  obtain ⟨v, l, rfl, hs, -, -⟩ := uses_of_lies lies
  have hv : VR μ A v (.slice b0 len0 cap0) := VR.of_cell (by simpa [Value.cells] using cr)
  refine (toolsFirst_calls (q := ⟨a1, a2, a3⟩) hs μ W #[.slice b0 len0 cap0, .int .i64 a1, .int .i64 a2, .int .i64 a3] HA (Nat.le_refl _) ⟨rfl, fun i hi hi' => ?_⟩).mono fun e W' he => ?_
  · match i with
    | 0 => exact hv
    | 1 => exact .int _ _
    | 2 => exact .int _ _
    | 3 => exact .int _ _
    | i + 4 => simp at hi; omega
  obtain ⟨u, rfl, ν, hu, -, T⟩ := he
  have bel := below_of_trans HA.wf T
  cases hu
  exact ⟨_, rfl, _, _, _, [], _, [], hW', trodAll_mk1 (shut_bool Try.underlying4 _), (trodAll_cons_mk (Below.trod laidOut (by kernel_rfl) (of_decide_eq_true (by kernel_rfl)) k0 bel lt0) (trodAll_cons_mk (shut_int Try.underlying3 w1) (trodAll_cons_mk (shut_int Try.underlying3 w2) (trodAll_cons_mk (shut_int Try.underlying3 w3) trodAll_mk0)))), rfl, bel.frame _, fun h => by cases h⟩

theorem toolsFirst_holds : Rows.ToolsFirstSaid :=
  OpenClaim.holds_of_wide 3 Try.f3 rfl rfl rfl rfl rfl rfl rfl ⟨rfl, rfl, rfl, rfl, rfl⟩ rfl rfl rfl rfl rfl (by kernel_rfl) Try.func3 (by kernel_rfl)
    (of_decide_eq_true (by kernel_rfl)) (by unfold Func.isWrapper; first | (rw [if_pos (by decide +kernel)]; kernel_rfl) | (rw [if_neg (by decide +kernel)]; exact ⟨rfl, rfl⟩))
    (fun os started H enc _ => toolsFirst_lifted os started H enc)
#print axioms toolsFirst_holds
end Go.Proofs.Ytjohiapgancocaa.Ab
namespace Go.Proofs.Ytjohiapgancocaa
/-- The row, under a short name, for the claim. -/
theorem toolsFirst_proved : Rows.ToolsFirstSaid := Ab.toolsFirst_holds
end Go.Proofs.Ytjohiapgancocaa
