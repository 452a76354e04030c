/- tools.Plan, tools.Right and tools.End return what the document says, for all tasks and starts: the row's statement. -/
import Derived.Test.YtjohiapgancocaaRows
import Derived.Test.YtjohiapgancocaaTpI
import Derived.WalkKit
import Derived.ProofKit
import Derived.OpenShut
import Derived.ShutString
import Derived.ChangeOld
import Derived.Below
import Derived.SizedLaws
namespace Go.Proofs.Ytjohiapgancocaa.Ab
open Go.ChangeShapes Go.WideShapes Go.ChangeAt Go.RowKit
open Go.ChangeMaps (open_string shut_string)
set_option linter.unusedVariables false
set_option maxRecDepth 100000

theorem own : ownKnob Try.prog.godebug = none := by kernel_rfl
theorem laidOut : laidOutB Try.prog = true := by kernel_rfl

theorem int_bounds {n : Int} (h : (Lit.int .i64 n).wf = true) : I64 n := by
  simp [Lit.wf, IntKind.min, IntKind.max, IntKind.bits, IntKind.signed] at h
  exact ⟨by omega, by omega⟩

/-- Cells of elements, by what each is. -/
theorem each_of {α : Type} {enc : α → List Value} {ok : α → Prop} : ∀ {css : List (List Value)}, (∀ c ∈ css, ∃ x : α, c = enc x ∧ ok x) → ∃ l : List α, css = l.map enc ∧ ∀ x ∈ l, ok x
  | [], _ => ⟨[], rfl, by simp⟩
  | c :: cs, h => by
    obtain ⟨x, rfl, hx⟩ := h c (by simp)
    obtain ⟨l, rfl, hl⟩ := each_of (css := cs) fun c hc => h c (by simp [hc])
    exact ⟨x :: l, rfl, by simpa using ⟨hx, hl⟩⟩

theorem len_lt {n : Nat} (h : n ≤ maxLen) : n ≤ 9223372036854775807 := by
  have : maxLen = 9223372036854775807 := rfl
  omega

theorem int_of_lies {H : Type} {A : Hp} {cs : List Value} {d : DataW H} (h : Lies Try.prog A 3 cs d) : ∃ x : Int, cs = [.int .i64 x] ∧ I64 x := by
  obtain ⟨a, ha, -, wa⟩ := h.int_inv Try.underlying3
  exact ⟨a, ha, int_bounds wa⟩
/-- Slices of numbers. -/
theorem ints_of_lies {H : Type} {A : Hp} {cs : List Value} {d : DataW H} (h : Lies Try.prog A 40 cs d) : ∃ (v : Value) (l : List Int), cs = [v] ∧ Sl A 1 v (l.map ic) ∧ (∀ x ∈ l, I64 x) ∧ l.length ≤ maxLen := by
  obtain ⟨v, css, rfl, hs, hm, he⟩ := h.slice_inv Try.underlying40
  have h1 : Try.prog.cellsOf 3 = 1 := by kernel_rfl
  rw [h1] at hs
  obtain ⟨l, rfl, hl⟩ := each_of (enc := ic) (ok := I64) fun c hc => by
    obtain ⟨d, hd⟩ := he c hc
    exact int_of_lies hd
  exact ⟨v, l, rfl, hs, hl, by simpa using hm⟩
def Tk.fine (A : Hp) (t : Tk) : Prop := Sl A 1 t.av (t.after.map ic) ∧ t.after.length ≤ maxLen
/-- A task. -/
theorem task_of_lies {H : Type} {A : Hp} {cs : List Value} {d : DataW H} (h : Lies Try.prog A 48 cs d) : ∃ t : Tk, cs = t.cells ∧ t.fine A := by
  obtain ⟨hl, hf⟩ := h.struct_inv Try.underlying48
  have h3 : Try.prog.cellsOf 48 = 3 := by kernel_rfl
  rw [h3] at hl
  match cs, hl with
  | [x, y, z], _ =>
    obtain ⟨d0, l0⟩ := hf 0 _ rfl
    obtain ⟨d1, l1⟩ := hf 1 _ rfl
    obtain ⟨d2, l2⟩ := hf 2 _ rfl
    have h1 : Try.prog.cellsOf 3 = 1 := by kernel_rfl
    have h2 : Try.prog.cellsOf 40 = 1 := by kernel_rfl
    change Lies Try.prog A 3 (([x, y, z].drop 0).take (Try.prog.cellsOf 3)) d0 at l0
    change Lies Try.prog A 3 (([x, y, z].drop 1).take (Try.prog.cellsOf 3)) d1 at l1
    change Lies Try.prog A 40 (([x, y, z].drop 2).take (Try.prog.cellsOf 40)) d2 at l2
    rw [h1] at l0 l1
    rw [h2] at l2
    simp only [List.drop_zero, List.drop_succ_cons, List.take_succ_cons, List.take_zero] at l0 l1 l2
    obtain ⟨a, ha, -⟩ := int_of_lies l0
    obtain ⟨b, hb, -⟩ := int_of_lies l1
    obtain ⟨v, l, hv, hs, -, hm⟩ := ints_of_lies l2
    simp only [List.cons.injEq, and_true] at ha hb hv
    subst ha; subst hb; subst hv
    exact ⟨⟨a, b, z, l⟩, rfl, hs, hm⟩
/-- Slices of tasks. -/
theorem tasks_of_lies {H : Type} {A : Hp} {cs : List Value} {d : DataW H} (h : Lies Try.prog A 39 cs d) : ∃ (v : Value) (l : List Tk), cs = [v] ∧ Tks A v l ∧ l.length ≤ maxLen := by
  obtain ⟨v, css, rfl, hs, hm, he⟩ := h.slice_inv Try.underlying39
  have h3 : Try.prog.cellsOf 48 = 3 := by kernel_rfl
  rw [h3] at hs
  obtain ⟨l, rfl, hl⟩ := each_of (enc := Tk.cells) (ok := Tk.fine A) fun c hc => by
    obtain ⟨d, hd⟩ := he c hc
    exact task_of_lies hd
  exact ⟨v, l, rfl, ⟨hs, fun t ht => (hl t ht).1, fun t ht => len_lt (hl t ht).2⟩, by simpa using hm⟩

theorem toolsPlans_lifted (os : Os) (started : os.Started) (H : Type) (enc : TypeId × Value → H) :
    ReturnsInHanded {} Try.checked os 5 .any (Rows.toolsPlansSpec.pre6 enc Try.prog Try.f5 Rows.toolsPlansRow.domain false) (Rows.toolsPlansSpec.post enc Try.prog Try.f5 false true false false) := by
  refine returnsInHanded_of_change_sized (C := Try.checked) own started (by kernel_rfl) Try.func5
    (ChangeSpec.witness6 (enc := enc) (C := Try.checked) false ⟨#[], #[.slice none 0 0, .slice none 0 0], []⟩ 8 (by kernel_rfl) (by kernel_rfl) (by kernel_rfl) (by kernel_rfl)) ?_
  intro W base args ds gs before hval0 hW hcnd hsz0 _
  have hval : ∀ (j : Nat) t v, Try.f5.params[j]? = some t → args[j]? = some v → Value.okWide Try.prog W .any base t v := hval0
  have hW' := hW
  obtain ⟨p, q, hA0, hV, rfl, hfz, hnd⟩ := hW
  have hA : DataW.TrodAll enc Try.prog W 0 (fun _ => true) true Try.f5.params.toList args.toList ds p := hA0
  rw [Try.params5] at hA hval
  obtain ⟨v0, vs0, d0, ds0, p0, q0, hargs, rfl, rfl, h0, r0⟩ := trodAll_cons hA
  obtain ⟨v1, vs1, d1, ds1, p1, q1, rfl, rfl, rfl, h1, r1⟩ := trodAll_cons r0
  obtain ⟨rfl, rfl, rfl⟩ := trodAll_nil r1
  obtain rfl : args = #[v0, v1] := by cases args; simp_all
  obtain ⟨rfl, rfl⟩ := trodVars_none hV
  obtain ⟨b0, len0, cap0, rfl⟩ := okWide_slice Try.underlying39 (hval 0 39 v0 rfl rfl)
  obtain ⟨b1, len1, cap1, rfl⟩ := okWide_slice Try.underlying40 (hval 1 40 v1 rfl rfl)
  have k0 := h0
  have k1 := h1
  have lt0 : ∀ x ∈ p0, x.block < W.heap.size := by obtain ⟨m, hm⟩ := k0; exact DataW.trod_lt m _ _ _ hm
  have lt1 : ∀ x ∈ p1, x.block < W.heap.size := by obtain ⟨m, hm⟩ := k1; exact DataW.trod_lt m _ _ _ hm
  obtain ⟨fuel, hf⟩ := h0
  obtain ⟨fuel1, hf1⟩ := h1
  obtain ⟨μ, A, vss, -, HA, hvl, hvs⟩ := open_each (G := fun _ => none) [(_, _, (d0, p0).1), (_, _, (d1, p1).1)] (fun q hq => by
    simp only [List.mem_cons, List.not_mem_nil, or_false] at hq
    rcases hq with rfl | rfl
    · exact open_cells 8 39 (by kernel_rfl) fuel _ _ hf
    · exact open_cells 8 40 (by kernel_rfl) fuel1 _ _ hf1) _ _ (HR.bare fun g cs h => by cases h)
  match vss, hvl with
  | [ws0, ws1], _ =>
  obtain ⟨cr0, lies0⟩ := hvs 0 _ _ rfl rfl
  obtain ⟨cr1, lies1⟩ := hvs 1 _ _ rfl rfl
  obtain ⟨v, l, rfl, hs, hlm⟩ := tasks_of_lies lies0
  obtain ⟨w, s, rfl, hw, -⟩ := ints_of_lies lies1
  have hv : VR μ A v (.slice b0 len0 cap0) := VR.of_cell (by simpa [Value.cells] using cr0)
  have hv1 : VR μ A w (.slice b1 len1 cap1) := VR.of_cell (by simpa [Value.cells] using cr1)
  refine (toolsPlans_calls (len_lt hlm) hs hw μ W #[.slice b0 len0 cap0, .slice b1 len1 cap1] HA (Nat.le_refl _) ⟨rfl, fun i hi hi' => ?_⟩).mono fun e W' he => ?_
  · match i with
    | 0 => exact hv
    | 1 => exact hv1
    | i + 2 => simp at hi; omega
  obtain ⟨u, rfl, ν, hu, -, T⟩ := he
  have bel := below_of_trans HA.wf T
  cases hu
  exact ⟨_, rfl, _, _, _, [], _, [], hW', trodAll_mk1 (shut_bool Try.underlying4 _), (trodAll_cons_mk (Below.trod laidOut (by kernel_rfl) (of_decide_eq_true (by kernel_rfl)) k0 bel lt0) (trodAll_cons_mk (Below.trod laidOut (by kernel_rfl) (of_decide_eq_true (by kernel_rfl)) k1 bel lt1) trodAll_mk0)), rfl, bel.frame _, fun h => by cases h⟩

theorem toolsPlans_holds : Rows.ToolsPlansSaid :=
  OpenClaim.holds_of_wide 5 Try.f5 rfl rfl rfl rfl rfl rfl rfl ⟨rfl, rfl, rfl, rfl, rfl⟩ rfl rfl rfl rfl rfl (by kernel_rfl) Try.func5 (by kernel_rfl)
    (of_decide_eq_true (by kernel_rfl)) (by unfold Func.isWrapper; first | (rw [if_pos (by decide +kernel)]; kernel_rfl) | (rw [if_neg (by decide +kernel)]; exact ⟨rfl, rfl⟩))
    (fun os started H enc _ => toolsPlans_lifted os started H enc)
#print axioms toolsPlans_holds
end Go.Proofs.Ytjohiapgancocaa.Ab
namespace Go.Proofs.Ytjohiapgancocaa
/-- The row, under a short name, for the claim. -/
theorem toolsPlans_proved : Rows.ToolsPlansSaid := Ab.toolsPlans_holds
end Go.Proofs.Ytjohiapgancocaa
