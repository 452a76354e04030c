/- gantkeep1.ApartWay returns true for every input: the row's statement and its tied card. -/
import Derived.Test.YthclikeipdplpaaDoorYx
import Derived.Test.YthclikeipdplpaaDoorPi
import Derived.Test.YthclikeipdplpaaDoorAb20
import Derived.Test.YthclikeipdplpaaDoorRows
import Derived.Test.YthclikeipdplpaaDoorCards
import Derived.Test.YthclikeipdplpaaDoorTie
import Derived.WalkKit
import Derived.ProofKit
import Derived.OpenShut
import Derived.ShutString
import Derived.ChangeOld
import Derived.Below
import Derived.SizedLaws
import Derived.LaidMore
import Derived.Lay
import Derived.SevenTiedAt
import Derived.Stop.Joined
namespace Go.Proofs.YthclikeipdplpaaDoor.Ab
open Go.ChangeShapes Go.WideShapes Go.ChangeAt Go.RowKit
open Go.ChangeMaps (open_string shut_string)
set_option linter.unusedVariables false
set_option linter.unusedSimpArgs false
set_option maxRecDepth 100000

theorem own : ownKnob Tryd.prog.godebug = none := by kernel_rfl
theorem laidOut : laidOutB Tryd.prog = true := by kernel_rfl
theorem str_len {s : ByteArray} (h : s.size ≤ maxLen) : s.data.toList.length ≤ 9223372036854775807 := by
  have : maxLen = 9223372036854775807 := rfl
  have e : s.data.toList.length = s.size := rfl
  omega
theorem int_bounds {n : Int} (h : (Lit.int .i64 n).wf = true) : -9223372036854775808 ≤ n ∧ n ≤ 9223372036854775807 := by
  simp [Lit.wf, IntKind.min, IntKind.max, IntKind.bits, IntKind.signed] at h
  exact ⟨by omega, by omega⟩
theorem each_of {α : Type} {enc : α → List Value} {ok : α → Prop} : ∀ {css : List (List Value)}, (∀ c ∈ css, ∃ x : α, c = enc x ∧ ok x) → ∃ l : List α, css = l.map enc ∧ ∀ x ∈ l, ok x
  | [], _ => ⟨[], rfl, by simp⟩
  | c :: cs, h => by
    obtain ⟨x, rfl, hx⟩ := h c (by simp)
    obtain ⟨l, rfl, hl⟩ := each_of (css := cs) fun c hc => h c (by simp [hc])
    exact ⟨x :: l, rfl, by simpa using ⟨hx, hl⟩⟩
theorem len_lt {n : Nat} (h : n ≤ maxLen) : n ≤ 9223372036854775807 := by
  have : maxLen = 9223372036854775807 := rfl
  omega
theorem int_of_lies {H : Type} {A : Hp} {cs : List Value} {d : DataW H} (h : Lies Tryd.prog A 3 cs d) : ∃ x : Int, cs = iC x ∧ (-9223372036854775808 ≤ x ∧ x ≤ 9223372036854775807) := by
  obtain ⟨a, ha, -, wa⟩ := h.int_inv Tryd.underlying3
  exact ⟨a, ha, int_bounds wa⟩
/-- Slices of numbers. -/
theorem ints_of_lies {H : Type} {A : Hp} {cs : List Value} {d : DataW H} (h : Lies Tryd.prog A 22 cs d) : ∃ (v : Value) (l : List Int), cs = [v] ∧ Sl A 1 v (l.map iC) ∧ In64 l ∧ l.length ≤ maxLen := by
  obtain ⟨v, css, rfl, hs, hm, he⟩ := h.slice_inv Tryd.underlying22
  have h1 : Tryd.prog.cellsOf 3 = 1 := by kernel_rfl
  rw [h1] at hs
  obtain ⟨l, rfl, hl⟩ := each_of (enc := iC) (ok := fun x => -9223372036854775808 ≤ x ∧ x ≤ 9223372036854775807) fun c hc => by
    obtain ⟨d, hd⟩ := he c hc
    exact int_of_lies hd
  exact ⟨v, l, rfl, hs, hl, by simpa using hm⟩
theorem uint_bounds {n : Int} (h : (Lit.int .u64 n).wf = true) : 0 ≤ n ∧ n ≤ 18446744073709551615 := by
  simp [Lit.wf, IntKind.min, IntKind.max, IntKind.bits, IntKind.signed] at h
  exact ⟨by omega, by omega⟩

theorem apartWay_lifted (os : Os) (started : os.Started) (H : Type) (enc : TypeId × Value → H) :
    ReturnsInHanded {} Tryd.checked os 6 .any (fun w args => (Rows.apartWaySpec.pre enc Tryd.prog Tryd.f6 Rows.apartWayRow.domain false w args ∧ laidMetH Tryd.prog Rows.apartWayRow.laid w) ∧ sizedMet enc Tryd.prog Tryd.f6 (OpenSpec.ofChange Rows.apartWaySpec) false w args)
      (Rows.apartWaySpec.post enc Tryd.prog Tryd.f6 false true false false) := by
  refine returnsInHanded_of_change_and (C := Tryd.checked) (X := fun w _ => laidMetH Tryd.prog Rows.apartWayRow.laid w) (fun _ _ _ hh h => h.of_heap hh) own started (by kernel_rfl) Tryd.func6
    (ChangeSpec.witness_shaped (enc := enc) (C := Tryd.checked) (os := os) (X := fun w _ => laidMetH Tryd.prog Rows.apartWayRow.laid w) false (World.laidAll Tryd.prog os Rows.apartWayRow.laid) #[.slice none 0 0, .slice none 0 0, .int .i64 0, .int .i64 0, .int .i64 0, .int .i64 0, .int .i64 0, .int .i64 0] 8 (World.laidAll_os _ _ _)
      (World.shaped_of_ZipB (by kernel_rfl) (by kernel_rfl)) (by kernel_rfl) (by kernel_rfl) (by kernel_rfl)
      (by rw [MakeChecks.laidMetH_plain _ _ _ (by kernel_rfl)]; exact laidMet_laidAll _ (by kernel_rfl) (by kernel_rfl))) ?_
  intro W base args ds gs before hval0 hW hcnd _ hL _
  have hval : ∀ (j : Nat) t v, Tryd.f6.params[j]? = some t → args[j]? = some v → Value.okWide Tryd.prog W .any base t v := hval0
  have hW' := hW
  obtain ⟨p, q, hA0, hV, rfl, hfz, hnd⟩ := hW
  have hA : DataW.TrodAll enc Tryd.prog W 0 (fun _ => true) true Tryd.f6.params.toList args.toList ds p := hA0
  rw [Tryd.params6] at hA hval
  obtain ⟨v0, vs0, d0, ds0, p0, q0, hargs, rfl, rfl, h0, r0⟩ := trodAll_cons hA
  obtain ⟨v1, vs1, d1, ds1, p1, q1, rfl, rfl, rfl, h1, r1⟩ := trodAll_cons r0
  obtain ⟨v2, vs2, d2, ds2, p2, q2, rfl, rfl, rfl, h2, r2⟩ := trodAll_cons r1
  obtain ⟨v3, vs3, d3, ds3, p3, q3, rfl, rfl, rfl, h3, r3⟩ := trodAll_cons r2
  obtain ⟨v4, vs4, d4, ds4, p4, q4, rfl, rfl, rfl, h4, r4⟩ := trodAll_cons r3
  obtain ⟨v5, vs5, d5, ds5, p5, q5, rfl, rfl, rfl, h5, r5⟩ := trodAll_cons r4
  obtain ⟨v6, vs6, d6, ds6, p6, q6, rfl, rfl, rfl, h6, r6⟩ := trodAll_cons r5
  obtain ⟨v7, vs7, d7, ds7, p7, q7, rfl, rfl, rfl, h7, r7⟩ := trodAll_cons r6
  obtain ⟨rfl, rfl, rfl⟩ := trodAll_nil r7
  obtain rfl : args = #[v0, v1, v2, v3, v4, v5, v6, v7] := by cases args; simp_all
  obtain ⟨rfl, rfl⟩ := trodVars_none hV
  obtain ⟨b0, len0, cap0, rfl⟩ := okWide_slice Tryd.underlying22 (hval 0 22 v0 rfl rfl)
  have k0 := h0
  have lt0 : ∀ x ∈ p0, x.block < W.heap.size := by obtain ⟨m, hm⟩ := k0; exact DataW.trod_lt m _ _ _ hm
  obtain ⟨fuel0, hf0⟩ := h0
  obtain ⟨b1, len1, cap1, rfl⟩ := okWide_slice Tryd.underlying22 (hval 1 22 v1 rfl rfl)
  have k1 := h1
  have lt1 : ∀ x ∈ p1, x.block < W.heap.size := by obtain ⟨m, hm⟩ := k1; exact DataW.trod_lt m _ _ _ hm
  obtain ⟨fuel1, hf1⟩ := h1
  obtain ⟨a2, rfl, rfl, rfl, w2⟩ := open_int Tryd.underlying3 (hval 2 3 v2 rfl rfl) h2
  obtain ⟨a3, rfl, rfl, rfl, w3⟩ := open_int Tryd.underlying3 (hval 3 3 v3 rfl rfl) h3
  obtain ⟨a4, rfl, rfl, rfl, w4⟩ := open_int Tryd.underlying3 (hval 4 3 v4 rfl rfl) h4
  obtain ⟨a5, rfl, rfl, rfl, w5⟩ := open_int Tryd.underlying3 (hval 5 3 v5 rfl rfl) h5
  obtain ⟨a6, rfl, rfl, rfl, w6⟩ := open_int Tryd.underlying3 (hval 6 3 v6 rfl rfl) h6
  obtain ⟨a7, rfl, rfl, rfl, w7⟩ := open_int Tryd.underlying3 (hval 7 3 v7 rfl rfl) h7
  rw [MakeChecks.laidMetH_plain _ _ _ (by kernel_rfl)] at hL
  have HA0 := HR.bare (W := W) (G := tabG) (tab_bare hL)
  obtain ⟨μ, A, vss, -, HA, hvl, hvs⟩ := open_each (G := tabG) [(_, _, (d0, p0).1), (_, _, (d1, p1).1)] (fun q hq => by
    simp only [List.mem_cons, List.not_mem_nil, or_false] at hq
    rcases hq with rfl | rfl
    · exact open_cells 8 22 (by kernel_rfl) fuel0 _ _ hf0
    · exact open_cells 8 22 (by kernel_rfl) fuel1 _ _ hf1) _ _ HA0
  match vss, hvl with
  | [ws0, ws1], _ =>
  obtain ⟨cr0, lies0⟩ := hvs 0 _ _ rfl rfl
  obtain ⟨vv0, l0, rfl, hs0, hx0, hm0⟩ := ints_of_lies lies0
  have hv0 : VR μ A vv0 (.slice b0 len0 cap0) := VR.of_cell (by simpa [Value.cells] using cr0)
  obtain ⟨cr1, lies1⟩ := hvs 1 _ _ rfl rfl
  obtain ⟨vv1, l1, rfl, hs1, hx1, hm1⟩ := ints_of_lies lies1
  have hv1 : VR μ A vv1 (.slice b1 len1 cap1) := VR.of_cell (by simpa [Value.cells] using cr1)
  refine (apartWay_calls tabG_tab  hx0 hs0 (len_lt hm0) hx1 hs1 (len_lt hm1) (int_bounds w2) (int_bounds w3) (int_bounds w4) (int_bounds w5) (int_bounds w6) (int_bounds w7) _ W #[.slice b0 len0 cap0, .slice b1 len1 cap1, .int .i64 a2, .int .i64 a3, .int .i64 a4, .int .i64 a5, .int .i64 a6, .int .i64 a7] HA (Nat.le_refl _) ⟨rfl, fun i hi hi' => ?_⟩).mono fun e W' he => ?_
  · match i with
    | 0 => exact hv0
    | 1 => exact hv1
    | 2 => exact .int _ _
    | 3 => exact .int _ _
    | 4 => exact .int _ _
    | 5 => exact .int _ _
    | 6 => exact .int _ _
    | 7 => exact .int _ _
    | i + 8 => simp at hi; omega
  obtain ⟨u, rfl, ν, hu, -, T⟩ := he
  have bel := below_of_trans HA.wf T
  cases hu
  exact ⟨_, rfl, _, _, _, [], _, [], hW', trodAll_mk1 (shut_bool Tryd.underlying4 _), (trodAll_cons_mk (Below.trod laidOut (by kernel_rfl) (of_decide_eq_true (by kernel_rfl)) k0 bel lt0) (trodAll_cons_mk (Below.trod laidOut (by kernel_rfl) (of_decide_eq_true (by kernel_rfl)) k1 bel lt1) (trodAll_cons_mk (shut_int Tryd.underlying3 w2) (trodAll_cons_mk (shut_int Tryd.underlying3 w3) (trodAll_cons_mk (shut_int Tryd.underlying3 w4) (trodAll_cons_mk (shut_int Tryd.underlying3 w5) (trodAll_cons_mk (shut_int Tryd.underlying3 w6) (trodAll_cons_mk (shut_int Tryd.underlying3 w7) trodAll_mk0)))))))), rfl, bel.frame _, fun h => by cases h⟩

theorem apartWay_holds : Rows.ApartWaySaid :=
  OpenClaim.holds_of_wide 6 Tryd.f6 rfl rfl rfl rfl rfl rfl rfl ⟨rfl, rfl, rfl, rfl, rfl⟩ rfl rfl rfl rfl rfl (by kernel_rfl) Tryd.func6 (by kernel_rfl)
    (of_decide_eq_true (by kernel_rfl)) (by unfold Func.isWrapper; first | (rw [if_pos (by decide +kernel)]; kernel_rfl) | (rw [if_neg (by decide +kernel)]; exact ⟨rfl, rfl⟩))
    (fun os started H enc _ => apartWay_lifted os started H enc)
theorem apartWay_card : Rows.ApartWayCardSaid :=
  Claim7.holds_tied_plain_at .later [] [.data] true (true, "33ed3c36ac5a0ed22b7d8fb1c109f818f4d17edf540b13f47b8d09e8ebe101a0") false
    apartWay_holds (fun _ h => by cases h) (by kernel_rfl) (fun _ h => by cases h) apartWay_row_tie rfl ⟨rfl, rfl⟩ (by kernel_rfl) rfl
    (fun f fn hf hfn => by
      obtain rfl : f = 6 := Option.some.inj ((show Tryd.prog.funcNamed "gantry/gantkeep1.ApartWay" = some 6 by kernel_rfl).symm.trans hf) |>.symm
      obtain rfl : fn = Tryd.f6 := (Option.some.inj (Tryd.func6.symm.trans hfn)).symm
      exact ⟨by kernel_rfl, fun j t ht => by
        rw [Tryd.params6] at ht
        have hm : t ∈ [22, 22, 3, 3, 3, 3, 3, 3] := by simpa using Array.mem_of_getElem? ht
        have hall : ([22, 22, 3, 3, 3, 3, 3, 3].all fun u => !Tryd.prog.wantsStandIn u) = true := by kernel_rfl
        exact (show Tryd.prog.wantsStandIn t = false by simpa using List.all_eq_true.1 hall t hm)⟩)
    (by kernel_rfl)
#print axioms apartWay_card
end Go.Proofs.YthclikeipdplpaaDoor.Ab
namespace Go.Proofs.YthclikeipdplpaaDoor
/-- The card, under a short name, for the claim. -/
theorem apartWay_proved : Rows.ApartWayCardSaid := Ab.apartWay_card
end Go.Proofs.YthclikeipdplpaaDoor
