/- gantkeep1.GridCovers returns true for every input: the row's statement and its tied card. -/
import Derived.Test.YthclikeipdplpaaGreatDoorZd
import Derived.Test.YthclikeipdplpaaGreatDoorPi
import Derived.Test.YthclikeipdplpaaGreatDoorAb21
import Derived.Test.YthclikeipdplpaaGreatDoorRows
import Derived.Test.YthclikeipdplpaaGreatDoorCards
import Derived.Test.YthclikeipdplpaaGreatDoorTie
import Derived.WalkKit
import Derived.ProofKit
import Derived.OpenShut
import Derived.ShutString
import Derived.ChangeOld
import Derived.Below
import Derived.SizedLaws
import Derived.LaidMore
import Derived.Lay
import Derived.SevenTiedAt
import Derived.Stop.Joined
namespace Go.Proofs.YthclikeipdplpaaGreatDoor.Ab
open Go.ChangeShapes Go.WideShapes Go.ChangeAt Go.RowKit
open Go.ChangeMaps (open_string shut_string)
set_option linter.unusedVariables false
set_option linter.unusedSimpArgs false
set_option maxRecDepth 100000

theorem own : ownKnob Tryz.prog.godebug = none := by kernel_rfl
theorem laidOut : laidOutB Tryz.prog = true := by kernel_rfl
theorem str_len {s : ByteArray} (h : s.size ≤ maxLen) : s.data.toList.length ≤ 9223372036854775807 := by
  have : maxLen = 9223372036854775807 := rfl
  have e : s.data.toList.length = s.size := rfl
  omega
theorem int_bounds {n : Int} (h : (Lit.int .i64 n).wf = true) : -9223372036854775808 ≤ n ∧ n ≤ 9223372036854775807 := by
  simp [Lit.wf, IntKind.min, IntKind.max, IntKind.bits, IntKind.signed] at h
  exact ⟨by omega, by omega⟩
theorem each_of {α : Type} {enc : α → List Value} {ok : α → Prop} : ∀ {css : List (List Value)}, (∀ c ∈ css, ∃ x : α, c = enc x ∧ ok x) → ∃ l : List α, css = l.map enc ∧ ∀ x ∈ l, ok x
  | [], _ => ⟨[], rfl, by simp⟩
  | c :: cs, h => by
    obtain ⟨x, rfl, hx⟩ := h c (by simp)
    obtain ⟨l, rfl, hl⟩ := each_of (css := cs) fun c hc => h c (by simp [hc])
    exact ⟨x :: l, rfl, by simpa using ⟨hx, hl⟩⟩
theorem len_lt {n : Nat} (h : n ≤ maxLen) : n ≤ 9223372036854775807 := by
  have : maxLen = 9223372036854775807 := rfl
  omega
theorem int_of_lies {H : Type} {A : Hp} {cs : List Value} {d : DataW H} (h : Lies Tryz.prog A 3 cs d) : ∃ x : Int, cs = iC x ∧ (-9223372036854775808 ≤ x ∧ x ≤ 9223372036854775807) := by
  obtain ⟨a, ha, -, wa⟩ := h.int_inv Tryz.underlying3
  exact ⟨a, ha, int_bounds wa⟩
/-- Slices of numbers. -/
theorem ints_of_lies {H : Type} {A : Hp} {cs : List Value} {d : DataW H} (h : Lies Tryz.prog A 47 cs d) : ∃ (v : Value) (l : List Int), cs = [v] ∧ Sl A 1 v (l.map iC) ∧ In64 l ∧ l.length ≤ maxLen := by
  obtain ⟨v, css, rfl, hs, hm, he⟩ := h.slice_inv Tryz.underlying47
  have h1 : Tryz.prog.cellsOf 3 = 1 := by kernel_rfl
  rw [h1] at hs
  obtain ⟨l, rfl, hl⟩ := each_of (enc := iC) (ok := fun x => -9223372036854775808 ≤ x ∧ x ≤ 9223372036854775807) fun c hc => by
    obtain ⟨d, hd⟩ := he c hc
    exact int_of_lies hd
  exact ⟨v, l, rfl, hs, hl, by simpa using hm⟩
theorem uint_bounds {n : Int} (h : (Lit.int .u64 n).wf = true) : 0 ≤ n ∧ n ≤ 18446744073709551615 := by
  simp [Lit.wf, IntKind.min, IntKind.max, IntKind.bits, IntKind.signed] at h
  exact ⟨by omega, by omega⟩

theorem gridCovers_lifted (os : Os) (started : os.Started) (H : Type) (enc : TypeId × Value → H) :
    ReturnsInHanded {} Tryz.checked os 3 .any (fun w args => (Rows.gridCoversSpec.pre enc Tryz.prog Tryz.f3 Rows.gridCoversRow.domain false w args ∧ laidMetH Tryz.prog Rows.gridCoversRow.laid w) ∧ sizedMet enc Tryz.prog Tryz.f3 (OpenSpec.ofChange Rows.gridCoversSpec) false w args)
      (Rows.gridCoversSpec.post enc Tryz.prog Tryz.f3 false true false false) := by
  refine returnsInHanded_of_change_and (C := Tryz.checked) (X := fun w _ => laidMetH Tryz.prog Rows.gridCoversRow.laid w) (fun _ _ _ hh h => h.of_heap hh) own started (by kernel_rfl) Tryz.func3
    (ChangeSpec.witness_shaped (enc := enc) (C := Tryz.checked) (os := os) (X := fun w _ => laidMetH Tryz.prog Rows.gridCoversRow.laid w) false (World.laidAll Tryz.prog os Rows.gridCoversRow.laid) #[.int .i64 0, .int .i64 0, .int .i64 0, .int .i64 0, .int .i64 0, .int .i64 0] 8 (World.laidAll_os _ _ _)
      (World.shaped_of_ZipB (by kernel_rfl) (by kernel_rfl)) (by kernel_rfl) (by kernel_rfl) (by kernel_rfl)
      (by rw [MakeChecks.laidMetH_plain _ _ _ (by kernel_rfl)]; exact laidMet_laidAll _ (by kernel_rfl) (by kernel_rfl))) ?_
  intro W base args ds gs before hval0 hW hcnd _ hL _
  have hval : ∀ (j : Nat) t v, Tryz.f3.params[j]? = some t → args[j]? = some v → Value.okWide Tryz.prog W .any base t v := hval0
  have hW' := hW
  obtain ⟨p, q, hA0, hV, rfl, hfz, hnd⟩ := hW
  have hA : DataW.TrodAll enc Tryz.prog W 0 (fun _ => true) true Tryz.f3.params.toList args.toList ds p := hA0
  rw [Tryz.params3] at hA hval
  obtain ⟨v0, vs0, d0, ds0, p0, q0, hargs, rfl, rfl, h0, r0⟩ := trodAll_cons hA
  obtain ⟨v1, vs1, d1, ds1, p1, q1, rfl, rfl, rfl, h1, r1⟩ := trodAll_cons r0
  obtain ⟨v2, vs2, d2, ds2, p2, q2, rfl, rfl, rfl, h2, r2⟩ := trodAll_cons r1
  obtain ⟨v3, vs3, d3, ds3, p3, q3, rfl, rfl, rfl, h3, r3⟩ := trodAll_cons r2
  obtain ⟨v4, vs4, d4, ds4, p4, q4, rfl, rfl, rfl, h4, r4⟩ := trodAll_cons r3
  obtain ⟨v5, vs5, d5, ds5, p5, q5, rfl, rfl, rfl, h5, r5⟩ := trodAll_cons r4
  obtain ⟨rfl, rfl, rfl⟩ := trodAll_nil r5
  obtain rfl : args = #[v0, v1, v2, v3, v4, v5] := by cases args; simp_all
  obtain ⟨rfl, rfl⟩ := trodVars_none hV
  obtain ⟨a0, rfl, rfl, rfl, w0⟩ := open_int Tryz.underlying3 (hval 0 3 v0 rfl rfl) h0
  obtain ⟨a1, rfl, rfl, rfl, w1⟩ := open_int Tryz.underlying3 (hval 1 3 v1 rfl rfl) h1
  obtain ⟨a2, rfl, rfl, rfl, w2⟩ := open_int Tryz.underlying3 (hval 2 3 v2 rfl rfl) h2
  obtain ⟨a3, rfl, rfl, rfl, w3⟩ := open_int Tryz.underlying3 (hval 3 3 v3 rfl rfl) h3
  obtain ⟨a4, rfl, rfl, rfl, w4⟩ := open_int Tryz.underlying3 (hval 4 3 v4 rfl rfl) h4
  obtain ⟨a5, rfl, rfl, rfl, w5⟩ := open_int Tryz.underlying3 (hval 5 3 v5 rfl rfl) h5
  rw [MakeChecks.laidMetH_plain _ _ _ (by kernel_rfl)] at hL
  have HA := HR.bare (W := W) (G := tabG) (tab_bare hL)
  refine (gridCovers_calls tabG_tab (x1 := a0) (x2 := a1) (x3 := a2) (x4 := a3) (x5 := a4) (x6 := a5) (int_bounds w0) (int_bounds w1) (int_bounds w2) (int_bounds w3) (int_bounds w4) (int_bounds w5) _ W #[.int .i64 a0, .int .i64 a1, .int .i64 a2, .int .i64 a3, .int .i64 a4, .int .i64 a5] HA (Nat.le_refl _) ⟨rfl, fun i hi hi' => ?_⟩).mono fun e W' he => ?_
  · match i with
    | 0 => exact .int _ _
    | 1 => exact .int _ _
    | 2 => exact .int _ _
    | 3 => exact .int _ _
    | 4 => exact .int _ _
    | 5 => exact .int _ _
    | i + 6 => simp at hi; omega
  obtain ⟨u, rfl, ν, hu, -, T⟩ := he
  have bel := below_of_trans HA.wf T
  cases hu
  exact ⟨_, rfl, _, _, _, [], _, [], hW', trodAll_mk1 (shut_bool Tryz.underlying4 _), (trodAll_cons_mk (shut_int Tryz.underlying3 w0) (trodAll_cons_mk (shut_int Tryz.underlying3 w1) (trodAll_cons_mk (shut_int Tryz.underlying3 w2) (trodAll_cons_mk (shut_int Tryz.underlying3 w3) (trodAll_cons_mk (shut_int Tryz.underlying3 w4) (trodAll_cons_mk (shut_int Tryz.underlying3 w5) trodAll_mk0)))))), rfl, bel.frame _, fun h => by cases h⟩

theorem gridCovers_holds : Rows.GridCoversSaid :=
  OpenClaim.holds_of_wide 3 Tryz.f3 rfl rfl rfl rfl rfl rfl rfl ⟨rfl, rfl, rfl, rfl, rfl⟩ rfl rfl rfl rfl rfl (by kernel_rfl) Tryz.func3 (by kernel_rfl)
    (of_decide_eq_true (by kernel_rfl)) (by unfold Func.isWrapper; first | (rw [if_pos (by decide +kernel)]; kernel_rfl) | (rw [if_neg (by decide +kernel)]; exact ⟨rfl, rfl⟩))
    (fun os started H enc _ => gridCovers_lifted os started H enc)
theorem gridCovers_card : Rows.GridCoversCardSaid :=
  Claim7.holds_tied_plain_at .later [] [.data] true (true, "ab0be1e04394f8723f1fcf50c2dc8b2bba1cefd7d63e211175a74ef4587dfabb") false
    gridCovers_holds (fun _ h => by cases h) (by kernel_rfl) (fun _ h => by cases h) gridCovers_row_tie rfl ⟨rfl, rfl⟩ (by kernel_rfl) rfl
    (fun f fn hf hfn => by
      obtain rfl : f = 3 := Option.some.inj ((show Tryz.prog.funcNamed "gantry/gantkeep1.GridCovers" = some 3 by kernel_rfl).symm.trans hf) |>.symm
      obtain rfl : fn = Tryz.f3 := (Option.some.inj (Tryz.func3.symm.trans hfn)).symm
      exact ⟨by kernel_rfl, fun j t ht => by
        rw [Tryz.params3] at ht
        have hm : t ∈ [3, 3, 3, 3, 3, 3] := by simpa using Array.mem_of_getElem? ht
        have hall : ([3, 3, 3, 3, 3, 3].all fun u => !Tryz.prog.wantsStandIn u) = true := by kernel_rfl
        exact (show Tryz.prog.wantsStandIn t = false by simpa using List.all_eq_true.1 hall t hm)⟩)
    (by kernel_rfl)
#print axioms gridCovers_card
end Go.Proofs.YthclikeipdplpaaGreatDoor.Ab
namespace Go.Proofs.YthclikeipdplpaaGreatDoor
/-- The card, under a short name, for the claim. -/
theorem gridCovers_proved : Rows.GridCoversCardSaid := Ab.gridCovers_card
end Go.Proofs.YthclikeipdplpaaGreatDoor
