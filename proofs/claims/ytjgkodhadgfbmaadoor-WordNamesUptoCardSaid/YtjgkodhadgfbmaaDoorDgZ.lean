/- gantlaw4.WordNames returns true for every input of a bulk that fits: the row's statement. -/
import Derived.Test.YtjgkodhadgfbmaaDoorDg
import Derived.Test.YtjgkodhadgfbmaaDoorRows
import Derived.Test.YtjgkodhadgfbmaaDoorCards
import Derived.Test.YtjgkodhadgfbmaaDoorTie
import Derived.WalkKit
import Derived.ProofKit
import Derived.OpenShut
import Derived.ShutString
import Derived.ChangeOld
import Derived.Below
import Derived.SizedLaws
import Derived.LaidMore
import Derived.Lay
import Derived.SevenTiedAt
import Derived.Stop.Joined
import Derived.Deep.DeepHandedRow
import Derived.JoinedCond
namespace Go.Proofs.YtjgkodhadgfbmaaDoor.Ab
open Go.ChangeShapes Go.WideShapes Go.ChangeAt Go.RowKit
open Go.ChangeMaps (open_string shut_string)
set_option linter.unusedVariables false
set_option linter.unusedSimpArgs false
set_option maxRecDepth 100000

theorem own : ownKnob Tryd.prog.godebug = none := by kernel_rfl
theorem laidOut : laidOutB Tryd.prog = true := by kernel_rfl
theorem int_bounds {n : Int} (h : (Lit.int .i64 n).wf = true) : -9223372036854775808 ≤ n ∧ n ≤ 9223372036854775807 := by
  simp [Lit.wf, IntKind.min, IntKind.max, IntKind.bits, IntKind.signed] at h
  exact ⟨by omega, by omega⟩
theorem len_max {n : Nat} (h : n ≤ maxLen) : n ≤ 9223372036854775807 := by
  have : maxLen = 9223372036854775807 := rfl
  omega

set_option maxHeartbeats 2000000 in
theorem wordNames_lifted (os : Os) (started : os.Started) (H : Type) (enc : TypeId × Value → H) (F : Stop.Interp) :
    ReturnsInHanded {} Tryd.checked os 3 .any ((Rows.OpenSpec.upto Rows.wordNamesSpec).preRow enc Tryd.prog Tryd.f3 Rows.wordNamesUptoRow.domain false Rows.wordNamesUptoRow.laid) (((Rows.OpenSpec.upto Rows.wordNamesSpec).at F).post enc Tryd.prog Tryd.f3 false true false false) := by
  have hx : ((DataW.whole enc Tryd.prog ((World.laidAll Tryd.prog os Rows.wordNamesUptoRow.laid).forCall (fun _ _ => 0) ⟨#[], #[.string ByteArray.empty, .int .i64 0], []⟩).memory Tryd.f3.params.toList (Rows.OpenSpec.upto Rows.wordNamesSpec).vars false (#[.string ByteArray.empty, .int .i64 0] : Array Value).toList 8).any fun x => Rows.uptoSmall H (x.1 ++ x.2.1)) = true := by kernel_rfl
  obtain ⟨x, hx1, hx2⟩ : ∃ x, DataW.whole enc Tryd.prog ((World.laidAll Tryd.prog os Rows.wordNamesUptoRow.laid).forCall (fun _ _ => 0) ⟨#[], #[.string ByteArray.empty, .int .i64 0], []⟩).memory Tryd.f3.params.toList (Rows.OpenSpec.upto Rows.wordNamesSpec).vars false (#[.string ByteArray.empty, .int .i64 0] : Array Value).toList 8 = some x ∧ Rows.uptoSmall H (x.1 ++ x.2.1) = true := by
    revert hx
    generalize DataW.whole enc Tryd.prog ((World.laidAll Tryd.prog os Rows.wordNamesUptoRow.laid).forCall (fun _ _ => 0) ⟨#[], #[.string ByteArray.empty, .int .i64 0], []⟩).memory Tryd.f3.params.toList (Rows.OpenSpec.upto Rows.wordNamesSpec).vars false (#[.string ByteArray.empty, .int .i64 0] : Array Value).toList 8 = y
    intro hx
    cases y with
    | none => cases hx
    | some x => exact ⟨x, rfl, hx⟩
  have hok : Input.okWideB Tryd.prog ((World.laidAll Tryd.prog os Rows.wordNamesUptoRow.laid).forCall (fun _ _ => 0) ⟨#[], #[.string ByteArray.empty, .int .i64 0], []⟩) 3 ⟨#[], #[.string ByteArray.empty, .int .i64 0], []⟩ = true := by kernel_rfl
  refine returnsInHanded_of_row (C := Tryd.checked) (s := Rows.OpenSpec.upto Rows.wordNamesSpec) own started (by kernel_rfl) Tryd.func3
    ⟨World.laidAll Tryd.prog os Rows.wordNamesUptoRow.laid, fun _ _ => 0, ⟨#[], #[.string ByteArray.empty, .int .i64 0], []⟩, World.laidAll_os _ _ _, World.shaped_of_ZipB (by kernel_rfl) (by kernel_rfl), (Input.okWide_of_okWideB (base := 0) hok).1, (Input.okWide_of_okWideB hok).2,
      OpenSpec.preRow_of_cond 8 hx1 (by kernel_rfl) (fun k hk => by cases hk; exact hx2) (by kernel_rfl) (by rw [MakeChecks.laidMetH_plain _ _ _ (by kernel_rfl)]; exact laidMet_laidAll _ (by kernel_rfl) (by kernel_rfl)),
      by simp only [Assume.holds]; exact ⟨by simp, by simp, fun _ => Modest.zero, by simp, by simp⟩⟩ ?_
  intro W base args ds gs before hval0 hW hcnd hcond _ hL _ _
  have hval : ∀ (j : Nat) t v, Tryd.f3.params[j]? = some t → args[j]? = some v → Value.okWide Tryd.prog W .any base t v := hval0
  have hW' := hW
  obtain ⟨p, q, hA0, hV, rfl, hfz, hnd⟩ := hW
  have hA : DataW.TrodAll enc Tryd.prog W 0 (fun _ => true) true Tryd.f3.params.toList args.toList ds p := hA0
  rw [Tryd.params3] at hA hval
  obtain ⟨v0, vs0, d0, ds0, p0, q0, hargs, rfl, rfl, h0, r0⟩ := trodAll_cons hA
  obtain ⟨v1, vs1, d1, ds1, p1, q1, rfl, rfl, rfl, h1, r1⟩ := trodAll_cons r0
  obtain ⟨rfl, rfl, rfl⟩ := trodAll_nil r1
  obtain rfl : args = #[v0, v1] := by cases args; simp_all
  obtain ⟨rfl, rfl⟩ := trodVars_none hV
  have hbk : Rows.uptoBulkAll (H := H) [d0, d1] ≤ 1048576 := by
    have h := hcond _ rfl
    simp only [List.append_nil] at h
    exact of_decide_eq_true h
  simp only [Rows.uptoBulkAll] at hbk
  obtain ⟨a0, rfl, rfl, rfl, w0⟩ := open_string Tryd.underlying9 (hval 0 9 v0 rfl rfl) h0
  obtain ⟨a1, rfl, rfl, rfl, w1⟩ := open_int Tryd.underlying3 (hval 1 3 v1 rfl rfl) h1
  have HA0 := HR.bare (W := W) (G := fun _ => none) (fun g cs h => by cases h)
  obtain ⟨μ, A, HA⟩ : ∃ μ A, HR (fun _ => none) μ A.next A W := ⟨_, _, HA0⟩
  have hm0 : a0.size ≤ 1048576 := by
    have := hbk
    simp [Rows.uptoBulk] at this
    omega
  refine (wordNames_calls hm0 μ W #[.string a0, .int .i64 a1] HA (Nat.le_refl _) ⟨rfl, fun i hi hi' => ?_⟩).mono fun e W' he => ?_
  · match i with
    | 0 => exact .string _
    | 1 => exact .int _ _
    | i + 2 => simp at hi; omega
  obtain ⟨u, rfl, ν, hu, -, T⟩ := he
  have bel := below_of_trans HA.wf T
  cases hu
  exact ⟨_, rfl, _, _, _, [], _, [], hW', trodAll_mk1 (shut_bool Tryd.underlying4 _), (trodAll_cons_mk (shut_string Tryd.underlying9 w0) (trodAll_cons_mk (shut_int Tryd.underlying3 w1) trodAll_mk0)), rfl, bel.frame _, fun h => by cases h⟩

theorem wordNames_holds : Rows.WordNamesUptoSaid :=
  OpenClaim.holds_of_cond 3 Tryd.f3 rfl rfl rfl rfl rfl rfl rfl ⟨rfl, rfl, rfl, rfl, rfl⟩ rfl rfl rfl rfl rfl (by kernel_rfl) Tryd.func3 (by kernel_rfl)
    (of_decide_eq_true (by kernel_rfl)) (by unfold Func.isWrapper; first | (rw [if_pos (by decide +kernel)]; kernel_rfl) | (rw [if_neg (by decide +kernel)]; exact ⟨rfl, rfl⟩))
    (fun os started H enc _ F => by rw [OpenClaim.pre_eq_preRow]; exact wordNames_lifted os started H enc F)
theorem wordNames_card : Rows.WordNamesUptoCardSaid :=
  Claim7.holds_tied_plain_at .later [] [.data, .pinned] true (true, "e8302a66ccad4f92e0482e280a91a5cb84d30e989d5550f909c3b4ec88a1d333") false
    wordNames_holds (fun _ h => by cases h) (by kernel_rfl) (fun _ h => by cases h) wordNamesUpto_row_tie rfl ⟨rfl, rfl⟩ (by kernel_rfl) rfl
    (fun f fn hf hfn => by
      obtain rfl : f = 3 := Option.some.inj ((show Tryd.prog.funcNamed "gantry/gantlaw4.WordNames" = some 3 by kernel_rfl).symm.trans hf) |>.symm
      obtain rfl : fn = Tryd.f3 := (Option.some.inj (Tryd.func3.symm.trans hfn)).symm
      exact ⟨by kernel_rfl, fun j t ht => by
        rw [Tryd.params3] at ht
        have hm : t ∈ [9, 3] := by simpa using Array.mem_of_getElem? ht
        have hall : ([9, 3].all fun u => !Tryd.prog.wantsStandIn u) = true := by kernel_rfl
        exact (show Tryd.prog.wantsStandIn t = false by simpa using List.all_eq_true.1 hall t hm)⟩)
    (by kernel_rfl)
#print axioms wordNames_card
end Go.Proofs.YtjgkodhadgfbmaaDoor.Ab
namespace Go.Proofs.YtjgkodhadgfbmaaDoor
/-- The statement, under a short name, for the claim. -/
theorem wordNamesUpto_proved : Rows.WordNamesUptoCardSaid := Ab.wordNames_card
end Go.Proofs.YtjgkodhadgfbmaaDoor
