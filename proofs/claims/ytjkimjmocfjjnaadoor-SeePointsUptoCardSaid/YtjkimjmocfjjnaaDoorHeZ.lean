/- gantlaw4.SeePoints returns true for every input of a bulk that fits: the second form's row and its tied card. -/
import Derived.Test.YtjkimjmocfjjnaaDoorHe
import Derived.Test.YtjkimjmocfjjnaaDoorHf
import Derived.Test.YtjkimjmocfjjnaaDoorPi
import Derived.Test.YtjkimjmocfjjnaaDoorRows
import Derived.Test.YtjkimjmocfjjnaaDoorCards
import Derived.Test.YtjkimjmocfjjnaaDoorTie
import Derived.WalkKit
import Derived.ProofKit
import Derived.OpenShut
import Derived.ShutString
import Derived.ChangeOld
import Derived.Below
import Derived.SizedLaws
import Derived.LaidMore
import Derived.Lay
import Derived.SevenTiedAt
import Derived.Stop.Joined
import Derived.Deep.DeepHandedRow
import Derived.JoinedCond
namespace Go.Proofs.YtjkimjmocfjjnaaDoor.Ab
open Go.ChangeShapes Go.WideShapes Go.ChangeAt Go.RowKit
open Go.ChangeMaps (open_string shut_string)
set_option linter.unusedVariables false
set_option linter.unusedSimpArgs false
set_option maxRecDepth 100000

theorem own : ownKnob Tryd.prog.godebug = none := by kernel_rfl
theorem laidOut : laidOutB Tryd.prog = true := by kernel_rfl

set_option maxHeartbeats 2000000 in
theorem seePoints_lifted (os : Os) (started : os.Started) (H : Type) (enc : TypeId × Value → H) (F : Stop.Interp) :
    ReturnsInHanded {} Tryd.checked os 4 .any ((Rows.OpenSpec.upto Rows.seePointsSpec).preRow enc Tryd.prog Tryd.f4 Rows.seePointsUptoRow.domain false Rows.seePointsUptoRow.laid) (((Rows.OpenSpec.upto Rows.seePointsSpec).at F).post enc Tryd.prog Tryd.f4 false true false false) := by
  have hx : ((DataW.whole enc Tryd.prog ((World.laidAll Tryd.prog os Rows.seePointsUptoRow.laid).forCall (fun _ _ => 0) ⟨#[], #[.agg #[.bool false, .string ByteArray.empty, .string ByteArray.empty, .bool false, .string ByteArray.empty, .string ByteArray.empty, .bool false, .string ByteArray.empty, .string ByteArray.empty, .bool false, .string ByteArray.empty, .string ByteArray.empty, .bool false, .string ByteArray.empty, .string ByteArray.empty, .bool false, .string ByteArray.empty, .string ByteArray.empty], .agg #[.bool false, .string ByteArray.empty, .string ByteArray.empty, .bool false, .string ByteArray.empty, .string ByteArray.empty], .slice none 0 0], []⟩).memory Tryd.f4.params.toList (Rows.OpenSpec.upto Rows.seePointsSpec).vars false (#[.agg #[.bool false, .string ByteArray.empty, .string ByteArray.empty, .bool false, .string ByteArray.empty, .string ByteArray.empty, .bool false, .string ByteArray.empty, .string ByteArray.empty, .bool false, .string ByteArray.empty, .string ByteArray.empty, .bool false, .string ByteArray.empty, .string ByteArray.empty, .bool false, .string ByteArray.empty, .string ByteArray.empty], .agg #[.bool false, .string ByteArray.empty, .string ByteArray.empty, .bool false, .string ByteArray.empty, .string ByteArray.empty], .slice none 0 0] : Array Value).toList 8).any fun x => Rows.uptoSmall H (x.1 ++ x.2.1)) = true := by kernel_rfl
  obtain ⟨x, hx1, hx2⟩ : ∃ x, DataW.whole enc Tryd.prog ((World.laidAll Tryd.prog os Rows.seePointsUptoRow.laid).forCall (fun _ _ => 0) ⟨#[], #[.agg #[.bool false, .string ByteArray.empty, .string ByteArray.empty, .bool false, .string ByteArray.empty, .string ByteArray.empty, .bool false, .string ByteArray.empty, .string ByteArray.empty, .bool false, .string ByteArray.empty, .string ByteArray.empty, .bool false, .string ByteArray.empty, .string ByteArray.empty, .bool false, .string ByteArray.empty, .string ByteArray.empty], .agg #[.bool false, .string ByteArray.empty, .string ByteArray.empty, .bool false, .string ByteArray.empty, .string ByteArray.empty], .slice none 0 0], []⟩).memory Tryd.f4.params.toList (Rows.OpenSpec.upto Rows.seePointsSpec).vars false (#[.agg #[.bool false, .string ByteArray.empty, .string ByteArray.empty, .bool false, .string ByteArray.empty, .string ByteArray.empty, .bool false, .string ByteArray.empty, .string ByteArray.empty, .bool false, .string ByteArray.empty, .string ByteArray.empty, .bool false, .string ByteArray.empty, .string ByteArray.empty, .bool false, .string ByteArray.empty, .string ByteArray.empty], .agg #[.bool false, .string ByteArray.empty, .string ByteArray.empty, .bool false, .string ByteArray.empty, .string ByteArray.empty], .slice none 0 0] : Array Value).toList 8 = some x ∧ Rows.uptoSmall H (x.1 ++ x.2.1) = true := by
    revert hx
    generalize DataW.whole enc Tryd.prog ((World.laidAll Tryd.prog os Rows.seePointsUptoRow.laid).forCall (fun _ _ => 0) ⟨#[], #[.agg #[.bool false, .string ByteArray.empty, .string ByteArray.empty, .bool false, .string ByteArray.empty, .string ByteArray.empty, .bool false, .string ByteArray.empty, .string ByteArray.empty, .bool false, .string ByteArray.empty, .string ByteArray.empty, .bool false, .string ByteArray.empty, .string ByteArray.empty, .bool false, .string ByteArray.empty, .string ByteArray.empty], .agg #[.bool false, .string ByteArray.empty, .string ByteArray.empty, .bool false, .string ByteArray.empty, .string ByteArray.empty], .slice none 0 0], []⟩).memory Tryd.f4.params.toList (Rows.OpenSpec.upto Rows.seePointsSpec).vars false (#[.agg #[.bool false, .string ByteArray.empty, .string ByteArray.empty, .bool false, .string ByteArray.empty, .string ByteArray.empty, .bool false, .string ByteArray.empty, .string ByteArray.empty, .bool false, .string ByteArray.empty, .string ByteArray.empty, .bool false, .string ByteArray.empty, .string ByteArray.empty, .bool false, .string ByteArray.empty, .string ByteArray.empty], .agg #[.bool false, .string ByteArray.empty, .string ByteArray.empty, .bool false, .string ByteArray.empty, .string ByteArray.empty], .slice none 0 0] : Array Value).toList 8 = y
    intro hx
    cases y with
    | none => cases hx
    | some x => exact ⟨x, rfl, hx⟩
  have hok : Input.okWideB Tryd.prog ((World.laidAll Tryd.prog os Rows.seePointsUptoRow.laid).forCall (fun _ _ => 0) ⟨#[], #[.agg #[.bool false, .string ByteArray.empty, .string ByteArray.empty, .bool false, .string ByteArray.empty, .string ByteArray.empty, .bool false, .string ByteArray.empty, .string ByteArray.empty, .bool false, .string ByteArray.empty, .string ByteArray.empty, .bool false, .string ByteArray.empty, .string ByteArray.empty, .bool false, .string ByteArray.empty, .string ByteArray.empty], .agg #[.bool false, .string ByteArray.empty, .string ByteArray.empty, .bool false, .string ByteArray.empty, .string ByteArray.empty], .slice none 0 0], []⟩) 4 ⟨#[], #[.agg #[.bool false, .string ByteArray.empty, .string ByteArray.empty, .bool false, .string ByteArray.empty, .string ByteArray.empty, .bool false, .string ByteArray.empty, .string ByteArray.empty, .bool false, .string ByteArray.empty, .string ByteArray.empty, .bool false, .string ByteArray.empty, .string ByteArray.empty, .bool false, .string ByteArray.empty, .string ByteArray.empty], .agg #[.bool false, .string ByteArray.empty, .string ByteArray.empty, .bool false, .string ByteArray.empty, .string ByteArray.empty], .slice none 0 0], []⟩ = true := by kernel_rfl
  refine returnsInHanded_of_row (C := Tryd.checked) (s := Rows.OpenSpec.upto Rows.seePointsSpec) own started (by kernel_rfl) Tryd.func4
    ⟨World.laidAll Tryd.prog os Rows.seePointsUptoRow.laid, fun _ _ => 0, ⟨#[], #[.agg #[.bool false, .string ByteArray.empty, .string ByteArray.empty, .bool false, .string ByteArray.empty, .string ByteArray.empty, .bool false, .string ByteArray.empty, .string ByteArray.empty, .bool false, .string ByteArray.empty, .string ByteArray.empty, .bool false, .string ByteArray.empty, .string ByteArray.empty, .bool false, .string ByteArray.empty, .string ByteArray.empty], .agg #[.bool false, .string ByteArray.empty, .string ByteArray.empty, .bool false, .string ByteArray.empty, .string ByteArray.empty], .slice none 0 0], []⟩, World.laidAll_os _ _ _, World.shaped_of_ZipB (by kernel_rfl) (by kernel_rfl), (Input.okWide_of_okWideB (base := 0) hok).1, (Input.okWide_of_okWideB hok).2,
      OpenSpec.preRow_of_cond 8 hx1 (by kernel_rfl) (fun k hk => by cases hk; exact hx2) (by kernel_rfl) (by rw [MakeChecks.laidMetH_plain _ _ _ (by kernel_rfl)]; exact laidMet_laidAll _ (by kernel_rfl) (by kernel_rfl)),
      by simp only [Assume.holds]; exact ⟨by simp, by simp, fun _ => Modest.zero, by simp, by simp⟩⟩ ?_
  intro W base args ds gs before hval0 hW hcnd hcond _ hL _ _
  have hval : ∀ (j : Nat) t v, Tryd.f4.params[j]? = some t → args[j]? = some v → Value.okWide Tryd.prog W .any base t v := hval0
  have hW' := hW
  obtain ⟨p, q, hA0, hV, rfl, hfz, hnd⟩ := hW
  have hA : DataW.TrodAll enc Tryd.prog W 0 (fun _ => true) true Tryd.f4.params.toList args.toList ds p := hA0
  rw [Tryd.params4] at hA hval
  obtain ⟨v0, vs0, d0, ds0, p0, q0, hargs, rfl, rfl, h0, r0⟩ := trodAll_cons hA
  obtain ⟨v1, vs1, d1, ds1, p1, q1, rfl, rfl, rfl, h1, r1⟩ := trodAll_cons r0
  obtain ⟨v2, vs2, d2, ds2, p2, q2, rfl, rfl, rfl, h2, r2⟩ := trodAll_cons r1
  obtain ⟨rfl, rfl, rfl⟩ := trodAll_nil r2
  obtain rfl : args = #[v0, v1, v2] := by cases args; simp_all
  obtain ⟨rfl, rfl⟩ := trodVars_none hV
  have hbk : Rows.uptoBulkAll (H := H) [d0, d1, d2] ≤ 1048576 := by
    have h := hcond _ rfl
    simp only [List.append_nil] at h
    exact of_decide_eq_true h
  simp only [Rows.uptoBulkAll] at hbk
  obtain ⟨c0, rfl, -⟩ := okWide_struct Tryd.underlying27 (hval 0 27 v0 rfl rfl)
  have k0 := h0
  have lt0 : ∀ x ∈ p0, x.block < W.heap.size := by obtain ⟨m, hm⟩ := k0; exact DataW.trod_lt m _ _ _ hm
  obtain ⟨fuel0, hf0⟩ := h0
  obtain ⟨c1, rfl, -⟩ := okWide_struct Tryd.underlying29 (hval 1 29 v1 rfl rfl)
  have k1 := h1
  have lt1 : ∀ x ∈ p1, x.block < W.heap.size := by obtain ⟨m, hm⟩ := k1; exact DataW.trod_lt m _ _ _ hm
  obtain ⟨fuel1, hf1⟩ := h1
  obtain ⟨b2, len2, cap2, rfl⟩ := okWide_slice Tryd.underlying62 (hval 2 62 v2 rfl rfl)
  have k2 := h2
  have lt2 : ∀ x ∈ p2, x.block < W.heap.size := by obtain ⟨m, hm⟩ := k2; exact DataW.trod_lt m _ _ _ hm
  obtain ⟨fuel2, hf2⟩ := h2
  rw [MakeChecks.laidMetH_plain _ _ _ (by kernel_rfl)] at hL
  have HA0 := HR.bare (W := W) (G := tabG) (tab_bare hL)
  obtain ⟨μ, A, vss, -, HA, hvl, hvs⟩ := open_each (G := tabG) [(_, _, (d0, p0).1), (_, _, (d1, p1).1), (_, _, (d2, p2).1)] (fun q hq => by
    simp only [List.mem_cons, List.not_mem_nil, or_false] at hq
    rcases hq with rfl | rfl | rfl
    · exact open_cells 8 27 (by kernel_rfl) fuel0 _ _ hf0
    · exact open_cells 8 29 (by kernel_rfl) fuel1 _ _ hf1
    · exact open_cells 8 62 (by kernel_rfl) fuel2 _ _ hf2) _ _ HA0
  match vss, hvl with
  | [ws0, ws1, ws2], _ =>
  obtain ⟨cr0, lies0⟩ := hvs 0 _ _ rfl rfl
  replace lies0 : Lies Tryd.prog A 27 ws0 d0 := lies0
  obtain ⟨n0_0, s0_0, e0_0, n0_1, s0_1, e0_1, n0_2, s0_2, e0_2, n0_3, s0_3, e0_3, n0_4, s0_4, e0_4, n0_5, s0_5, e0_5, rfl, hb0⟩ := pose_of_lies lies0
  have hv0 : VR μ A (.agg _) (.agg c0) := VR.of_cells (by simpa [Value.cells] using cr0) rfl
  obtain ⟨g0_0, w0_0, rw0_0⟩ := raw_of (n := n0_0) (s := s0_0) (d := e0_0) (k := 1048576) tabG_tab (by omega) (by omega) (by decide) (by decide)
  obtain ⟨g0_1, w0_1, rw0_1⟩ := raw_of (n := n0_1) (s := s0_1) (d := e0_1) (k := 1048576) tabG_tab (by omega) (by omega) (by decide) (by decide)
  obtain ⟨g0_2, w0_2, rw0_2⟩ := raw_of (n := n0_2) (s := s0_2) (d := e0_2) (k := 1048576) tabG_tab (by omega) (by omega) (by decide) (by decide)
  obtain ⟨g0_3, w0_3, rw0_3⟩ := raw_of (n := n0_3) (s := s0_3) (d := e0_3) (k := 1048576) tabG_tab (by omega) (by omega) (by decide) (by decide)
  obtain ⟨g0_4, w0_4, rw0_4⟩ := raw_of (n := n0_4) (s := s0_4) (d := e0_4) (k := 1048576) tabG_tab (by omega) (by omega) (by decide) (by decide)
  obtain ⟨g0_5, w0_5, rw0_5⟩ := raw_of (n := n0_5) (s := s0_5) (d := e0_5) (k := 1048576) tabG_tab (by omega) (by omega) (by decide) (by decide)
  obtain ⟨x0_0, y0_0, rs0_0⟩ := raws_of tabG_tab rw0_0 rw0_1 (by decide)
  obtain ⟨x0_1, y0_1, rs0_1⟩ := raws_of tabG_tab rw0_2 rw0_3 (by decide)
  obtain ⟨x0_2, y0_2, rs0_2⟩ := raws_of tabG_tab rw0_4 rw0_5 (by decide)
  have rp0 : RawP tabG n0_0 s0_0 e0_0 n0_1 s0_1 e0_1 n0_2 s0_2 e0_2 n0_3 s0_3 e0_3 n0_4 s0_4 e0_4 n0_5 s0_5 e0_5 ⟨x0_0, y0_0, x0_1, y0_1, x0_2, y0_2⟩ 1048576 := ⟨rs0_0, rs0_1, rs0_2⟩
  obtain ⟨cr1, lies1⟩ := hvs 1 _ _ rfl rfl
  replace lies1 : Lies Tryd.prog A 29 ws1 d1 := lies1
  obtain ⟨n1_0, s1_0, e1_0, n1_1, s1_1, e1_1, rfl, hb1⟩ := vec_of_lies lies1
  have hv1 : VR μ A (.agg _) (.agg c1) := VR.of_cells (by simpa [Value.cells] using cr1) rfl
  obtain ⟨g1_0, w1_0, rw1_0⟩ := raw_of (n := n1_0) (s := s1_0) (d := e1_0) (k := 1048576) tabG_tab (by omega) (by omega) (by decide) (by decide)
  obtain ⟨g1_1, w1_1, rw1_1⟩ := raw_of (n := n1_1) (s := s1_1) (d := e1_1) (k := 1048576) tabG_tab (by omega) (by omega) (by decide) (by decide)
  obtain ⟨cr2, lies2⟩ := hvs 2 _ _ rfl rfl
  replace lies2 : Lies Tryd.prog A 62 ws2 d2 := lies2
  obtain ⟨vv2, l2, rfl, hs2, hx2, hm2⟩ := vecs_of_lies (by omega) lies2
  have hv2 : VR μ A vv2 (.slice b2 len2 cap2) := VR.of_cell (by simpa [Value.cells] using cr2)
  refine (seePoints_calls tabG_tab rp0 rw1_0 rw1_1 hs2 hx2 (by omega) (by decide) μ W #[.agg c0, .agg c1, .slice b2 len2 cap2] HA (Nat.le_refl _) ⟨rfl, fun i hi hi' => ?_⟩).mono fun e W' he => ?_
  · match i with
    | 0 => exact hv0
    | 1 => exact hv1
    | 2 => exact hv2
    | i + 3 => simp at hi; omega
  obtain ⟨u, rfl, ν, hu, -, T⟩ := he
  have bel := below_of_trans HA.wf T
  cases hu
  exact ⟨_, rfl, _, _, _, [], _, [], hW', trodAll_mk1 (shut_bool Tryd.underlying4 _), (trodAll_cons_mk (Below.trod laidOut (by kernel_rfl) (of_decide_eq_true (by kernel_rfl)) k0 bel lt0) (trodAll_cons_mk (Below.trod laidOut (by kernel_rfl) (of_decide_eq_true (by kernel_rfl)) k1 bel lt1) (trodAll_cons_mk (Below.trod laidOut (by kernel_rfl) (of_decide_eq_true (by kernel_rfl)) k2 bel lt2) trodAll_mk0))), rfl, bel.frame _, fun h => by cases h⟩

theorem seePoints_holds : Rows.SeePointsUptoSaid :=
  OpenClaim.holds_of_cond 4 Tryd.f4 rfl rfl rfl rfl rfl rfl rfl ⟨rfl, rfl, rfl, rfl, rfl⟩ rfl rfl rfl rfl rfl (by kernel_rfl) Tryd.func4 (by kernel_rfl)
    (of_decide_eq_true (by kernel_rfl)) (by unfold Func.isWrapper; first | (rw [if_pos (by decide +kernel)]; kernel_rfl) | (rw [if_neg (by decide +kernel)]; exact ⟨rfl, rfl⟩))
    (fun os started H enc _ F => by rw [OpenClaim.pre_eq_preRow]; exact seePoints_lifted os started H enc F)
theorem seePoints_card : Rows.SeePointsUptoCardSaid :=
  Claim7.holds_tied_plain_at .later [] [.data] true (true, "12bbbbb2b9fcbca6eac4f4263242de6b1f18b754acc9506d7089e48ecbcce925") false
    seePoints_holds (fun _ h => by cases h) (by kernel_rfl) (fun _ h => by cases h) seePointsUpto_row_tie rfl ⟨rfl, rfl⟩ (by kernel_rfl) rfl
    (fun f fn hf hfn => by
      obtain rfl : f = 4 := Option.some.inj ((show Tryd.prog.funcNamed "gantry/gantlaw4.SeePoints" = some 4 by kernel_rfl).symm.trans hf) |>.symm
      obtain rfl : fn = Tryd.f4 := (Option.some.inj (Tryd.func4.symm.trans hfn)).symm
      exact ⟨by kernel_rfl, fun j t ht => by
        rw [Tryd.params4] at ht
        have hm : t ∈ [27, 29, 62] := by simpa using Array.mem_of_getElem? ht
        have hall : ([27, 29, 62].all fun u => !Tryd.prog.wantsStandIn u) = true := by kernel_rfl
        exact (show Tryd.prog.wantsStandIn t = false by simpa using List.all_eq_true.1 hall t hm)⟩)
    (by kernel_rfl)
#print axioms seePoints_card
end Go.Proofs.YtjkimjmocfjjnaaDoor.Ab
namespace Go.Proofs.YtjkimjmocfjjnaaDoor
/-- The second form's card, under a short name, for the claim. -/
theorem seePointsUpto_proved : Rows.SeePointsUptoCardSaid := Ab.seePoints_card
end Go.Proofs.YtjkimjmocfjjnaaDoor
