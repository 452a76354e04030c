/- gantlaw4.WordTexts returns true for every input of a bulk that fits: the row's statement. -/
import Derived.Test.YtjgkodhadgfbmaaDoorDn
import Derived.Test.YtjgkodhadgfbmaaDoorRows
import Derived.Test.YtjgkodhadgfbmaaDoorCards
import Derived.Test.YtjgkodhadgfbmaaDoorTie
import Derived.WalkKit
import Derived.ProofKit
import Derived.OpenShut
import Derived.ShutString
import Derived.ChangeOld
import Derived.Below
import Derived.SizedLaws
import Derived.LaidMore
import Derived.Lay
import Derived.SevenTiedAt
import Derived.Stop.Joined
import Derived.Deep.DeepHandedRow
import Derived.JoinedCond
namespace Go.Proofs.YtjgkodhadgfbmaaDoor.Ab
open Go.ChangeShapes Go.WideShapes Go.ChangeAt Go.RowKit
open Go.ChangeMaps (open_string shut_string)
set_option linter.unusedVariables false
set_option linter.unusedSimpArgs false
set_option maxRecDepth 100000

theorem own : ownKnob Tryd.prog.godebug = none := by kernel_rfl
theorem laidOut : laidOutB Tryd.prog = true := by kernel_rfl
theorem int_bounds {n : Int} (h : (Lit.int .i64 n).wf = true) : -9223372036854775808 ≤ n ∧ n ≤ 9223372036854775807 := by
  simp [Lit.wf, IntKind.min, IntKind.max, IntKind.bits, IntKind.signed] at h
  exact ⟨by omega, by omega⟩
theorem len_max {n : Nat} (h : n ≤ maxLen) : n ≤ 9223372036854775807 := by
  have : maxLen = 9223372036854775807 := rfl
  omega

section
variable {H : Type} {A : Hp} {cs : List Value} {d : DataW H}
theorem bulk_mem {l : List (DataW H)} (h : d ∈ l) : Rows.uptoBulk d ≤ Rows.uptoBulkAll l := by
  induction l with
  | nil => cases h
  | cons x r ih =>
    simp only [Rows.uptoBulkAll]
    cases List.mem_cons.1 h with
    | inl e => subst e; omega
    | inr e => have := ih e; omega
theorem bulk_one (d : DataW H) : 1 ≤ Rows.uptoBulk d := by
  cases d with
  | lit l => cases l <;> simp [Rows.uptoBulk]
  | nil => simp [Rows.uptoBulk]
  | ptr d => simp [Rows.uptoBulk]
  | slice elems spare => simp [Rows.uptoBulk]
  | agg parts => simp [Rows.uptoBulk]
  | iface t d => simp [Rows.uptoBulk]
  | map entries => simp [Rows.uptoBulk]
  | held h => simp [Rows.uptoBulk]
theorem bulk_len (l : List (DataW H)) : l.length ≤ Rows.uptoBulkAll l := by
  induction l with
  | nil => simp [Rows.uptoBulkAll]
  | cons x r ih => have := bulk_one x; simp only [Rows.uptoBulkAll, List.length_cons]; omega
theorem Lies.elems {P : Program} {t e : TypeId} (ht : P.underlying t = some (.slice e)) (h : Lies P A t cs d) :
    ∃ v css, cs = [v] ∧ Sl A (P.cellsOf e) v css ∧ css.length ≤ Rows.uptoBulk d ∧ ∀ c ∈ css, ∃ d' : DataW H, Rows.uptoBulk d' ≤ Rows.uptoBulk d ∧ Lies P A e c d' := by
  cases h with
  | bool h b => rw [ht] at h; cases h
  | int h => rw [ht] at h; cases h
  | str h s hs => rw [ht] at h; cases h
  | nil h => exact ⟨_, [], rfl, ⟨by simp, .inl ⟨rfl, rfl⟩⟩, by simp, by simp⟩
  | @sl t e2 v css ds rest h hs hl hm hh =>
    rw [ht] at h; cases h
    have hb := bulk_len ds
    refine ⟨v, css, rfl, hs, by simp only [Rows.uptoBulk]; omega, fun c hc => ?_⟩
    obtain ⟨i, hi⟩ := List.getElem?_of_mem hc
    have hd : i < ds.length := by have := (List.getElem?_eq_some_iff.1 hi).1; omega
    have hm2 := bulk_mem (List.getElem_mem hd)
    exact ⟨ds[i], by simp only [Rows.uptoBulk]; omega, hh i c _ hi (List.getElem?_eq_getElem hd)⟩
  | st h => rw [ht] at h; cases h
end
theorem each_of {α : Type} {enc : α → List Value} {ok : α → Prop} : ∀ {css : List (List Value)}, (∀ c ∈ css, ∃ x : α, c = enc x ∧ ok x) → ∃ l : List α, css = l.map enc ∧ ∀ x ∈ l, ok x
  | [], _ => ⟨[], rfl, by simp⟩
  | c :: cs, h => by
    obtain ⟨x, rfl, hx⟩ := h c (by simp)
    obtain ⟨l, rfl, hl⟩ := each_of (css := cs) fun c hc => h c (by simp [hc])
    exact ⟨x :: l, rfl, by simpa using ⟨hx, hl⟩⟩

section
variable {H : Type} {A : Hp} {cs : List Value} {d : DataW H}
theorem Lies.parts {P : Program} {t : TypeId} {fs : Array Field} (ht : P.underlying t = some (.struct fs)) (h : Lies P A t cs d) :
    cs.length = P.cellsOf t ∧ ∀ (i : Nat) (f : Field), fs[i]? = some f → ∃ d' : DataW H, Rows.uptoBulk d' ≤ Rows.uptoBulk d ∧ Lies P A f.type ((cs.drop f.offset).take (P.cellsOf f.type)) d' := by
  cases h with
  | bool h b => rw [ht] at h; cases h
  | int h => rw [ht] at h; cases h
  | str h s hs => rw [ht] at h; cases h
  | nil h => rw [ht] at h; cases h
  | sl h => rw [ht] at h; cases h
  | @st t fs2 cs ds h hl hc hh =>
    rw [ht] at h; cases h
    refine ⟨hc, fun i f hf => ?_⟩
    have hi : i < fs.size := (Array.getElem?_eq_some_iff.1 hf).1
    have hd : i < ds.length := by omega
    refine ⟨ds[i], ?_, hh i f _ hf (List.getElem?_eq_getElem hd)⟩
    have := bulk_mem (List.getElem_mem hd)
    simp only [Rows.uptoBulk]
    omega
theorem str_of_lies (h : Lies Tryd.prog A 9 cs d) : ∃ s : List UInt8, cs = [.string (S s)] ∧ s.length ≤ Rows.uptoBulk d := by
  obtain ⟨s, rfl, rfl, -⟩ := h.str_inv Tryd.underlying9
  exact ⟨s.data.toList, by rw [← S_eq], by simp [Rows.uptoBulk]⟩
end
theorem word_of_lies {H : Type} {A : Hp} {cs : List Value} {d : DataW H} (h : Lies Tryd.prog A 32 cs d) : ∃ w : Wx, cs = wX w ∧ w.text.length ≤ Rows.uptoBulk d := by
  obtain ⟨hl, hf⟩ := h.parts Tryd.underlying32
  have h3 : Tryd.prog.cellsOf 32 = 3 := by kernel_rfl
  rw [h3] at hl
  match cs, hl with
  | [x, y, z], _ =>
    obtain ⟨d0, b0, l0⟩ := hf 0 _ rfl
    obtain ⟨d1, b1, l1⟩ := hf 1 _ rfl
    obtain ⟨d2, b2, l2⟩ := hf 2 _ rfl
    have h1 : Tryd.prog.cellsOf 3 = 1 := by kernel_rfl
    have h2 : Tryd.prog.cellsOf 9 = 1 := by kernel_rfl
    change Lies Tryd.prog A 3 (([x, y, z].drop 0).take (Tryd.prog.cellsOf 3)) d0 at l0
    change Lies Tryd.prog A 3 (([x, y, z].drop 1).take (Tryd.prog.cellsOf 3)) d1 at l1
    change Lies Tryd.prog A 9 (([x, y, z].drop 2).take (Tryd.prog.cellsOf 9)) d2 at l2
    rw [h1] at l0 l1
    rw [h2] at l2
    simp only [List.drop_zero, List.drop_succ_cons, List.take_succ_cons, List.take_zero] at l0 l1 l2
    obtain ⟨a, ha, -, wa⟩ := l0.int_inv Tryd.underlying3
    obtain ⟨b, hb, -, wb⟩ := l1.int_inv Tryd.underlying3
    obtain ⟨s, hc, z1⟩ := str_of_lies l2
    simp only [List.cons.injEq, and_true] at ha hb hc
    subst ha; subst hb; subst hc
    refine ⟨⟨a, b, s⟩, rfl, ?_⟩
    show s.length ≤ _
    omega
theorem words_of_lies {H : Type} {A : Hp} {cs : List Value} {d : DataW H} (hb : Rows.uptoBulk d ≤ 1048576) (h : Lies Tryd.prog A 26 cs d) : ∃ (v : Value) (l : List Wx), cs = [v] ∧ Sl A 3 v (l.map wX) ∧ l.length ≤ 1048576 ∧ ∀ w ∈ l, w.text.length ≤ 1048576 := by
  obtain ⟨v, css, rfl, hs, hm, he⟩ := h.elems Tryd.underlying26
  have h3 : Tryd.prog.cellsOf 32 = 3 := by kernel_rfl
  rw [h3] at hs
  obtain ⟨l, rfl, hl⟩ := each_of (enc := wX) (ok := fun w => w.text.length ≤ 1048576) fun c hc => by
    obtain ⟨d, hd1, hd⟩ := he c hc
    obtain ⟨f, hf, hz⟩ := word_of_lies hd
    exact ⟨f, hf, by omega⟩
  rw [List.length_map] at hm
  exact ⟨v, l, rfl, hs, by omega, hl⟩

set_option maxHeartbeats 2000000 in
theorem wordTexts_lifted (os : Os) (started : os.Started) (H : Type) (enc : TypeId × Value → H) (F : Stop.Interp) :
    ReturnsInHanded {} Tryd.checked os 5 .any ((Rows.OpenSpec.upto Rows.wordTextsSpec).preRow enc Tryd.prog Tryd.f5 Rows.wordTextsUptoRow.domain false Rows.wordTextsUptoRow.laid) (((Rows.OpenSpec.upto Rows.wordTextsSpec).at F).post enc Tryd.prog Tryd.f5 false true false false) := by
  have hx : ((DataW.whole enc Tryd.prog ((World.laidAll Tryd.prog os Rows.wordTextsUptoRow.laid).forCall (fun _ _ => 0) ⟨#[], #[.slice none 0 0], []⟩).memory Tryd.f5.params.toList (Rows.OpenSpec.upto Rows.wordTextsSpec).vars false (#[.slice none 0 0] : Array Value).toList 8).any fun x => Rows.uptoSmall H (x.1 ++ x.2.1)) = true := by kernel_rfl
  obtain ⟨x, hx1, hx2⟩ : ∃ x, DataW.whole enc Tryd.prog ((World.laidAll Tryd.prog os Rows.wordTextsUptoRow.laid).forCall (fun _ _ => 0) ⟨#[], #[.slice none 0 0], []⟩).memory Tryd.f5.params.toList (Rows.OpenSpec.upto Rows.wordTextsSpec).vars false (#[.slice none 0 0] : Array Value).toList 8 = some x ∧ Rows.uptoSmall H (x.1 ++ x.2.1) = true := by
    revert hx
    generalize DataW.whole enc Tryd.prog ((World.laidAll Tryd.prog os Rows.wordTextsUptoRow.laid).forCall (fun _ _ => 0) ⟨#[], #[.slice none 0 0], []⟩).memory Tryd.f5.params.toList (Rows.OpenSpec.upto Rows.wordTextsSpec).vars false (#[.slice none 0 0] : Array Value).toList 8 = y
    intro hx
    cases y with
    | none => cases hx
    | some x => exact ⟨x, rfl, hx⟩
  have hok : Input.okWideB Tryd.prog ((World.laidAll Tryd.prog os Rows.wordTextsUptoRow.laid).forCall (fun _ _ => 0) ⟨#[], #[.slice none 0 0], []⟩) 5 ⟨#[], #[.slice none 0 0], []⟩ = true := by kernel_rfl
  refine returnsInHanded_of_row (C := Tryd.checked) (s := Rows.OpenSpec.upto Rows.wordTextsSpec) own started (by kernel_rfl) Tryd.func5
    ⟨World.laidAll Tryd.prog os Rows.wordTextsUptoRow.laid, fun _ _ => 0, ⟨#[], #[.slice none 0 0], []⟩, World.laidAll_os _ _ _, World.shaped_of_ZipB (by kernel_rfl) (by kernel_rfl), (Input.okWide_of_okWideB (base := 0) hok).1, (Input.okWide_of_okWideB hok).2,
      OpenSpec.preRow_of_cond 8 hx1 (by kernel_rfl) (fun k hk => by cases hk; exact hx2) (by kernel_rfl) (by rw [MakeChecks.laidMetH_plain _ _ _ (by kernel_rfl)]; exact laidMet_laidAll _ (by kernel_rfl) (by kernel_rfl)),
      by simp only [Assume.holds]; exact ⟨by simp, by simp, fun _ => Modest.zero, by simp, by simp⟩⟩ ?_
  intro W base args ds gs before hval0 hW hcnd hcond _ hL _ _
  have hval : ∀ (j : Nat) t v, Tryd.f5.params[j]? = some t → args[j]? = some v → Value.okWide Tryd.prog W .any base t v := hval0
  have hW' := hW
  obtain ⟨p, q, hA0, hV, rfl, hfz, hnd⟩ := hW
  have hA : DataW.TrodAll enc Tryd.prog W 0 (fun _ => true) true Tryd.f5.params.toList args.toList ds p := hA0
  rw [Tryd.params5] at hA hval
  obtain ⟨v0, vs0, d0, ds0, p0, q0, hargs, rfl, rfl, h0, r0⟩ := trodAll_cons hA
  obtain ⟨rfl, rfl, rfl⟩ := trodAll_nil r0
  obtain rfl : args = #[v0] := by cases args; simp_all
  obtain ⟨rfl, rfl⟩ := trodVars_none hV
  have hbk : Rows.uptoBulkAll (H := H) [d0] ≤ 1048576 := by
    have h := hcond _ rfl
    simp only [List.append_nil] at h
    exact of_decide_eq_true h
  simp only [Rows.uptoBulkAll] at hbk
  obtain ⟨b0, len0, cap0, rfl⟩ := okWide_slice Tryd.underlying26 (hval 0 26 v0 rfl rfl)
  have k0 := h0
  have lt0 : ∀ x ∈ p0, x.block < W.heap.size := by obtain ⟨m, hm⟩ := k0; exact DataW.trod_lt m _ _ _ hm
  obtain ⟨fuel0, hf0⟩ := h0
  have HA0 := HR.bare (W := W) (G := fun _ => none) (fun g cs h => by cases h)
  obtain ⟨μ, A, vss, -, HA, hvl, hvs⟩ := open_each (G := fun _ => none) [(_, _, (d0, p0).1)] (fun q hq => by
    simp only [List.mem_cons, List.not_mem_nil, or_false] at hq
    rcases hq with rfl
    · exact open_cells 8 26 (by kernel_rfl) fuel0 _ _ hf0) _ _ HA0
  match vss, hvl with
  | [ws0], _ =>
  obtain ⟨cr0, lies0⟩ := hvs 0 _ _ rfl rfl
  replace lies0 : Lies Tryd.prog A 26 ws0 d0 := lies0
  have hb0 : Rows.uptoBulk d0 ≤ 1048576 := by omega
  obtain ⟨vv0, l0, rfl, hs0, hm0, hn0⟩ := words_of_lies hb0 lies0
  have hv0 : VR μ A vv0 (.slice b0 len0 cap0) := VR.of_cell (by simpa [Value.cells] using cr0)
  refine (wordTexts_calls hs0 hm0 hn0 μ W #[.slice b0 len0 cap0] HA (Nat.le_refl _) ⟨rfl, fun i hi hi' => ?_⟩).mono fun e W' he => ?_
  · match i with
    | 0 => exact hv0
    | i + 1 => simp at hi
  obtain ⟨u, rfl, ν, hu, -, T⟩ := he
  have bel := below_of_trans HA.wf T
  cases hu
  exact ⟨_, rfl, _, _, _, [], _, [], hW', trodAll_mk1 (shut_bool Tryd.underlying4 _), (trodAll_cons_mk (Below.trod laidOut (by kernel_rfl) (of_decide_eq_true (by kernel_rfl)) k0 bel lt0) trodAll_mk0), rfl, bel.frame _, fun h => by cases h⟩

theorem wordTexts_holds : Rows.WordTextsUptoSaid :=
  OpenClaim.holds_of_cond 5 Tryd.f5 rfl rfl rfl rfl rfl rfl rfl ⟨rfl, rfl, rfl, rfl, rfl⟩ rfl rfl rfl rfl rfl (by kernel_rfl) Tryd.func5 (by kernel_rfl)
    (of_decide_eq_true (by kernel_rfl)) (by unfold Func.isWrapper; first | (rw [if_pos (by decide +kernel)]; kernel_rfl) | (rw [if_neg (by decide +kernel)]; exact ⟨rfl, rfl⟩))
    (fun os started H enc _ F => by rw [OpenClaim.pre_eq_preRow]; exact wordTexts_lifted os started H enc F)
theorem wordTexts_card : Rows.WordTextsUptoCardSaid :=
  Claim7.holds_tied_plain_at .later [] [.data, .pinned] true (true, "e8302a66ccad4f92e0482e280a91a5cb84d30e989d5550f909c3b4ec88a1d333") false
    wordTexts_holds (fun _ h => by cases h) (by kernel_rfl) (fun _ h => by cases h) wordTextsUpto_row_tie rfl ⟨rfl, rfl⟩ (by kernel_rfl) rfl
    (fun f fn hf hfn => by
      obtain rfl : f = 5 := Option.some.inj ((show Tryd.prog.funcNamed "gantry/gantlaw4.WordTexts" = some 5 by kernel_rfl).symm.trans hf) |>.symm
      obtain rfl : fn = Tryd.f5 := (Option.some.inj (Tryd.func5.symm.trans hfn)).symm
      exact ⟨by kernel_rfl, fun j t ht => by
        rw [Tryd.params5] at ht
        have hm : t ∈ [26] := by simpa using Array.mem_of_getElem? ht
        have hall : ([26].all fun u => !Tryd.prog.wantsStandIn u) = true := by kernel_rfl
        exact (show Tryd.prog.wantsStandIn t = false by simpa using List.all_eq_true.1 hall t hm)⟩)
    (by kernel_rfl)
#print axioms wordTexts_card
end Go.Proofs.YtjgkodhadgfbmaaDoor.Ab
namespace Go.Proofs.YtjgkodhadgfbmaaDoor
/-- The statement, under a short name, for the claim. -/
theorem wordTextsUpto_proved : Rows.WordTextsUptoCardSaid := Ab.wordTexts_card
end Go.Proofs.YtjgkodhadgfbmaaDoor
