/- Facts: fact.Compare, and slices.SortFunc with it. -/
import Derived.Test.YthchdnaabamplaaFf
import Derived.Test.YthchdnaabamplaaZe
import Derived.Test.YthchdnaabamplaaSc
import Derived.LoopN
namespace Go.Proofs.Ythchdnaabamplaa.Ab
open Go.RowKit Go.Shelf Go.Lib Go.Sort
set_option linter.unusedVariables false
set_option linter.unusedSimpArgs false
set_option maxRecDepth 100000

theorem cellA {w : World} {c : Array Value} {t : TypeId} {fr : Nat × Nat} {j n : Nat} {v : Value} (hn : n = w.heap.size) (h : c.toList[j]? = some v) : (w.alloc (.cells c t fr)).cell? ⟨n, j, none⟩ = some v := by
  subst hn
  rw [cell?_plain _ _ _ (MapKept.heap_alloc w _).1]
  simpa using h
theorem cellB {w : World} {o : Obj} {a : Addr} {v : Value} (h : w.cell? a = some v) : (w.alloc o).cell? a = some v := by
  unfold World.cell? at h ⊢
  cases hb : w.heap[a.block]? with
  | none => rw [hb] at h; cases h
  | some q =>
    rw [hb] at h
    rw [(MapKept.heap_alloc w o).2 _ (Array.getElem?_eq_some_iff.1 hb).1, hb]
    exact h
/-- What fact.Compare says of two facts. -/
def fcf (x y : Fa) : Int := if Lib.compareInt x.1 y.1 = 0 then (if Lib.compareInt x.2.1 y.2.1 = 0 then Lib.compareInt x.2.2 y.2.2 else Lib.compareInt x.2.1 y.2.1) else Lib.compareInt x.1 y.1
theorem ltFcf (x y : Fa) : ltOf fcf x y = decide (flt x y) := by
  unfold ltOf fcf Lib.compareInt flt
  congr 1
  apply propext
  repeat' split
  all_goals first | omega | (simp; omega)
theorem fcf_swo : SWO (ltOf fcf) where
  irrefl x := by rw [ltFcf, decide_eq_false_iff_not]; unfold flt; omega
  trans x y z h1 h2 := by
    rw [ltFcf, decide_eq_true_eq] at *
    unfold flt at *; omega
  ntrans x y z h1 h2 := by
    rw [ltFcf, decide_eq_false_iff_not] at *
    unfold flt at *; omega
theorem fcf_total (x y : Fa) (h1 : ltOf fcf x y = false) (h2 : ltOf fcf y x = false) : x = y := by
  rw [ltFcf, decide_eq_false_iff_not] at *
  unfold flt at *
  exact Prod.ext (by omega) (Prod.ext (by omega) (by omega))

set_option maxHeartbeats 4000000 in
theorem scmp_calls (x y : Fa) (W : World) {a b : Nat} (h1 : ∀ j (v : Value), (fC x)[j]? = some v → W.cell? ⟨a, j, none⟩ = some v) (h2 : ∀ j (v : Value), (fC y)[j]? = some v → W.cell? ⟨b, j, none⟩ = some v) :
    Calls Try.prog 28 #[.slice (some ⟨a, 0, none⟩) 3 3, .slice (some ⟨b, 0, none⟩) 3 3] W fun e w' => e = .returned (.int .i64 (fcf x y)) ∧ w' = W := by
  have hc := fun a b W' => AnyG.cmp_Compare_int Try.cmpInt a b W'
  change ∀ a b W', Calls Try.prog 35 _ _ _ at hc
  unfold fcf
  obtain ⟨x1, x2, x3⟩ := x
  obtain ⟨y1, y2, y3⟩ := y
  obtain ⟨f, hf⟩ : ∃ f, f = Lib.compareInt := ⟨_, rfl⟩
  simp only [← hf] at hc ⊢
  clear hf
  have a0 := h1 0 _ rfl
  have a1 := h1 1 _ rfl
  have a2 := h1 2 _ rfl
  have b0 := h2 0 _ rfl
  have b1 := h2 1 _ rfl
  have b2 := h2 2 _ rfl
  by_cases e1 : f x1 y1 = 0
  · rw [if_pos e1]
    by_cases e2 : f x2 y2 = 0
    · rw [if_pos e2]
      by_cases e3 : f x3 y3 = 0
      · rw [e3]
        go_enter Try.func28, Try.ntmps28
        go_wp2_with (go_at_call 35; refine (hc _ _ _).mono ?_; rintro e w' ⟨rfl, rfl⟩)
        refine wp_loop_rounds 4 ?_
        rw [rounds_succ]
        go_wp2_with (go_at_call 35; refine (hc _ _ _).mono ?_; rintro e w' ⟨rfl, rfl⟩)
        rw [rounds_succ]
        go_wp2_with (go_at_call 35; refine (hc _ _ _).mono ?_; rintro e w' ⟨rfl, rfl⟩)
        rw [rounds_succ]
        go_wp2_with (go_at_call 35; refine (hc _ _ _).mono ?_; rintro e w' ⟨rfl, rfl⟩)
        rw [rounds_succ]
        go_wp2_with (go_at_call 35; refine (hc _ _ _).mono ?_; rintro e w' ⟨rfl, rfl⟩)
        go_ret
        exact ⟨rfl, rfl⟩
      · skip
        go_enter Try.func28, Try.ntmps28
        go_wp2_with (go_at_call 35; refine (hc _ _ _).mono ?_; rintro e w' ⟨rfl, rfl⟩)
        refine wp_loop_rounds 4 ?_
        rw [rounds_succ]
        go_wp2_with (go_at_call 35; refine (hc _ _ _).mono ?_; rintro e w' ⟨rfl, rfl⟩)
        rw [rounds_succ]
        go_wp2_with (go_at_call 35; refine (hc _ _ _).mono ?_; rintro e w' ⟨rfl, rfl⟩)
        rw [rounds_succ]
        go_wp2_with (go_at_call 35; refine (hc _ _ _).mono ?_; rintro e w' ⟨rfl, rfl⟩)
        go_ret
        exact ⟨rfl, rfl⟩
    · rw [if_neg e2]
      go_enter Try.func28, Try.ntmps28
      go_wp2_with (go_at_call 35; refine (hc _ _ _).mono ?_; rintro e w' ⟨rfl, rfl⟩)
      refine wp_loop_rounds 4 ?_
      rw [rounds_succ]
      go_wp2_with (go_at_call 35; refine (hc _ _ _).mono ?_; rintro e w' ⟨rfl, rfl⟩)
      rw [rounds_succ]
      go_wp2_with (go_at_call 35; refine (hc _ _ _).mono ?_; rintro e w' ⟨rfl, rfl⟩)
      go_ret
      exact ⟨rfl, rfl⟩
  · rw [if_neg e1]
    go_enter Try.func28, Try.ntmps28
    go_wp2_with (go_at_call 35; refine (hc _ _ _).mono ?_; rintro e w' ⟨rfl, rfl⟩)
    refine wp_loop_rounds 4 ?_
    rw [rounds_succ]
    go_wp2_with (go_at_call 35; refine (hc _ _ _).mono ?_; rintro e w' ⟨rfl, rfl⟩)
    go_ret
    exact ⟨rfl, rfl⟩

set_option maxHeartbeats 4000000 in
theorem fcompare_calls (x y : Fa) (W : World) : Calls Try.prog 12 #[.agg (fC x).toArray, .agg (fC y).toArray] W fun e w' => e = .returned (.int .i64 (fcf x y)) ∧ ∃ q os', w' = Go.Sort.grow (W.drewN q) os' := by
  have hs := fun W' a b => scmp_calls x y W' (a := a) (b := b)
  obtain ⟨r, hr⟩ : ∃ r, r = fcf x y := ⟨_, rfl⟩
  rw [← hr] at hs ⊢
  clear hr
  simp only [fC] at hs ⊢
  go_enter Try.func12, Try.ntmps12
  go_wp2_with (go_at_call 28; refine (hs _ _ _ ?_ ?_).mono ?_)
  · intro j v hj
    exact cellB (cellA (by simp) hj)
  · intro j v hj
    exact cellA (by simp) hj
  rintro e w' ⟨rfl, rfl⟩
  go_wp2_with fail
  go_ret
  exact ⟨rfl, 0, _, by rw [alloc_eq_grow, alloc_eq_grow, alloc_eq_grow, alloc_eq_grow, grow_grow, grow_grow, grow_grow]; rfl⟩

section
variable {G : Gl} {fl : Nat} {A : Hp}
theorem fsort_ok {l : List Fa} {id g c : Nat} (hid : fl ≤ id) (hb : A.blk id = some (.row (l.map fC).flatten g 3)) (hl0 : l ≠ []) (hlc : l.length ≤ c) (hl : l.length < 4611686018427387904) :
    Sound Try.prog G 29 [.slice (some ⟨id, 0, some g⟩) l.length c, .func (.func 12) #[] #[]] fl A (.tuple #[]) (A.put id (.row ((srt fcf l).map fC).flatten g 3)) :=
  sort_sound (ρ := Try.sortFact_ren) Try.sortFact 3 Try.isAgg23 Try.sizeOf23 fC (fun _ => rfl) (fun x v hv => by simp [fC] at hv; rcases hv with rfl | rfl | rfl <;> rfl)
    (fun x v hv => by
      simp only [fC, List.mem_cons, List.not_mem_nil, or_false] at hv
      rcases hv with rfl | rfl | rfl
      · exact ⟨rfl, fun μ A u' h => by cases h; rfl⟩
      · exact ⟨rfl, fun μ A u' h => by cases h; rfl⟩
      · exact ⟨rfl, fun μ A u' h => by cases h; rfl⟩)
    fcf fcf_swo fcf_total 12 (enters_of Try.func12 (by kernel_rfl) rfl) fcompare_calls
    ⟨_, Try.func29, by kernel_rfl, by kernel_rfl⟩ hid hb hl0 (by decide) hlc hl

theorem fsort_nil : Sound Try.prog G 29 [.slice none 0 0, .func (.func 12) #[] #[]] fl A (.tuple #[]) A := by
  intro μ w args' H hfl hargs
  obtain ⟨hsz, hall⟩ := hargs
  have hs : args'.size = 2 := by simpa using hsz.symm
  obtain ⟨s', f', rfl⟩ : ∃ s' f', args' = #[s', f'] := ⟨args'[0], args'[1], by
    apply Array.ext
    · simpa using hs
    · intro i h1 h2
      have : i = 0 ∨ i = 1 := by simp at h2; omega
      rcases this with rfl | rfl <;> rfl⟩
  have v0 := hall 0 (by simp) (by simp)
  have v1 := hall 1 (by simp) (by simp)
  simp at v0 v1
  cases v0
  exact .inl ⟨⟨_, Try.func29, by kernel_rfl, by kernel_rfl⟩, (AnyF.slices_SortFunc_none (ρ := Try.sortFact_ren) Try.sortFact none 0 f' w).mono fun e w' h => ⟨_, h.1, μ, VR.of_zcA rfl, by rw [h.2]; exact H, by rw [h.2]; exact Trans.refl _ _ _ _⟩⟩
end
end Go.Proofs.Ythchdnaabamplaa.Ab
