/- Slices of points: what lies in them. -/
import Derived.Test.YtjkimjmocfjjnaaDoorGl
import Derived.Test.YtjkimjmocfjjnaaDoorHd
import Derived.Test.YtjkimjmocfjjnaaDoorPi
namespace Go.Proofs.YtjkimjmocfjjnaaDoor.Ab
open Go.RowKit
set_option linter.unusedVariables false
set_option linter.unusedSimpArgs false
set_option maxRecDepth 100000

section
variable {H : Type} {A : Hp} {cs : List Value} {d : DataW H}
theorem bulk_one (d : DataW H) : 1 ≤ Rows.uptoBulk d := by
  cases d with
  | lit l => cases l <;> simp [Rows.uptoBulk]
  | nil => simp [Rows.uptoBulk]
  | ptr d => simp [Rows.uptoBulk]
  | slice elems spare => simp [Rows.uptoBulk]
  | agg parts => simp [Rows.uptoBulk]
  | iface t d => simp [Rows.uptoBulk]
  | map entries => simp [Rows.uptoBulk]
  | held h => simp [Rows.uptoBulk]
theorem bulk_len (l : List (DataW H)) : l.length ≤ Rows.uptoBulkAll l := by
  induction l with
  | nil => simp [Rows.uptoBulkAll]
  | cons x r ih => have := bulk_one x; simp only [Rows.uptoBulkAll, List.length_cons]; omega
theorem Lies.elems {P : Program} {t e : TypeId} (ht : P.underlying t = some (.slice e)) (h : Lies P A t cs d) :
    ∃ v css, cs = [v] ∧ Sl A (P.cellsOf e) v css ∧ css.length ≤ Rows.uptoBulk d ∧ ∀ c ∈ css, ∃ d' : DataW H, Rows.uptoBulk d' ≤ Rows.uptoBulk d ∧ Lies P A e c d' := by
  cases h with
  | bool h b => rw [ht] at h; cases h
  | int h => rw [ht] at h; cases h
  | str h s hs => rw [ht] at h; cases h
  | nil h => exact ⟨_, [], rfl, ⟨by simp, .inl ⟨rfl, rfl⟩⟩, by simp, by simp⟩
  | @sl t e2 v css ds rest h hs hl hm hh =>
    rw [ht] at h; cases h
    have hb := bulk_len ds
    refine ⟨v, css, rfl, hs, by simp only [Rows.uptoBulk]; omega, fun c hc => ?_⟩
    obtain ⟨i, hi⟩ := List.getElem?_of_mem hc
    have hd : i < ds.length := by have := (List.getElem?_eq_some_iff.1 hi).1; omega
    have hm2 := bulk_mem (List.getElem_mem hd)
    exact ⟨ds[i], by simp only [Rows.uptoBulk]; omega, hh i c _ hi (List.getElem?_eq_getElem hd)⟩
  | st h => rw [ht] at h; cases h
theorem each_of {α : Type} {enc : α → List Value} {ok : α → Prop} : ∀ {css : List (List Value)}, (∀ c ∈ css, ∃ x : α, c = enc x ∧ ok x) → ∃ l : List α, css = l.map enc ∧ ∀ x ∈ l, ok x
  | [], _ => ⟨[], rfl, by simp⟩
  | c :: cs, h => by
    obtain ⟨x, rfl, hx⟩ := h c (by simp)
    obtain ⟨l, rfl, hl⟩ := each_of (css := cs) fun c hc => h c (by simp [hc])
    exact ⟨x :: l, rfl, by simpa using ⟨hx, hl⟩⟩
theorem vecs_of_lies (hb : Rows.uptoBulk d ≤ 1048576) (h : Lies Tryd.prog A 62 cs d) : ∃ (v : Value) (l : List Rv), cs = [v] ∧ Sl A 6 v (l.map Rv.cells) ∧ (∀ x ∈ l, RvOk tabG x 1048576) ∧ l.length ≤ 1048576 := by
  obtain ⟨v, css, rfl, hs, hm, he⟩ := h.elems Tryd.underlying62
  have h6 : Tryd.prog.cellsOf 29 = 6 := by kernel_rfl
  rw [h6] at hs
  obtain ⟨l, rfl, hl⟩ := each_of (enc := Rv.cells) (ok := fun x => RvOk tabG x 1048576) fun c hc => by
    obtain ⟨d', hd1, hd2⟩ := he c hc
    obtain ⟨n0, s0, e0, n1, s1, e1, rfl, b⟩ := vec_of_lies hd2
    obtain ⟨o0, q0, r0⟩ := raw_of (n := n0) (s := s0) (d := e0) (k := 1048576) tabG_tab (by omega) (by omega) (by decide) (by decide)
    obtain ⟨o1, q1, r1⟩ := raw_of (n := n1) (s := s1) (d := e1) (k := 1048576) tabG_tab (by omega) (by omega) (by decide) (by decide)
    exact ⟨⟨n0, s0, e0, n1, s1, e1, q0, q1⟩, rfl, ⟨o0, r0⟩, ⟨o1, r1⟩⟩
  refine ⟨v, l, rfl, hs, hl, ?_⟩
  rw [List.length_map] at hm
  omega
end
end Go.Proofs.YtjkimjmocfjjnaaDoor.Ab
