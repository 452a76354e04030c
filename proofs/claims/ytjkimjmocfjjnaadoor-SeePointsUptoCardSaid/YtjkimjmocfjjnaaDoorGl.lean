/- What lies in the cells of numbers, spans, poses and frames, and how large it is. -/
import Derived.Test.YtjkimjmocfjjnaaDoorGc
import Derived.Test.YtjkimjmocfjjnaaDoorAb21
import Derived.Test.YtjkimjmocfjjnaaDoorRows
namespace Go.Proofs.YtjkimjmocfjjnaaDoor.Ab
open Go.RowKit
set_option linter.unusedVariables false
set_option linter.unusedSimpArgs false
set_option maxRecDepth 100000

section
variable {H : Type} {A : Hp} {cs : List Value} {d : DataW H}
theorem bulk_mem {l : List (DataW H)} (h : d ∈ l) : Rows.uptoBulk d ≤ Rows.uptoBulkAll l := by
  induction l with
  | nil => cases h
  | cons x r ih =>
    simp only [Rows.uptoBulkAll]
    cases List.mem_cons.1 h with
    | inl e => subst e; omega
    | inr e => have := ih e; omega
theorem Lies.parts {P : Program} {t : TypeId} {fs : Array Field} (ht : P.underlying t = some (.struct fs)) (h : Lies P A t cs d) :
    cs.length = P.cellsOf t ∧ ∀ (i : Nat) (f : Field), fs[i]? = some f → ∃ d' : DataW H, Rows.uptoBulk d' ≤ Rows.uptoBulk d ∧ Lies P A f.type ((cs.drop f.offset).take (P.cellsOf f.type)) d' := by
  cases h with
  | bool h b => rw [ht] at h; cases h
  | int h => rw [ht] at h; cases h
  | str h s hs => rw [ht] at h; cases h
  | nil h => rw [ht] at h; cases h
  | sl h => rw [ht] at h; cases h
  | @st t fs2 cs ds h hl hc hh =>
    rw [ht] at h; cases h
    refine ⟨hc, fun i f hf => ?_⟩
    have hi : i < fs.size := (Array.getElem?_eq_some_iff.1 hf).1
    have hd : i < ds.length := by omega
    refine ⟨ds[i], ?_, hh i f _ hf (List.getElem?_eq_getElem hd)⟩
    have := bulk_mem (List.getElem_mem hd)
    simp only [Rows.uptoBulk]
    omega
theorem str_of_lies (h : Lies Tryd.prog A 9 cs d) : ∃ s : List UInt8, cs = [.string (S s)] ∧ s.length ≤ Rows.uptoBulk d := by
  obtain ⟨s, rfl, rfl, -⟩ := h.str_inv Tryd.underlying9
  exact ⟨s.data.toList, by rw [← S_eq], by simp [Rows.uptoBulk]⟩
theorem bool_of_lies (h : Lies Tryd.prog A 4 cs d) : ∃ b, cs = [.bool b] := by
  obtain ⟨b, rfl, rfl⟩ := h.bool_inv Tryd.underlying4
  exact ⟨b, rfl⟩
theorem rat_of_lies (h : Lies Tryd.prog A 23 cs d) : ∃ (b_0 : Bool) (s_1 : List UInt8) (s_2 : List UInt8), cs = [.bool b_0, .string (S s_1), .string (S s_2)] ∧ s_1.length ≤ Rows.uptoBulk d ∧ s_2.length ≤ Rows.uptoBulk d := by
  obtain ⟨hl, hf⟩ := h.parts Tryd.underlying23
  have hn : Tryd.prog.cellsOf 23 = 3 := by kernel_rfl
  rw [hn] at hl
  match cs, hl with
  | [y0, y1, y2], _ =>
    obtain ⟨d0, b0, l0⟩ := hf 0 _ rfl
    have c0 : Tryd.prog.cellsOf 4 = 1 := by kernel_rfl
    change Lies Tryd.prog A 4 (([y0, y1, y2].drop 0).take (Tryd.prog.cellsOf 4)) d0 at l0
    rw [c0] at l0
    simp only [List.drop_zero, List.drop_succ_cons, List.take_succ_cons, List.take_zero] at l0
    obtain ⟨d1, b1, l1⟩ := hf 1 _ rfl
    have c1 : Tryd.prog.cellsOf 9 = 1 := by kernel_rfl
    change Lies Tryd.prog A 9 (([y0, y1, y2].drop 1).take (Tryd.prog.cellsOf 9)) d1 at l1
    rw [c1] at l1
    simp only [List.drop_zero, List.drop_succ_cons, List.take_succ_cons, List.take_zero] at l1
    obtain ⟨d2, b2, l2⟩ := hf 2 _ rfl
    have c2 : Tryd.prog.cellsOf 9 = 1 := by kernel_rfl
    change Lies Tryd.prog A 9 (([y0, y1, y2].drop 2).take (Tryd.prog.cellsOf 9)) d2 at l2
    rw [c2] at l2
    simp only [List.drop_zero, List.drop_succ_cons, List.take_succ_cons, List.take_zero] at l2
    obtain ⟨b_0, h0⟩ := bool_of_lies l0
    simp only [List.cons.injEq, and_true] at h0
    subst h0
    obtain ⟨s_1, h1, z1⟩ := str_of_lies l1
    simp only [List.cons.injEq, and_true] at h1
    subst h1
    obtain ⟨s_2, h2, z2⟩ := str_of_lies l2
    simp only [List.cons.injEq, and_true] at h2
    subst h2
    refine ⟨b_0, s_1, s_2, rfl, ?_, ?_⟩ <;> omega
theorem span_of_lies (h : Lies Tryd.prog A 25 cs d) : ∃ (b_0_0 : Bool) (s_1_0 : List UInt8) (s_2_0 : List UInt8) (b_0_1 : Bool) (s_1_1 : List UInt8) (s_2_1 : List UInt8), cs = [.bool b_0_0, .string (S s_1_0), .string (S s_2_0), .bool b_0_1, .string (S s_1_1), .string (S s_2_1)] ∧ s_1_0.length ≤ Rows.uptoBulk d ∧ s_2_0.length ≤ Rows.uptoBulk d ∧ s_1_1.length ≤ Rows.uptoBulk d ∧ s_2_1.length ≤ Rows.uptoBulk d := by
  obtain ⟨hl, hf⟩ := h.parts Tryd.underlying25
  have hn : Tryd.prog.cellsOf 25 = 6 := by kernel_rfl
  rw [hn] at hl
  match cs, hl with
  | [y0, y1, y2, y3, y4, y5], _ =>
    obtain ⟨d0, b0, l0⟩ := hf 0 _ rfl
    have c0 : Tryd.prog.cellsOf 23 = 3 := by kernel_rfl
    change Lies Tryd.prog A 23 (([y0, y1, y2, y3, y4, y5].drop 0).take (Tryd.prog.cellsOf 23)) d0 at l0
    rw [c0] at l0
    simp only [List.drop_zero, List.drop_succ_cons, List.take_succ_cons, List.take_zero] at l0
    obtain ⟨d1, b1, l1⟩ := hf 1 _ rfl
    have c1 : Tryd.prog.cellsOf 23 = 3 := by kernel_rfl
    change Lies Tryd.prog A 23 (([y0, y1, y2, y3, y4, y5].drop 3).take (Tryd.prog.cellsOf 23)) d1 at l1
    rw [c1] at l1
    simp only [List.drop_zero, List.drop_succ_cons, List.take_succ_cons, List.take_zero] at l1
    obtain ⟨b_0_0, s_1_0, s_2_0, h0, z0⟩ := rat_of_lies l0
    simp only [List.cons.injEq, and_true] at h0
    obtain ⟨rfl, rfl, rfl⟩ := h0
    obtain ⟨b_0_1, s_1_1, s_2_1, h1, z1⟩ := rat_of_lies l1
    simp only [List.cons.injEq, and_true] at h1
    obtain ⟨rfl, rfl, rfl⟩ := h1
    refine ⟨b_0_0, s_1_0, s_2_0, b_0_1, s_1_1, s_2_1, rfl, ?_, ?_, ?_, ?_⟩ <;> omega
theorem pose_of_lies (h : Lies Tryd.prog A 27 cs d) : ∃ (b_0_0_0 : Bool) (s_1_0_0 : List UInt8) (s_2_0_0 : List UInt8) (b_0_1_0 : Bool) (s_1_1_0 : List UInt8) (s_2_1_0 : List UInt8) (b_0_0_1 : Bool) (s_1_0_1 : List UInt8) (s_2_0_1 : List UInt8) (b_0_1_1 : Bool) (s_1_1_1 : List UInt8) (s_2_1_1 : List UInt8) (b_0_0_2 : Bool) (s_1_0_2 : List UInt8) (s_2_0_2 : List UInt8) (b_0_1_2 : Bool) (s_1_1_2 : List UInt8) (s_2_1_2 : List UInt8), cs = [.bool b_0_0_0, .string (S s_1_0_0), .string (S s_2_0_0), .bool b_0_1_0, .string (S s_1_1_0), .string (S s_2_1_0), .bool b_0_0_1, .string (S s_1_0_1), .string (S s_2_0_1), .bool b_0_1_1, .string (S s_1_1_1), .string (S s_2_1_1), .bool b_0_0_2, .string (S s_1_0_2), .string (S s_2_0_2), .bool b_0_1_2, .string (S s_1_1_2), .string (S s_2_1_2)] ∧ s_1_0_0.length ≤ Rows.uptoBulk d ∧ s_2_0_0.length ≤ Rows.uptoBulk d ∧ s_1_1_0.length ≤ Rows.uptoBulk d ∧ s_2_1_0.length ≤ Rows.uptoBulk d ∧ s_1_0_1.length ≤ Rows.uptoBulk d ∧ s_2_0_1.length ≤ Rows.uptoBulk d ∧ s_1_1_1.length ≤ Rows.uptoBulk d ∧ s_2_1_1.length ≤ Rows.uptoBulk d ∧ s_1_0_2.length ≤ Rows.uptoBulk d ∧ s_2_0_2.length ≤ Rows.uptoBulk d ∧ s_1_1_2.length ≤ Rows.uptoBulk d ∧ s_2_1_2.length ≤ Rows.uptoBulk d := by
  obtain ⟨hl, hf⟩ := h.parts Tryd.underlying27
  have hn : Tryd.prog.cellsOf 27 = 18 := by kernel_rfl
  rw [hn] at hl
  match cs, hl with
  | [y0, y1, y2, y3, y4, y5, y6, y7, y8, y9, y10, y11, y12, y13, y14, y15, y16, y17], _ =>
    obtain ⟨d0, b0, l0⟩ := hf 0 _ rfl
    have c0 : Tryd.prog.cellsOf 25 = 6 := by kernel_rfl
    change Lies Tryd.prog A 25 (([y0, y1, y2, y3, y4, y5, y6, y7, y8, y9, y10, y11, y12, y13, y14, y15, y16, y17].drop 0).take (Tryd.prog.cellsOf 25)) d0 at l0
    rw [c0] at l0
    simp only [List.drop_zero, List.drop_succ_cons, List.take_succ_cons, List.take_zero] at l0
    obtain ⟨d1, b1, l1⟩ := hf 1 _ rfl
    have c1 : Tryd.prog.cellsOf 25 = 6 := by kernel_rfl
    change Lies Tryd.prog A 25 (([y0, y1, y2, y3, y4, y5, y6, y7, y8, y9, y10, y11, y12, y13, y14, y15, y16, y17].drop 6).take (Tryd.prog.cellsOf 25)) d1 at l1
    rw [c1] at l1
    simp only [List.drop_zero, List.drop_succ_cons, List.take_succ_cons, List.take_zero] at l1
    obtain ⟨d2, b2, l2⟩ := hf 2 _ rfl
    have c2 : Tryd.prog.cellsOf 25 = 6 := by kernel_rfl
    change Lies Tryd.prog A 25 (([y0, y1, y2, y3, y4, y5, y6, y7, y8, y9, y10, y11, y12, y13, y14, y15, y16, y17].drop 12).take (Tryd.prog.cellsOf 25)) d2 at l2
    rw [c2] at l2
    simp only [List.drop_zero, List.drop_succ_cons, List.take_succ_cons, List.take_zero] at l2
    obtain ⟨b_0_0_0, s_1_0_0, s_2_0_0, b_0_1_0, s_1_1_0, s_2_1_0, h0, z0⟩ := span_of_lies l0
    simp only [List.cons.injEq, and_true] at h0
    obtain ⟨rfl, rfl, rfl, rfl, rfl, rfl⟩ := h0
    obtain ⟨b_0_0_1, s_1_0_1, s_2_0_1, b_0_1_1, s_1_1_1, s_2_1_1, h1, z1⟩ := span_of_lies l1
    simp only [List.cons.injEq, and_true] at h1
    obtain ⟨rfl, rfl, rfl, rfl, rfl, rfl⟩ := h1
    obtain ⟨b_0_0_2, s_1_0_2, s_2_0_2, b_0_1_2, s_1_1_2, s_2_1_2, h2, z2⟩ := span_of_lies l2
    simp only [List.cons.injEq, and_true] at h2
    obtain ⟨rfl, rfl, rfl, rfl, rfl, rfl⟩ := h2
    refine ⟨b_0_0_0, s_1_0_0, s_2_0_0, b_0_1_0, s_1_1_0, s_2_1_0, b_0_0_1, s_1_0_1, s_2_0_1, b_0_1_1, s_1_1_1, s_2_1_1, b_0_0_2, s_1_0_2, s_2_0_2, b_0_1_2, s_1_1_2, s_2_1_2, rfl, ?_, ?_, ?_, ?_, ?_, ?_, ?_, ?_, ?_, ?_, ?_, ?_⟩ <;> omega
theorem vec_of_lies (h : Lies Tryd.prog A 29 cs d) : ∃ (b_0_0 : Bool) (s_1_0 : List UInt8) (s_2_0 : List UInt8) (b_0_1 : Bool) (s_1_1 : List UInt8) (s_2_1 : List UInt8), cs = [.bool b_0_0, .string (S s_1_0), .string (S s_2_0), .bool b_0_1, .string (S s_1_1), .string (S s_2_1)] ∧ s_1_0.length ≤ Rows.uptoBulk d ∧ s_2_0.length ≤ Rows.uptoBulk d ∧ s_1_1.length ≤ Rows.uptoBulk d ∧ s_2_1.length ≤ Rows.uptoBulk d := by
  obtain ⟨hl, hf⟩ := h.parts Tryd.underlying29
  have hn : Tryd.prog.cellsOf 29 = 6 := by kernel_rfl
  rw [hn] at hl
  match cs, hl with
  | [y0, y1, y2, y3, y4, y5], _ =>
    obtain ⟨d0, b0, l0⟩ := hf 0 _ rfl
    have c0 : Tryd.prog.cellsOf 23 = 3 := by kernel_rfl
    change Lies Tryd.prog A 23 (([y0, y1, y2, y3, y4, y5].drop 0).take (Tryd.prog.cellsOf 23)) d0 at l0
    rw [c0] at l0
    simp only [List.drop_zero, List.drop_succ_cons, List.take_succ_cons, List.take_zero] at l0
    obtain ⟨d1, b1, l1⟩ := hf 1 _ rfl
    have c1 : Tryd.prog.cellsOf 23 = 3 := by kernel_rfl
    change Lies Tryd.prog A 23 (([y0, y1, y2, y3, y4, y5].drop 3).take (Tryd.prog.cellsOf 23)) d1 at l1
    rw [c1] at l1
    simp only [List.drop_zero, List.drop_succ_cons, List.take_succ_cons, List.take_zero] at l1
    obtain ⟨b_0_0, s_1_0, s_2_0, h0, z0⟩ := rat_of_lies l0
    simp only [List.cons.injEq, and_true] at h0
    obtain ⟨rfl, rfl, rfl⟩ := h0
    obtain ⟨b_0_1, s_1_1, s_2_1, h1, z1⟩ := rat_of_lies l1
    simp only [List.cons.injEq, and_true] at h1
    obtain ⟨rfl, rfl, rfl⟩ := h1
    refine ⟨b_0_0, s_1_0, s_2_0, b_0_1, s_1_1, s_2_1, rfl, ?_, ?_, ?_, ?_⟩ <;> omega
end
end Go.Proofs.YtjkimjmocfjjnaaDoor.Ab
