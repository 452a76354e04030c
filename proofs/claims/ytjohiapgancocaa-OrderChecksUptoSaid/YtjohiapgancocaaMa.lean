/- Orders: Right. -/
import Derived.Test.YtjohiapgancocaaKj
namespace Go.Proofs.Ytjohiapgancocaa.Ab
open Go.RowKit
set_option linter.unusedVariables false
set_option linter.unusedSimpArgs false
set_option maxRecDepth 100000

/-- Is the j-th of a permutation in its place. -/
def okJ (ls : List (List Int)) (p : List Int) (j : Nat) : Bool :=
  decide (0 ≤ p.getD j 0 ∧ p.getD j 0 < ls.length ∧ p.getD j 0 ∉ p.take j ∧ ∀ x ∈ ls.getD (p.getD j 0).toNat [], x ∈ p.take j)
def rightB (ls : List (List Int)) (p : List Int) : Bool := decide (befF ls = 0 ∧ p.length = ls.length) && (List.range p.length).all (okJ ls p)
section
variable {G : Gl} {fl : Nat} {A : Hp}
set_option maxHeartbeats 4000000 in
theorem right_ok {v u : Value} {ls : List (List Int)} {p : List Int} (h : Nst A v ls) (hmx : ∀ k, k < ls.length → (ls.getD k []).length ≤ 1048576) (hu : Sl A 1 u (p.map iC)) (hlp : p.length ≤ 1048576) :
    Sound Try.prog G 37 [v, u] fl A (.bool (rightB ls p)) A := by
  refine Sound.of mixed Try.func37 Try.ntmps37 Try.results37 (by kernel_rfl) rfl (by kernel_rfl) (by kernel_rfl) fun hA => ?_
  have cc := fun fl => check_ok (G := G) (fl := fl) h (fun k hk => Nat.le_trans (hmx k hk) (by decide))
  obtain ⟨vs, hs, hl, hr⟩ := h
  obtain ⟨o, c, rfl⟩ := hs.len
  rw [List.length_map, hl] at hs cc ⊢
  obtain ⟨o2, c2, rfl⟩ := hu.len
  rw [List.length_map] at hu ⊢
  have fin : ∀ (x : Bool) (B : Hp), Xt A.next A B → x = rightB ls p → Ended A (.bool x) B (.bool (rightB ls p)) A := fun x B hx h => Ended.back hA hx (congrArg _ h) (RB.bool _)
  have bad : ¬ (befF ls = 0 ∧ p.length = ls.length) → (false : Bool) = rightB ls p := fun h => by rw [rightB, decide_eq_false h, Bool.false_and]
  have cN : ∀ m n : Nat, ((m : Int) = (n : Int)) = (m = n) := fun m n => propext (by omega)
  simp only [↓R1, R2, R3, R4, TY, reduceIte, Nat.reduceEqDiff, Nat.reduceAdd, Nat.reduceMul, Nat.reduceLT, Nat.reduceLeDiff, reduceCtorEq, decide_true, decide_false, Int.reduceLE, Int.reduceLT, Int.reduceToNat, Int.reduceAdd, Int.reduceSub, Int.reduceMul, Int.reduceEq, FE, cN]
  refine call_of (cc _) ?_
  simp only [↓R1, R2, R3, R4, TY, reduceIte, Nat.reduceEqDiff, Nat.reduceAdd, Nat.reduceMul, Nat.reduceLT, Nat.reduceLeDiff, reduceCtorEq, decide_true, decide_false, Int.reduceLE, Int.reduceLT, Int.reduceToNat, Int.reduceAdd, Int.reduceSub, Int.reduceMul, Int.reduceEq, FE, cN]
  refine ⟨fun h0 => ⟨fun h1 => ?_, fun h1 => fin _ _ (Xt.refl _) (bad fun h => h1 h.2)⟩, fun h0 => fin _ _ (Xt.refl _) (bad fun h => h0 h.1)⟩
  have hn := (befF_dag h0).len
  have hdag := (befF_dag h0).el
  have hgood : rightB ls p = (List.range p.length).all (okJ ls p) := by rw [rightB, decide_eq_true ⟨h0, h1⟩, Bool.true_and]
  have badJ : ∀ j, j < p.length → okJ ls p j = false → (false : Bool) = rightB ls p := fun j hj h => by
    rw [hgood, eq_comm, List.all_eq_false]
    exact ⟨j, List.mem_range.2 hj, by simp [h]⟩
  refine range_of 22 p.length (fun j τ B => ∃ sb, Xt A.next A B ∧ Acn B A.next 1 sb ((p.take j).map iC) ∧ (List.range j).all (okJ ls p) = true ∧ τ 0 = some (.slice o ls.length c) ∧ τ 5 = some sb ∧ τ 20 = some (.slice o2 p.length c2) ∧ τ 21 = some (.int .i64 p.length) ∧ τ 22 = some (.int .i64 (j : Nat))) ?_ ?_
  · exact ⟨_, Xt.refl A, Acn.none, rfl, rfl, rfl, rfl, rfl, rfl⟩
  rintro j τ B hj ⟨sb, hx, hac, hall, q0, q5, q20, q21, q22⟩
  simp only [↓R1, R2, R3, R4, TY, reduceIte, Nat.reduceEqDiff, Nat.reduceAdd, Nat.reduceMul, Nat.reduceLT, Nat.reduceLeDiff, reduceCtorEq, decide_true, decide_false, Int.reduceLE, Int.reduceLT, Int.reduceToNat, Int.reduceAdd, Int.reduceSub, Int.reduceMul, Int.reduceEq, FE, q0, q5, q20, q21, q22]
  refine ⟨fun hlt => ?_, fun hlt => ?_⟩
  rotate_left
  · obtain rfl : j = p.length := by omega
    exact fin _ _ hx (by rw [hgood, hall])
  obtain ⟨a2, rfl, -⟩ := hu.at (G := G) (i := j) (by simpa using hlt)
  have huB := hu.xt hA hx
  have hab2 : a2.block < B.next := Nat.lt_of_lt_of_le (hu.lt hA) hx.next
  have hfl : fl ≤ B.next := Nat.le_trans hA.floor hx.next
  have u2 := int_get (G := G) huB hlt
  have k22 := q22
  have hj63 : j < 9223372036854775807 := by omega
  obtain ⟨x, hxe⟩ : ∃ x, x = p[j] := ⟨_, rfl⟩
  rw [← hxe] at u2
  have hgd : p.getD j 0 = x := by rw [getD_at hlt, hxe]
  have hok : okJ ls p j = decide (0 ≤ x ∧ x < ls.length ∧ x ∉ p.take j ∧ ∀ y ∈ ls.getD x.toNat [], y ∈ p.take j) := by rw [okJ, hgd]
  have ct := fun fl y => icontains_ok (G := G) (fl := fl) hac.sl (by simp; omega) y
  simp only [↓R1, R2, R3, R4, TY, reduceIte, Nat.reduceEqDiff, Nat.reduceAdd, Nat.reduceMul, Nat.reduceLT, Nat.reduceLeDiff, reduceCtorEq, decide_true, decide_false, Int.reduceLE, Int.reduceLT, Int.reduceToNat, Int.reduceAdd, Int.reduceSub, Int.reduceMul, Int.reduceEq, FE, q0, q5, q20, q21, q22, hlt, hab2, hfl, u2, hj63, Nat.mul_one]
  refine ⟨fun g1 => fin _ _ hx (badJ j hlt (by rw [hok]; exact decide_eq_false fun h => by omega)), fun g1 => ⟨fun g2 => fin _ _ hx (badJ j hlt (by rw [hok]; exact decide_eq_false fun h => by omega)), fun g2 => ?_⟩⟩
  refine call_of (ct _ _) ?_
  by_cases g3 : x ∈ p.take j
  · have f3 : (x ∈ p.take j) = True := eq_true g3
    simp only [↓R1, R2, R3, R4, TY, reduceIte, Nat.reduceEqDiff, Nat.reduceAdd, Nat.reduceMul, Nat.reduceLT, Nat.reduceLeDiff, reduceCtorEq, decide_true, decide_false, Int.reduceLE, Int.reduceLT, Int.reduceToNat, Int.reduceAdd, Int.reduceSub, Int.reduceMul, Int.reduceEq, FE, f3]
    exact fin _ _ hx (badJ j hlt (by rw [hok]; exact decide_eq_false fun h => h.2.2.1 g3))
  have f3 : (x ∈ p.take j) = False := eq_false g3
  obtain ⟨k, hk⟩ : ∃ k : Nat, x = k := ⟨x.toNat, by omega⟩
  subst hk
  have hkl : k < ls.length := by omega
  obtain ⟨a, rfl, -⟩ := hs.at (G := G) (i := k) (by simpa [hl] using hkl)
  have hab : a.block < B.next := Nat.lt_of_lt_of_le (hs.lt hA) hx.next
  have u0 := row_get (G := G) (hs.xt hA hx) (i := k) (by omega)
  have hsr0 := hr k (by omega) hkl
  obtain ⟨o1, c1, e1⟩ := hsr0.len
  rw [e1, List.length_map] at hsr0
  rw [e1, List.length_map] at u0
  have hsr := hsr0.xt hA hx
  have hL := hmx k hkl
  rw [getD_row hkl] at hL
  rw [Int.toNat_natCast, getD_row hkl] at hok
  generalize hrw : ls[k] = l at *
  have hk0 : (0 : Int) ≤ (k : Int) := by omega
  simp only [↓R1, R2, R3, R4, TY, reduceIte, Nat.reduceEqDiff, Nat.reduceAdd, Nat.reduceMul, Nat.reduceLT, Nat.reduceLeDiff, reduceCtorEq, decide_true, decide_false, Int.reduceLE, Int.reduceLT, Int.reduceToNat, Int.reduceAdd, Int.reduceSub, Int.reduceMul, Int.reduceEq, FE, f3, q0, q5, q20, q21, q22, hlt, hab, u0, hkl, hk0, Nat.mul_one]
  refine range_of 44 l.length (fun i τ C => C = B ∧ (∀ y ∈ l.take i, y ∈ p.take j) ∧ τ 0 = some (.slice (some a) ls.length c) ∧ τ 5 = some sb ∧ τ 7 = some (.int .i64 (k : Nat)) ∧ τ 20 = some (.slice (some a2) p.length c2) ∧ τ 21 = some (.int .i64 p.length) ∧ τ 22 = some (.int .i64 (j : Nat)) ∧
    τ 42 = some (.slice o1 l.length c1) ∧ τ 43 = some (.int .i64 l.length) ∧ τ 44 = some (.int .i64 (i : Nat))) ?_ ?_
  · exact ⟨rfl, by simp, q0, q5, rfl, q20, q21, q22, rfl, rfl, rfl⟩
  clear q0 q5 q20 q21 q22
  rintro i σ C hi ⟨rfl, hin, q0, q5, q7, q20, q21, q22, q42, q43, q44⟩
  simp only [↓R1, R2, R3, R4, TY, reduceIte, Nat.reduceEqDiff, Nat.reduceAdd, Nat.reduceMul, Nat.reduceLT, Nat.reduceLeDiff, reduceCtorEq, decide_true, decide_false, Int.reduceLE, Int.reduceLT, Int.reduceToNat, Int.reduceAdd, Int.reduceSub, Int.reduceMul, Int.reduceEq, FE, q0, q5, q7, q20, q21, q22, q42, q43, q44]
  refine ⟨fun hil => ?_, fun hil => ?_⟩
  · obtain ⟨a1, rfl, -⟩ := hsr.at (G := G) (i := i) (by simpa using hil)
    have hab1 : a1.block < C.next := Nat.lt_of_lt_of_le (hsr0.lt hA) hx.next
    have u1 := int_get (G := G) hsr hil
    have hi63 : i < 9223372036854775807 := by omega
    have k44 := q44
    simp only [↓R1, R2, R3, R4, TY, reduceIte, Nat.reduceEqDiff, Nat.reduceAdd, Nat.reduceMul, Nat.reduceLT, Nat.reduceLeDiff, reduceCtorEq, decide_true, decide_false, Int.reduceLE, Int.reduceLT, Int.reduceToNat, Int.reduceAdd, Int.reduceSub, Int.reduceMul, Int.reduceEq, FE, q0, q5, q7, q20, q21, q22, q42, q43, q44, hil, hab1, u1, hi63, Nat.mul_one]
    refine call_of (ct _ _) ?_
    by_cases g4 : l[i] ∈ p.take j
    · have f4 : (l[i] ∈ p.take j) = True := eq_true g4
      simp only [↓R1, R2, R3, R4, TY, reduceIte, Nat.reduceEqDiff, Nat.reduceAdd, Nat.reduceMul, Nat.reduceLT, Nat.reduceLeDiff, reduceCtorEq, decide_true, decide_false, Int.reduceLE, Int.reduceLT, Int.reduceToNat, Int.reduceAdd, Int.reduceSub, Int.reduceMul, Int.reduceEq, FE, f4, q0, q5, q7, q20, q21, q22, q42, q43, q44, hi63]
      refine range_on k44 hil rfl ⟨rfl, ?_, q0, q5, q7, q20, q21, q22, q42, q43, rfl⟩
      rw [List.take_succ_eq_append_getElem hil]
      intro y hy
      rcases List.mem_append.1 hy with hy | hy
      · exact hin y hy
      · rw [List.mem_singleton] at hy; subst hy; exact g4
    · have f4 : (l[i] ∈ p.take j) = False := eq_false g4
      simp only [↓R1, R2, R3, R4, TY, reduceIte, Nat.reduceEqDiff, Nat.reduceAdd, Nat.reduceMul, Nat.reduceLT, Nat.reduceLeDiff, reduceCtorEq, decide_true, decide_false, Int.reduceLE, Int.reduceLT, Int.reduceToNat, Int.reduceAdd, Int.reduceSub, Int.reduceMul, Int.reduceEq, FE, f4, q0, q5, q7, q20, q21, q22, q42, q43, q44, hi63]
      exact fin _ _ hx (badJ j hlt (by rw [hok]; exact decide_eq_false fun h => g4 (h.2.2.2 _ (List.getElem_mem hil))))
  · have hil' : i = l.length := by omega
    subst hil'
    rw [List.take_length] at hin
    have hz1 : zl [Value.int .i64 0] 1 = [Value.int .i64 0] := rfl
    simp only [↓R1, R2, R3, R4, TY, reduceIte, Nat.reduceEqDiff, Nat.reduceAdd, Nat.reduceMul, Nat.reduceLT, Nat.reduceLeDiff, reduceCtorEq, decide_true, decide_false, Int.reduceLE, Int.reduceLT, Int.reduceToNat, Int.reduceAdd, Int.reduceSub, Int.reduceMul, Int.reduceEq, FE, hz1, q0, q5, q7, q20, q21, q22, q42, q43, q44]
    refine app1 (lo := A.next) (sz := 1) (cl := iC (k : Int)) ty40 rfl ty3 rfl (by omega) rfl hac hA.floor hx.next rfl (by simp [iC, Value.oneCell']) (by simp; omega) (by simp; omega) ?_
    intro sb' D hac' hxD hnD hfD hidD
    have hxAD : Xt A.next A D := ⟨fun id hid => (hxD.blk id hid).trans (hx.blk id hid), by have := hx.next; omega⟩
    simp only [↓R1, R2, R3, R4, TY, reduceIte, Nat.reduceEqDiff, Nat.reduceAdd, Nat.reduceMul, Nat.reduceLT, Nat.reduceLeDiff, reduceCtorEq, decide_true, decide_false, Int.reduceLE, Int.reduceLT, Int.reduceToNat, Int.reduceAdd, Int.reduceSub, Int.reduceMul, Int.reduceEq, FE, q0, q5, q7, q20, q21, q22, q42, q43, q44, hj63]
    refine range_on k22 hlt rfl ⟨sb', hxAD, ?_, ?_, q0, rfl, q20, q21, rfl⟩
    · rw [List.take_succ_eq_append_getElem hlt, List.map_append, ← hxe]; exact hac'
    · rw [List.range_succ, List.all_append, hall]
      simp only [List.all_cons, List.all_nil, Bool.and_true, Bool.true_and]
      rw [hok]
      exact decide_eq_true ⟨hk0, by omega, g3, hin⟩
end
end Go.Proofs.Ytjohiapgancocaa.Ab
