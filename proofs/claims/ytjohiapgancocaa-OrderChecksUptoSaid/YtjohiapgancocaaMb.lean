/- Orders: the reference's Right. -/
import Derived.Test.YtjohiapgancocaaMa
namespace Go.Proofs.Ytjohiapgancocaa.Ab
open Go.RowKit
set_option linter.unusedVariables false
set_option linter.unusedSimpArgs false
set_option maxRecDepth 100000

/-- What a map says of a key after a key's value is set. -/
theorem lfind_new {α : Type} [DecidableEq α] {x y : α} {nv : Value} {b : Nat} : ∀ {L : List (α × Value × Nat)} {i : Nat}, lfind y L i = none → (lfind x (L ++ [(y, nv, b)]) i).map (·.2) = if x = y then some nv else (lfind x L i).map (·.2)
  | [], i, h => by simp only [List.nil_append, lfind]; split <;> simp
  | e :: L, i, h => by
    simp only [lfind] at h
    split at h
    · cases h
    · rename_i hne
      simp only [List.cons_append, lfind]
      split
      · rename_i he
        rw [if_neg (fun h' => hne (by rw [← h', he]))]
      · exact lfind_new h
theorem lfind_set {α : Type} [DecidableEq α] {x y : α} {nv : Value} : ∀ {L : List (α × Value × Nat)} {i j : Nat} {v : Value}, lfind y L i = some (j, v) → (lfind x (L.modify (j - i) fun e => (y, nv, e.2.2)) i).map (·.2) = if x = y then some nv else (lfind x L i).map (·.2)
  | [], i, j, v, h => by simp [lfind] at h
  | e :: L, i, j, v, h => by
    simp only [lfind] at h
    split at h
    · rename_i he
      cases h
      rw [Nat.sub_self, List.modify_zero_cons]
      simp only [lfind]
      by_cases hxy : x = y
      · rw [if_pos hxy, if_pos hxy]; rfl
      · rw [if_neg hxy, if_neg hxy, if_neg (fun h' => hxy (by rw [h', ← he]))]
    · rename_i hne
      obtain ⟨b, h1, -⟩ := lfind_some h
      obtain ⟨d, hd⟩ : ∃ d, j - i = d + 1 := ⟨j - i - 1, by omega⟩
      rw [hd, List.modify_succ_cons]
      simp only [lfind]
      have ih := lfind_set (x := x) (nv := nv) h
      rw [show j - (i + 1) = d by omega] at ih
      split
      · rename_i he
        rw [if_neg (fun h' => hne (by rw [← h', he]))]
      · exact ih
/-- Where a number stands last. -/
def lastIx (p : List Int) (x : Int) : Option Nat := if x ∈ p then some (p.length - 1 - p.reverse.idxOf x) else none
theorem lastIx_snoc {p : List Int} {y x : Int} : lastIx (p ++ [y]) x = if x = y then some p.length else lastIx p x := by
  unfold lastIx
  by_cases h : x = y
  · subst h; simp
  · rw [if_neg h]
    have hm : x ∈ p ++ [y] ↔ x ∈ p := by simp [h]
    by_cases hp : x ∈ p
    · rw [if_pos (hm.2 hp), if_pos hp, List.reverse_append, List.reverse_singleton, List.singleton_append, List.idxOf_cons, show (y == x) = false by simpa using fun e : y = x => h e.symm, cond_false]
      simp only [List.length_append, List.length_singleton]
      have := List.idxOf_lt_length_of_mem (List.mem_reverse.2 hp)
      rw [List.length_reverse] at this
      congr 1; omega
    · rw [if_neg (fun e => hp (hm.1 e)), if_neg hp]
def atX (p : List Int) (x : Int) : Int := match lastIx p x with | some i => (i : Int) | none => 0
def rokK (ls : List (List Int)) (p : List Int) (k : Nat) : Bool := decide ((k : Int) ∈ p ∧ ∀ x ∈ ls.getD k [], atX p x ≤ atX p (k : Int))
def rightOfB (ls : List (List Int)) (p : List Int) : Bool := decide (befF ls = 0 ∧ p.length = ls.length) && (List.range ls.length).all (rokK ls p)
/-- A map that says where each number stands last. -/
def LastM (L : List (Int × Value × Nat)) (p : List Int) : Prop := ∀ x, (lfind x L 0).map (·.2) = (lastIx p x).map fun i => Value.int .i64 (i : Nat)
theorem LastM.none {L : List (Int × Value × Nat)} {p : List Int} {x : Int} (h : LastM L p) (hx : x ∉ p) : lfind x L 0 = none := by
  have := h x
  rw [lastIx, if_neg hx] at this
  simpa using this
theorem LastM.some {L : List (Int × Value × Nat)} {p : List Int} {x : Int} (h : LastM L p) (hx : x ∈ p) : ∃ i, lfind x L 0 = some (i, .int .i64 (atX p x)) := by
  have := h x
  unfold atX
  cases hl : lastIx p x with
  | none => rw [lastIx, if_pos hx] at hl; cases hl
  | some n =>
    rw [hl] at this
    cases hf : lfind x L 0 with
    | none => rw [hf] at this; cases this
    | some r =>
      obtain ⟨i, v⟩ := r
      rw [hf] at this
      simp only [Option.map_some, Option.some.injEq] at this
      exact ⟨i, by rw [this]⟩
theorem ents_rb {n : Nat} {L : List (Int × Value × Nat)} : True := trivial
section
variable {G : Gl} {fl : Nat} {A : Hp}
set_option maxHeartbeats 4000000 in
theorem rightOf_ok {v u : Value} {ls : List (List Int)} {p : List Int} (h : Nst A v ls) (hmx : ∀ k, k < ls.length → (ls.getD k []).length ≤ 1048576) (hu : Sl A 1 u (p.map iC)) (hlp : p.length ≤ 1048576) :
    Sound Try.prog G 38 [v, u] fl A (.bool (rightOfB ls p)) A := by
  refine Sound.of mixed Try.func38 Try.ntmps38 Try.results38 (by kernel_rfl) rfl (by kernel_rfl) (by kernel_rfl) fun hA => ?_
  have cc := fun fl => bfault_ok (G := G) (fl := fl) h (fun k hk => Nat.le_trans (hmx k hk) (by decide))
  obtain ⟨vs, hs, hl, hr⟩ := h
  obtain ⟨o, c, rfl⟩ := hs.len
  rw [List.length_map, hl] at hs cc ⊢
  obtain ⟨o2, c2, rfl⟩ := hu.len
  rw [List.length_map] at hu ⊢
  have fin : ∀ (x : Bool) (B : Hp), Xt A.next A B → x = rightOfB ls p → Ended A (.bool x) B (.bool (rightOfB ls p)) A := fun x B hx h => Ended.back hA hx (congrArg _ h) (RB.bool _)
  have bad : ¬ (befF ls = 0 ∧ p.length = ls.length) → (false : Bool) = rightOfB ls p := fun h => by rw [rightOfB, decide_eq_false h, Bool.false_and]
  have cN : ∀ m n : Nat, ((m : Int) = (n : Int)) = (m = n) := fun m n => propext (by omega)
  simp only [↓R1, R2, R3, R4, TY, reduceIte, Nat.reduceEqDiff, Nat.reduceAdd, Nat.reduceMul, Nat.reduceLT, Nat.reduceLeDiff, reduceCtorEq, decide_true, decide_false, Int.reduceLE, Int.reduceLT, Int.reduceToNat, Int.reduceAdd, Int.reduceSub, Int.reduceMul, Int.reduceEq, FE, cN]
  refine call_of (cc _) ?_
  simp only [↓R1, R2, R3, R4, TY, reduceIte, Nat.reduceEqDiff, Nat.reduceAdd, Nat.reduceMul, Nat.reduceLT, Nat.reduceLeDiff, reduceCtorEq, decide_true, decide_false, Int.reduceLE, Int.reduceLT, Int.reduceToNat, Int.reduceAdd, Int.reduceSub, Int.reduceMul, Int.reduceEq, FE, cN]
  refine ⟨fun h0 => ⟨fun h1 => ?_, fun h1 => fin _ _ (Xt.refl _) (bad fun h => h1 h.2)⟩, fun h0 => fin _ _ (Xt.refl _) (bad fun h => h0 h.1)⟩
  have hn := (befF_dag h0).len
  have hgood : rightOfB ls p = (List.range ls.length).all (rokK ls p) := by rw [rightOfB, decide_eq_true ⟨h0, h1⟩, Bool.true_and]
  have badK : ∀ k, k < ls.length → rokK ls p k = false → (false : Bool) = rightOfB ls p := fun k hk h => by
    rw [hgood, eq_comm, List.all_eq_false]
    exact ⟨k, List.mem_range.2 hk, by simp [h]⟩
  have hfl := hA.floor
  refine range_of 27 p.length (fun j τ B => ∃ L ck, Xt A.next A B ∧ A.next < B.next ∧ B.blk A.next = some (.mp (ents (Value.int .i64) L) ck) ∧ LastM L (p.take j) ∧ τ 0 = some (.slice o ls.length c) ∧ τ 5 = some (.map (some A.next)) ∧
    τ 25 = some (.slice o2 p.length c2) ∧ τ 26 = some (.int .i64 p.length) ∧ τ 27 = some (.int .i64 (j : Nat))) ?_ ?_
  · exact ⟨[], 0, (Xt.refl A).push _, by simp, by simp [Hp.push_blk, ents], fun x => rfl, rfl, rfl, rfl, rfl, rfl⟩
  rintro j τ B hj ⟨L, ck, hx, hn0, hb, hL, q0, q5, q25, q26, q27⟩
  simp only [↓R1, R2, R3, R4, TY, reduceIte, Nat.reduceEqDiff, Nat.reduceAdd, Nat.reduceMul, Nat.reduceLT, Nat.reduceLeDiff, reduceCtorEq, decide_true, decide_false, Int.reduceLE, Int.reduceLT, Int.reduceToNat, Int.reduceAdd, Int.reduceSub, Int.reduceMul, Int.reduceEq, FE, q0, q5, q25, q26, q27]
  refine ⟨fun hlt => ?_, fun hlt => ?_⟩
  · obtain ⟨a2, rfl, -⟩ := hu.at (G := G) (i := j) (by simpa using hlt)
    have huB := hu.xt hA hx
    have hab2 : a2.block < B.next := Nat.lt_of_lt_of_le (hu.lt hA) hx.next
    have u2 := int_get (G := G) huB hlt
    have k27 := q27
    have hj63 : j < 9223372036854775807 := by omega
    have hck := ckK_i p[j]
    have hmf : mfind Try.prog 3 (.int .i64 p[j]) (ents (Value.int .i64) L) 0 = some (lfind p[j] L 0) := mfind_of (key := Value.int .i64) eqD_i _ _ _
    have htk : p.take (j + 1) = p.take j ++ [p[j]] := List.take_succ_eq_append_getElem hlt
    have hjl : (p.take j).length = j := by simp; omega
    cases hf : lfind p[j] L 0 with
    | none =>
      rw [hf] at hmf
      simp only [↓R1, R2, R3, R4, TY, reduceIte, Nat.reduceEqDiff, Nat.reduceAdd, Nat.reduceMul, Nat.reduceLT, Nat.reduceLeDiff, reduceCtorEq, decide_true, decide_false, Int.reduceLE, Int.reduceLT, Int.reduceToNat, Int.reduceAdd, Int.reduceSub, Int.reduceMul, Int.reduceEq, FE, q0, q5, q25, q26, q27, hlt, hab2, u2, hj63, hb, hck, hmf, hfl, Nat.mul_one]
      refine range_on k27 hlt rfl ⟨L ++ [(p[j], .int .i64 (j : Nat), ck)], ck + 1, ⟨fun id hid => ?_, hx.next⟩, hn0, ?_, ?_, q0, q5, q25, q26, rfl⟩
      · rw [Hp.put_blk, if_neg (by omega)]; exact hx.blk id hid
      · rw [Hp.put_blk, if_pos rfl, ← ents_append]
      · intro x
        rw [lfind_new hf, htk, lastIx_snoc, hjl]
        split
        · rfl
        · exact hL x
    | some r =>
      obtain ⟨i, v0⟩ := r
      rw [hf] at hmf
      obtain ⟨b, -, hb2⟩ := lfind_some hf
      rw [Nat.sub_zero] at hb2
      have hkf : kflat (.int .i64 p[j]) = true := rfl
      have hge := ents_get (key := Value.int .i64) hb2
      simp only [↓R1, R2, R3, R4, TY, reduceIte, Nat.reduceEqDiff, Nat.reduceAdd, Nat.reduceMul, Nat.reduceLT, Nat.reduceLeDiff, reduceCtorEq, decide_true, decide_false, Int.reduceLE, Int.reduceLT, Int.reduceToNat, Int.reduceAdd, Int.reduceSub, Int.reduceMul, Int.reduceEq, FE, q0, q5, q25, q26, q27, hlt, hab2, u2, hj63, hb, hck, hmf, hfl, hkf, hge, Nat.mul_one]
      refine range_on k27 hlt rfl ⟨L.modify i (fun e => (p[j], .int .i64 (j : Nat), e.2.2)), ck, ⟨fun id hid => ?_, hx.next⟩, hn0, ?_, ?_, q0, q5, q25, q26, rfl⟩
      · rw [Hp.put_blk, if_neg (by omega)]; exact hx.blk id hid
      · rw [Hp.put_blk, if_pos rfl, ← ents_modify]
      · intro x
        have := lfind_set (x := x) (nv := .int .i64 (j : Nat)) hf
        rw [Nat.sub_zero] at this
        rw [this, htk, lastIx_snoc, hjl]
        split
        · rfl
        · exact hL x
  · obtain rfl : j = p.length := by omega
    rw [List.take_length] at hL
    refine range_of 38 ls.length (fun k τ D => D = B ∧ (List.range k).all (rokK ls p) = true ∧ τ 5 = some (.map (some A.next)) ∧ τ 36 = some (.slice o ls.length c) ∧ τ 37 = some (.int .i64 ls.length) ∧ τ 38 = some (.int .i64 (k : Nat))) ?_ ?_
    · exact ⟨rfl, rfl, q5, rfl, rfl, rfl⟩
    clear q0 q5 q25 q26 q27
    rintro k τ D hk ⟨rfl, hall, q5, q36, q37, q38⟩
    simp only [↓R1, R2, R3, R4, TY, reduceIte, Nat.reduceEqDiff, Nat.reduceAdd, Nat.reduceMul, Nat.reduceLT, Nat.reduceLeDiff, reduceCtorEq, decide_true, decide_false, Int.reduceLE, Int.reduceLT, Int.reduceToNat, Int.reduceAdd, Int.reduceSub, Int.reduceMul, Int.reduceEq, FE, q5, q36, q37, q38]
    refine ⟨fun hlt => ?_, fun hlt => ?_⟩
    rotate_left
    · obtain rfl : k = ls.length := by omega
      exact fin _ _ hx (by rw [hgood, hall])
    obtain ⟨a, rfl, -⟩ := hs.at (G := G) (i := k) (by simpa [hl] using hlt)
    have hab : a.block < D.next := Nat.lt_of_lt_of_le (hs.lt hA) hx.next
    have u0 := row_get (G := G) (hs.xt hA hx) (i := k) (by omega)
    have hsr0 := hr k (by omega) hlt
    obtain ⟨o1, c1, e1⟩ := hsr0.len
    rw [e1, List.length_map] at hsr0
    rw [e1, List.length_map] at u0
    have hsr := hsr0.xt hA hx
    have hL2 := hmx k hlt
    have hrok : rokK ls p k = decide ((k : Int) ∈ p ∧ ∀ x ∈ ls.getD k [], atX p x ≤ atX p (k : Int)) := rfl
    rw [getD_row hlt] at hL2 hrok
    generalize hrw : ls[k] = l at *
    have hk63 : k < 9223372036854775807 := by omega
    have k38 := q38
    have hck := fun x => ckK_i x
    have hmf : ∀ x, mfind Try.prog 3 (.int .i64 x) (ents (Value.int .i64) L) 0 = some (lfind x L 0) := fun x => mfind_of (key := Value.int .i64) eqD_i _ _ _
    by_cases hkp : (k : Int) ∈ p
    rotate_left
    · have hnone := hL.none hkp
      simp only [↓R1, R2, R3, R4, TY, reduceIte, Nat.reduceEqDiff, Nat.reduceAdd, Nat.reduceMul, Nat.reduceLT, Nat.reduceLeDiff, reduceCtorEq, decide_true, decide_false, Int.reduceLE, Int.reduceLT, Int.reduceToNat, Int.reduceAdd, Int.reduceSub, Int.reduceMul, Int.reduceEq, FE, q5, q36, q37, q38, hlt, hab, u0, hk63, hb, hck, hmf, hnone, Nat.mul_one]
      exact fin _ _ hx (badK k hlt (by rw [hrok]; exact decide_eq_false fun h => hkp h.1))
    obtain ⟨ik, hik⟩ := hL.some hkp
    simp only [↓R1, R2, R3, R4, TY, reduceIte, Nat.reduceEqDiff, Nat.reduceAdd, Nat.reduceMul, Nat.reduceLT, Nat.reduceLeDiff, reduceCtorEq, decide_true, decide_false, Int.reduceLE, Int.reduceLT, Int.reduceToNat, Int.reduceAdd, Int.reduceSub, Int.reduceMul, Int.reduceEq, FE, q5, q36, q37, q38, hlt, hab, u0, hk63, hb, hck, hmf, hik, Nat.mul_one]
    refine range_of 53 l.length (fun i τ C => C = D ∧ (∀ x ∈ l.take i, atX p x ≤ atX p (k : Int)) ∧ τ 5 = some (.map (some A.next)) ∧ τ 8 = some (.int .i64 (k : Nat)) ∧ τ 36 = some (.slice (some a) ls.length c) ∧ τ 37 = some (.int .i64 ls.length) ∧ τ 38 = some (.int .i64 (k : Nat)) ∧
      τ 51 = some (.slice o1 l.length c1) ∧ τ 52 = some (.int .i64 l.length) ∧ τ 53 = some (.int .i64 (i : Nat))) ?_ ?_
    · exact ⟨rfl, by simp, q5, rfl, q36, q37, q38, rfl, rfl, rfl⟩
    clear q5 q36 q37 q38
    rintro i σ C hi ⟨rfl, hin, q5, q8, q36, q37, q38, q51, q52, q53⟩
    simp only [↓R1, R2, R3, R4, TY, reduceIte, Nat.reduceEqDiff, Nat.reduceAdd, Nat.reduceMul, Nat.reduceLT, Nat.reduceLeDiff, reduceCtorEq, decide_true, decide_false, Int.reduceLE, Int.reduceLT, Int.reduceToNat, Int.reduceAdd, Int.reduceSub, Int.reduceMul, Int.reduceEq, FE, q5, q8, q36, q37, q38, q51, q52, q53, hk63]
    refine ⟨fun hil => ?_, fun hil => ?_⟩
    · obtain ⟨a1, rfl, -⟩ := hsr.at (G := G) (i := i) (by simpa using hil)
      have hab1 : a1.block < C.next := Nat.lt_of_lt_of_le (hsr0.lt hA) hx.next
      have u1 := int_get (G := G) hsr hil
      have hi63 : i < 9223372036854775807 := by omega
      have k53 := q53
      have badx : ¬ atX p l[i] ≤ atX p (k : Int) → (false : Bool) = rightOfB ls p := fun h => badK k hlt (by rw [hrok]; exact decide_eq_false fun h' => h (h'.2 _ (List.getElem_mem hil)))
      have onx : atX p l[i] ≤ atX p (k : Int) → ∀ x ∈ l.take (i + 1), atX p x ≤ atX p (k : Int) := fun h x hx => by
        rw [List.take_succ_eq_append_getElem hil] at hx
        rcases List.mem_append.1 hx with hx | hx
        · exact hin x hx
        · rw [List.mem_singleton] at hx; subst hx; exact h
      by_cases hxp : l[i] ∈ p
      · obtain ⟨ix, hix⟩ := hL.some hxp
        simp only [↓R1, R2, R3, R4, TY, reduceIte, Nat.reduceEqDiff, Nat.reduceAdd, Nat.reduceMul, Nat.reduceLT, Nat.reduceLeDiff, reduceCtorEq, decide_true, decide_false, Int.reduceLE, Int.reduceLT, Int.reduceToNat, Int.reduceAdd, Int.reduceSub, Int.reduceMul, Int.reduceEq, FE, q5, q8, q36, q37, q38, q51, q52, q53, hil, hab1, u1, hi63, hb, hck, hmf, hik, hix, Nat.mul_one]
        refine ⟨fun hg => ?_, fun hg => ?_⟩
        · exact fin _ _ hx (badx (by omega))
        · exact range_on k53 hil rfl ⟨rfl, onx (by omega), q5, q8, q36, q37, q38, q51, q52, rfl⟩
      · have hix := hL.none hxp
        have e0 : atX p l[i] = 0 := by unfold atX; rw [lastIx, if_neg hxp]
        simp only [↓R1, R2, R3, R4, TY, reduceIte, Nat.reduceEqDiff, Nat.reduceAdd, Nat.reduceMul, Nat.reduceLT, Nat.reduceLeDiff, reduceCtorEq, decide_true, decide_false, Int.reduceLE, Int.reduceLT, Int.reduceToNat, Int.reduceAdd, Int.reduceSub, Int.reduceMul, Int.reduceEq, FE, q5, q8, q36, q37, q38, q51, q52, q53, hil, hab1, u1, hi63, hb, hck, hmf, hik, hix, Nat.mul_one]
        refine ⟨fun hg => ?_, fun hg => ?_⟩
        · exact fin _ _ hx (badx (by omega))
        · exact range_on k53 hil rfl ⟨rfl, onx (by omega), q5, q8, q36, q37, q38, q51, q52, rfl⟩
    · obtain rfl : i = l.length := by omega
      rw [List.take_length] at hin
      refine range_on k38 hlt rfl ⟨rfl, ?_, q5, q36, q37, rfl⟩
      rw [List.range_succ, List.all_append, hall]
      simp only [List.all_cons, List.all_nil, Bool.and_true, Bool.true_and]
      rw [hrok]
      exact decide_eq_true ⟨hkp, hin⟩
end
end Go.Proofs.Ytjohiapgancocaa.Ab
