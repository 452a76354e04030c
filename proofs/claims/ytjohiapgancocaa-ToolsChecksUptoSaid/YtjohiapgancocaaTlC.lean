/- Tools: the document's FirstOf. -/
import Derived.Test.YtjohiapgancocaaTlB
namespace Go.Proofs.Ytjohiapgancocaa.Ab
open Go.RowKit
set_option linter.unusedVariables false
set_option linter.unusedSimpArgs false
set_option maxRecDepth 100000

theorem flat1 {α : Type} {f : α → Value} : ∀ xs : List α, (xs.map fun x => [f x]).flatten = xs.map f
  | [] => rfl
  | x :: xs => by simp [flat1 xs]
/-- Where a truth value first stands. -/
def idxB (xs : List Bool) (b : Bool) : Int := if xs.findIdx (fun x => b == x) < xs.length then (xs.findIdx (fun x => b == x) : Int) else -1
theorem idxB_found {xs : List Bool} {b : Bool} {j : Nat} (hj : j < xs.length) (h : (b == xs[j]) = true) (hno : ∀ k (hk : k < j), (b == xs[k]) = false) : idxB xs b = j := by
  have : xs.findIdx (fun x => b == x) = j := (List.findIdx_eq hj).2 ⟨h, fun k hk => hno k hk⟩
  rw [idxB, this, if_pos hj]
theorem idxB_none {xs : List Bool} {b : Bool} (hno : ∀ k (hk : k < xs.length), (b == xs[k]) = false) : idxB xs b = -1 := by
  rw [idxB, if_neg]
  intro h
  have := List.findIdx_getElem (w := h)
  rw [hno] at this; cases this
theorem idxB_nonneg {xs : List Bool} {b : Bool} : 0 ≤ idxB xs b ↔ b ∈ xs := by
  rw [idxB]
  split
  · rename_i h
    refine ⟨fun _ => ?_, fun _ => by omega⟩
    have := List.findIdx_getElem (w := h)
    rw [beq_iff_eq.1 this]
    exact List.getElem_mem _
  · rename_i h
    refine ⟨fun h => by omega, fun hb => ?_⟩
    exact absurd (List.findIdx_lt_length_of_exists ⟨b, hb, by simp⟩) h

section
variable {G : Gl} {fl : Nat} {A : Hp}

theorem indexB_ok {v : Value} {xs : List Bool} {b : Bool} (hl : xs.length < 9223372036854775807) (hs : Sl A 1 v (xs.map fun b => [Value.bool b])) : Sound Try.prog G 55 [v, .bool b] fl A (.int .i64 (idxB xs b)) A := by
  refine Sound.of mixed Try.func55 Try.ntmps55 Try.results55 (by kernel_rfl) rfl (by kernel_rfl) (by kernel_rfl) fun hA => ?_
  obtain ⟨o, c, rfl⟩ := hs.len
  rw [List.length_map] at hs ⊢
  simp only [↓R1, R2, R3, R4, TY, reduceIte, Nat.reduceEqDiff, Nat.reduceAdd, Nat.reduceMul, Nat.reduceLT, Nat.reduceLeDiff, reduceCtorEq, decide_true, decide_false]
  refine range_of 8 xs.length (fun j τ B => B = A ∧ τ 0 = some (.slice o xs.length c) ∧ τ 1 = some (.bool b) ∧ τ 7 = some (.int .i64 xs.length) ∧ τ 8 = some (.int .i64 j) ∧ ∀ k (hk : k < xs.length), k < j → (b == xs[k]) = false) ?_ ?_
  · exact ⟨rfl, rfl, rfl, rfl, rfl, fun k _ h => by omega⟩
  rintro j τ B hj ⟨rfl, h0, h1, h7, h8, hno⟩
  simp only [↓R1, R2, R3, R4, TY, reduceIte, Nat.reduceEqDiff, Nat.reduceAdd, Nat.reduceMul, Nat.reduceLT, Nat.reduceLeDiff, reduceCtorEq, decide_true, decide_false, h0, h1, h7, h8]
  refine ⟨fun hlt => ?_, fun hlt => ?_⟩
  rotate_left
  · refine Ended.back hA (Xt.refl _) (congrArg _ ?_) (RB.int _ _)
    rw [idxB_none fun k hk => hno k hk (by omega)]
  obtain ⟨a, rfl, hg⟩ := hs.at (G := G) (i := j) (by simpa using hlt)
  have g0 : B.get G (aadd a j) = some (.bool xs[j]) := by have := hg 0 (.bool xs[j]) (by simp); simpa using this
  have hj63 : j < 9223372036854775807 := by omega
  simp only [↓R1, R2, R3, R4, TY, reduceIte, Nat.reduceEqDiff, Nat.reduceAdd, Nat.reduceMul, Nat.reduceLT, Nat.reduceLeDiff, reduceCtorEq, decide_true, decide_false, h0, h1, h7, h8, hlt, g0, hj63]
  simp only [brI_any]
  refine ⟨fun ht => ?_, fun hf => ?_⟩
  · simp only [↓R1, R2, R3, R4, TY, reduceIte, Nat.reduceEqDiff, Nat.reduceAdd, Nat.reduceMul, Nat.reduceLT, Nat.reduceLeDiff, reduceCtorEq, decide_true, decide_false, h0, h1, h7, h8]
    refine Ended.back hA (Xt.refl _) (congrArg _ ?_) (RB.int _ _)
    rw [idxB_found hlt ht fun k hk => hno k (by omega) hk]
  · simp only [↓R1, R2, R3, R4, TY, reduceIte, Nat.reduceEqDiff, Nat.reduceAdd, Nat.reduceMul, Nat.reduceLT, Nat.reduceLeDiff, reduceCtorEq, decide_true, decide_false, h0, h1, h7, h8, hj63]
    refine range_on h8 hlt rfl ⟨rfl, h0, h1, h7, rfl, fun k hk hkj => ?_⟩
    by_cases e : k = j
    · subst e; exact hf
    · exact hno k hk (by omega)

theorem containsB_ok {v : Value} {xs : List Bool} {b : Bool} (hl : xs.length < 9223372036854775807) (hs : Sl A 1 v (xs.map fun b => [Value.bool b])) : Sound Try.prog G 43 [v, .bool b] fl A (.bool (decide (b ∈ xs))) A := by
  refine Sound.of mixed Try.func43 Try.ntmps43 Try.results43 (by kernel_rfl) rfl (by kernel_rfl) (by kernel_rfl) fun hA => ?_
  simp only [↓R1, R2, R3, R4, TY, reduceIte, Nat.reduceEqDiff, Nat.reduceAdd, Nat.reduceMul, Nat.reduceLT, Nat.reduceLeDiff, reduceCtorEq, decide_true, decide_false]
  refine call_of (indexB_ok hl hs) ?_
  simp only [↓R1, R2, R3, R4, TY, reduceIte, Nat.reduceEqDiff, Nat.reduceAdd, Nat.reduceMul, Nat.reduceLT, Nat.reduceLeDiff, reduceCtorEq, decide_true, decide_false]
  exact Ended.back hA (Xt.refl _) (congrArg _ (dec_i idxB_nonneg)) (RB.bool _)

/-- Is a tick of a tool used? -/
def onTool (l : List Us) (tool : Int) (k : Nat) : Bool := l.any fun u => decide (u.tool = tool ∧ u.from_ ≤ k ∧ (k : Int) < u.from_ + u.long)
theorem onTool_snoc (l : List Us) (u : Us) (tool : Int) (k : Nat) : onTool (l ++ [u]) tool k = (onTool l tool k || decide (u.tool = tool ∧ u.from_ ≤ k ∧ (k : Int) < u.from_ + u.long)) := by simp [onTool]
/-- Is a tool free from a tick on? -/
def freeAt (l : List Us) (tool : Int) (long at_ : Nat) : Bool := (List.range long).all fun k => !onTool l tool (at_ + k)
/-- The first of n ticks from one on at which a tool is free. -/
def ff (l : List Us) (tool : Int) (long : Nat) : Nat → Nat → Int
  | _, 0 => -1
  | at_, n + 1 => if freeAt l tool long at_ then (at_ : Int) else ff l tool long (at_ + 1) n

theorem firstOf_ok {v : Value} {l : List Us} {tool from_ long : Int} (hl : l.length ≤ 60) (hval : ∀ u ∈ l, u.valid) (u3 : 0 ≤ from_) (u6 : from_ ≤ 1000000) (u4 : 1 ≤ long) (u5 : long ≤ 2000) (hs : Sl A 3 v (l.map Us.cells)) :
    Sound Try.prog G 11 [v, .int .i64 tool, .int .i64 from_, .int .i64 long] fl A (.int .i64 (ff l tool long.toNat from_.toNat (2001 - long - from_).toNat)) A := by
  refine Sound.of mixed Try.func11 Try.ntmps11 Try.results11 (by kernel_rfl) rfl (by kernel_rfl) (by kernel_rfl) fun hA => ?_
  obtain ⟨o, c, rfl⟩ := hs.len
  rw [List.length_map] at hs ⊢
  simp only [↓R1, R2, R3, R4, TY, reduceIte, Nat.reduceEqDiff, Nat.reduceAdd, Nat.reduceMul, Nat.reduceLT, Nat.reduceLeDiff, reduceCtorEq, decide_true, decide_false, all_rep]
  rw [bools_zero]
  generalize hA2 : A.push _ = A2
  have hx2 : Xt A.next A A2 := by rw [← hA2]; simp only [xt_push, xt_refl]
  have hn2 : A2.next = A.next + 1 := by rw [← hA2]; rfl
  refine range_of 16 l.length (fun j τ B => Xt A.next A B ∧ A.next < B.next ∧ B.blk A.next = some (.row (bools 2000 (onTool (l.take j) tool)) 0 1) ∧ τ 9 = some (.pointer (some ⟨A.next, 0, some 0⟩)) ∧
    τ 1 = some (.int .i64 tool) ∧ τ 2 = some (.int .i64 from_) ∧ τ 3 = some (.int .i64 long) ∧ τ 14 = some (.slice o l.length c) ∧ τ 15 = some (.int .i64 l.length) ∧ τ 16 = some (.int .i64 j)) ?_ ?_
  · refine ⟨hx2, by omega, by rw [← hA2]; simp [Hp.push_blk]; rfl, rfl, rfl, rfl, rfl, rfl, rfl, rfl⟩
  rintro j τ B hj ⟨hx, hAB, hblk, h9, h1, h2, h3, h14, h15, h16⟩
  simp only [↓R1, R2, R3, R4, TY, reduceIte, Nat.reduceEqDiff, Nat.reduceAdd, Nat.reduceMul, Nat.reduceLT, Nat.reduceLeDiff, reduceCtorEq, decide_true, decide_false, h9, h1, h2, h3, h14, h15, h16]
  refine ⟨fun hlt => ?_, fun hlt => ?_⟩
  · obtain ⟨a, rfl, -⟩ := hs.at (G := G) (i := j) (by simpa using hlt)
    have hsB := hs.xt hA hx
    have hab : a.block < B.next := Nat.lt_of_lt_of_le (hs.lt hA) hx.next
    have hfl : fl ≤ B.next := Nat.le_trans hA.floor hx.next
    obtain ⟨g0, g1, g2⟩ := us_get (G := G) hsB hlt
    simp only [↓R1, R2, R3, R4, TY, reduceIte, Nat.reduceEqDiff, Nat.reduceAdd, Nat.reduceMul, Nat.reduceLT, Nat.reduceLeDiff, reduceCtorEq, decide_true, decide_false, h9, h1, h2, h3, h14, h15, h16, hlt, hab, hfl, g0, g1, g2]
    generalize hB2 : Hp.put _ _ _ = B2
    have hx2 : Xt A.next A B2 := by rw [← hB2]; simp only [xt_push, xt_put, hx, hx.next]
    have hn2 : B2.next = B.next + 1 := by rw [← hB2]; rfl
    have k0 : B2.get G ⟨B.next, 0, some 0⟩ = some (.int .i64 l[j].tool) ∧ B2.get G ⟨B.next, 1, some 0⟩ = some (.int .i64 l[j].from_) ∧ B2.get G ⟨B.next, 2, some 0⟩ = some (.int .i64 l[j].long) := by
      rw [← hB2]; simp [Hp.get, Hp.put_blk]
    have hblk2 : B2.blk A.next = some (.row (bools 2000 (onTool (l.take j) tool)) 0 1) := by
      rw [← hB2, Hp.put_blk, Hp.push_blk, if_neg (by omega), if_neg (by omega), hblk]
    obtain ⟨v1, v2, v3, v4, v5, v6⟩ := hval l[j] (List.getElem_mem _)
    refine for_of 12 l[j].from_ (if l[j].tool = tool then l[j].long.toNat else 0) (fun i τ C => Xt A.next A C ∧ B.next < C.next ∧ (C.get G ⟨B.next, 0, some 0⟩ = some (.int .i64 l[j].tool) ∧ C.get G ⟨B.next, 1, some 0⟩ = some (.int .i64 l[j].from_) ∧ C.get G ⟨B.next, 2, some 0⟩ = some (.int .i64 l[j].long)) ∧
      (∃ F, C.blk A.next = some (.row (bools 2000 F) 0 1) ∧ ∀ k : Nat, F k = (onTool (l.take j) tool k || decide (l[j].tool = tool ∧ l[j].from_ ≤ k ∧ (k : Int) < l[j].from_ + i))) ∧
      τ 9 = some (.pointer (some ⟨A.next, 0, some 0⟩)) ∧ τ 1 = some (.int .i64 tool) ∧ τ 2 = some (.int .i64 from_) ∧ τ 3 = some (.int .i64 long) ∧ τ 11 = some (.pointer (some ⟨B.next, 0, some 0⟩)) ∧ τ 12 = some (.int .i64 (l[j].from_ + i)) ∧
      τ 14 = some (.slice (some a) l.length c) ∧ τ 15 = some (.int .i64 l.length) ∧ τ 16 = some (.int .i64 j)) ?_ ?_
    · refine ⟨hx2, by omega, k0, ⟨_, hblk2, fun k => by simp; omega⟩, h9, h1, h2, h3, rfl, by simp [upd_eq], h14, h15, h16⟩
    rintro i τ' C hi ⟨hxC, hbC, ⟨m0, m1, m2⟩, ⟨F, hF, hFk⟩, q9, q1, q2, q3, q11, q12, q14, q15, q16⟩
    have hj63 : j < 9223372036854775807 := by omega
    have hw : IntKind.i64.wrap (l[j].from_ + l[j].long) = l[j].from_ + l[j].long := wrapI (by omega)
    have hend : ¬ (l[j].tool = tool ∧ i < l[j].long.toNat) → C.blk A.next = some (.row (bools 2000 (onTool (l.take (j + 1)) tool)) 0 1) := by
      intro hno
      rw [hF]
      congr 2
      refine congrArg _ (funext fun k => ?_)
      rw [hFk, List.take_succ_eq_append_getElem hlt, onTool_snoc]
      congr 1
      refine dec_i ?_
      split at hi <;> omega
    simp only [↓R1, R2, R3, R4, TY, reduceIte, Nat.reduceEqDiff, Nat.reduceAdd, Nat.reduceMul, Nat.reduceLT, Nat.reduceLeDiff, reduceCtorEq, decide_true, decide_false, q9, q1, q2, q3, q11, q12, q14, q15, q16, hj63, hbC, m0, m1, m2, hw]
    refine ⟨fun ht => ⟨fun hil => ?_, fun hil => ?_⟩, fun ht => ?_⟩
    · have hi' : i < l[j].long.toNat := by omega
      have e0 : 0 ≤ l[j].from_ + (i : Int) := by omega
      have e1 : l[j].from_ + (i : Int) < ((2000 : Nat) : Int) := by omega
      have e4 : (l[j].from_ + (i : Int)).toNat + 1 ≤ 2000 := by omega
      have hw2 : IntKind.i64.wrap (l[j].from_ + (i : Int) + 1) = l[j].from_ + ((i + 1 : Nat) : Int) := by rw [wrapI (by omega)]; omega
      simp only [↓R1, R2, R3, R4, TY, reduceIte, Nat.reduceEqDiff, Nat.reduceAdd, Nat.reduceMul, Nat.reduceLT, Nat.reduceLeDiff, reduceCtorEq, decide_true, decide_false, q9, q1, q2, q3, q11, q12, q14, q15, q16, hj63, hbC, m0, m1, m2, hw, e0, e1, e4, hF, bools_length, hA.floor, hw2]
      refine for_on q12 rfl (by rw [if_pos ht]; exact hi') rfl rfl ⟨?_, ?_, ?_, ⟨_, by rw [Hp.put_blk, if_pos rfl, bools_set], ?_⟩, q9, q1, q2, q3, q11, rfl, q14, q15, q16⟩
      · simp only [xt_put, hxC, Nat.le_refl]
      · exact hbC
      · have hne : ¬ B.next = A.next := by omega
        simp only [Hp.get, Hp.put_blk, if_neg hne]
        exact ⟨m0, m1, m2⟩
      · intro k
        simp only [hFk]
        rw [Bool.eq_iff_iff]
        split
        · simp; omega
        · simp only [Bool.or_eq_true, decide_eq_true_eq]
          constructor
          · rintro (h | h)
            · exact .inl h
            · exact .inr (by omega)
          · rintro (h | h)
            · exact .inl h
            · exact .inr (by omega)
    · refine range_on h16 hlt rfl ⟨hxC, by omega, hend (by omega), q9, q1, q2, q3, q14, q15, rfl⟩
    · refine range_on h16 hlt rfl ⟨hxC, by omega, hend (by omega), q9, q1, q2, q3, q14, q15, rfl⟩
  have hjl : j = l.length := by omega
  subst hjl
  rw [List.take_length] at hblk
  generalize hon : onTool l tool = F at hblk
  have hstop : ∀ a, ff l tool long.toNat a 0 = -1 := fun a => rfl
  refine for_of 13 from_ (2001 - long - from_).toNat (fun i τ C => Xt A.next A C ∧ A.next < C.next ∧ C.blk A.next = some (.row (bools 2000 F) 0 1) ∧ τ 9 = some (.pointer (some ⟨A.next, 0, some 0⟩)) ∧
    τ 3 = some (.int .i64 long) ∧ τ 13 = some (.int .i64 (from_ + i)) ∧ ff l tool long.toNat from_.toNat (2001 - long - from_).toNat = ff l tool long.toNat (from_ + i).toNat ((2001 - long - from_).toNat - i)) ?_ ?_
  · refine ⟨hx, hAB, hblk, h9, h3, by simp [upd_eq], by simp⟩
  rintro i τ' C hi ⟨hxC, hAC, hF, q9, q3, q13, hff⟩
  have hw : IntKind.i64.wrap (from_ + (i : Int) + long) = from_ + (i : Int) + long := wrapI (by omega)
  simp only [↓R1, R2, R3, R4, TY, reduceIte, Nat.reduceEqDiff, Nat.reduceAdd, Nat.reduceMul, Nat.reduceLT, Nat.reduceLeDiff, reduceCtorEq, decide_true, decide_false, q9, q3, q13, hw]
  refine ⟨fun hil => ?_, fun hil => ?_⟩
  rotate_left
  · refine Ended.back hA hxC (congrArg _ ?_) (RB.int _ _)
    rw [hff, show (2001 - long - from_).toNat - i = 0 by omega]
    rfl
  have e0 : 0 ≤ from_ + (i : Int) := by omega
  have e1 : 0 ≤ from_ + (i : Int) + long := by omega
  have e2 : (from_ + (i : Int)).toNat ≤ (from_ + (i : Int) + long).toNat := by omega
  have e3 : (from_ + (i : Int) + long).toNat ≤ 2000 := by omega
  simp only [↓R1, R2, R3, R4, TY, reduceIte, Nat.reduceEqDiff, Nat.reduceAdd, Nat.reduceMul, Nat.reduceLT, Nat.reduceLeDiff, reduceCtorEq, decide_true, decide_false, q9, q3, q13, hw, e0, e1, e2, e3, hF, bools_length]
  refine call_of (containsB_ok (xs := (List.range long.toNat).map fun k => F ((from_ + i).toNat + k)) (b := true) (by simp; omega) ⟨?_, .inr (.inr ⟨_, _, _, 0, bools 2000 F, rfl, ?_, rfl, hF, ?_⟩)⟩) ?_
  · simp
  · simp; omega
  · intro k x hk
    rw [flat1, List.map_map, List.getElem?_map] at hk
    cases hr : (List.range long.toNat)[k]? with
    | none => rw [hr] at hk; cases hk
    | some r =>
      rw [hr] at hk
      rw [List.getElem?_eq_some_iff] at hr
      obtain ⟨hk1, hr⟩ := hr
      simp only [List.length_range] at hk1
      rw [List.getElem_range] at hr
      subst hr
      simp only [Option.map_some, Function.comp_apply, Option.some.injEq] at hk
      subst hk
      exact bools_get (show (from_ + (i : Int)).toNat + k < 2000 by omega)
  have hw2 : IntKind.i64.wrap (from_ + (i : Int) + 1) = from_ + ((i + 1 : Nat) : Int) := by rw [wrapI (by omega)]; omega
  have hfree : freeAt l tool long.toNat (from_ + i).toNat = !decide (true ∈ (List.range long.toNat).map fun k => F ((from_ + i).toNat + k)) := by
    rw [Bool.eq_iff_iff]
    simp only [freeAt, hon, List.all_eq_true, List.mem_range, Bool.not_eq_true', decide_eq_false_iff_not, List.mem_map, not_exists, not_and]
    constructor
    · intro h k hk e; rw [h k hk] at e; cases e
    · intro h k hk; cases hF2 : F ((from_ + (i : Int)).toNat + k)
      · rfl
      · exact absurd hF2 (h k hk)
  rw [show (2001 - long - from_).toNat - i = ((2001 - long - from_).toNat - (i + 1)) + 1 by omega, ff, hfree] at hff
  generalize decide (true ∈ (List.range long.toNat).map fun k => F ((from_ + i).toNat + k)) = R at hff ⊢
  simp only [↓R1, R2, R3, R4, TY, reduceIte, Nat.reduceEqDiff, Nat.reduceAdd, Nat.reduceMul, Nat.reduceLT, Nat.reduceLeDiff, reduceCtorEq, decide_true, decide_false, q9, q3, q13, hw2]
  simp only [brI_any]
  refine ⟨fun hR => ?_, fun hR => ?_⟩
  · simp only [↓R1, R2, R3, R4, TY, reduceIte, Nat.reduceEqDiff, Nat.reduceAdd, Nat.reduceMul, Nat.reduceLT, Nat.reduceLeDiff, reduceCtorEq, decide_true, decide_false, q9, q3, q13, hw2]
    refine for_on q13 rfl (by omega) rfl rfl ⟨hxC, hAC, hF, q9, q3, rfl, ?_⟩
    rw [hff, hR, show (from_ + ((i + 1 : Nat) : Int)).toNat = (from_ + (i : Int)).toNat + 1 by omega]
    rfl
  · simp only [↓R1, R2, R3, R4, TY, reduceIte, Nat.reduceEqDiff, Nat.reduceAdd, Nat.reduceMul, Nat.reduceLT, Nat.reduceLeDiff, reduceCtorEq, decide_true, decide_false, q9, q3, q13, hw2]
    refine Ended.back hA hxC (congrArg _ ?_) (RB.int _ _)
    rw [hff, hR]
    simp; omega
end
end Go.Proofs.Ytjohiapgancocaa.Ab
