/- Tools: the document's UseIs and UsesFault. -/
import Derived.Test.YtjohiapgancocaaTlA
namespace Go.Proofs.Ytjohiapgancocaa.Ab
open Go.RowKit
set_option linter.unusedVariables false
set_option linter.unusedSimpArgs false
set_option maxRecDepth 100000

/-- The tick of a tool, counted through all tools. -/
def Us.at (u : Us) (k : Nat) : Bool := decide (u.tool * 2000 + u.from_ ≤ k ∧ k < u.tool * 2000 + u.from_ + u.long)
def busyAt (l : List Us) (k : Nat) : Bool := l.any fun u => u.at k
theorem busyAt_snoc (l : List Us) (u : Us) (k : Nat) : busyAt (l ++ [u]) k = (busyAt l k || u.at k) := by simp [busyAt]

theorem clash_at {u v : Us} (hu : u.valid) (hv : v.valid) : u.clash v ↔ ∃ i : Nat, (i : Int) < u.long ∧ v.at (u.tool.toNat * 2000 + (u.from_ + i).toNat) = true := by
  obtain ⟨u1, u2, u3, u4, u5, u6⟩ := hu
  obtain ⟨v1, v2, v3, v4, v5, v6⟩ := hv
  simp only [Us.clash, Us.at, decide_eq_true_eq]
  constructor
  · rintro ⟨-, -, h1, h2, h3⟩
    refine ⟨(max 0 (v.from_ - u.from_)).toNat, ?_, ?_⟩ <;> omega
  · rintro ⟨i, h1, h2⟩
    refine ⟨⟨u1, u2, u3, u4, u5, u6⟩, ⟨v1, v2, v3, v4, v5, v6⟩, ?_, ?_, ?_⟩ <;> omega

section
variable {G : Gl} {fl : Nat} {A : Hp}

theorem useIs_ok (u : Us) : Sound Try.prog G 10 [u.val] fl A (.bool (decide u.valid)) A := by
  refine Sound.of mixed Try.func10 Try.ntmps10 Try.results10 (by kernel_rfl) rfl (by kernel_rfl) (by kernel_rfl) fun hA => ?_
  obtain ⟨a, b, c⟩ := u
  simp only [Us.val]
  simp only [↓R1, R2, R3, R4, TY, reduceIte, Nat.reduceEqDiff, Nat.reduceAdd, Nat.reduceMul, Nat.reduceLT, Nat.reduceLeDiff, reduceCtorEq, decide_true, decide_false]
  repeat' (first | (refine And.intro ?_ ?_) | intro _)
  all_goals
    refine Ended.back hA ((Xt.refl A).push _) (congrArg _ ?_) (RB.bool _)
    first
      | (refine dec_f ?_; simp only [Us.valid]; omega)
      | (refine dec_i ?_; simp only [Us.valid]; rw [wrapI (by omega)]; omega)

theorem usesFault_ok {v : Value} {l : List Us} (hs : Sl A 3 v (l.map Us.cells)) : Sound Try.prog G 9 [v] fl A (.int .i64 (chk l)) A := by
  refine Sound.of mixed Try.func9 Try.ntmps9 Try.results9 (by kernel_rfl) rfl (by kernel_rfl) (by kernel_rfl) fun hA => ?_
  obtain ⟨o, c, rfl⟩ := hs.len
  rw [List.length_map] at hs ⊢
  simp only [↓R1, R2, R3, R4, TY, reduceIte, Nat.reduceEqDiff, Nat.reduceAdd, Nat.reduceMul, Nat.reduceLT, Nat.reduceLeDiff, reduceCtorEq, decide_true, decide_false, all_rep]
  refine ⟨fun h => ?_, fun h => ?_⟩
  · refine Ended.back hA (Xt.refl A) (congrArg _ ?_) (RB.int _ _)
    rw [chk, if_pos (by omega)]
  rw [chk, if_neg (by omega)]
  rw [bools_zero]
  generalize hA2 : A.push _ = A2
  have hx2 : Xt A.next A A2 := by rw [← hA2]; simp only [xt_push, xt_refl]
  have hn2 : A2.next = A.next + 1 := by rw [← hA2]; rfl
  refine range_of 12 l.length (fun j τ B => Xt A.next A B ∧ A.next < B.next ∧ B.blk A.next = some (.row (bools 12000 (busyAt (l.take j))) 0 2000) ∧ τ 3 = some (.pointer (some ⟨A.next, 0, some 0⟩)) ∧ τ 10 = some (.slice o l.length c) ∧
    τ 11 = some (.int .i64 l.length) ∧ τ 12 = some (.int .i64 j) ∧ chkGo [] l = chkGo (l.take j) (l.drop j) ∧ ∀ u ∈ l.take j, u.valid) ?_ ?_
  · refine ⟨hx2, by omega, by rw [← hA2]; simp [Hp.push_blk]; rfl, rfl, rfl, rfl, rfl, rfl, by simp⟩
  rintro j τ B hj ⟨hx, hAB, hblk, h3, h10, h11, h12, hgo, hval⟩
  simp only [↓R1, R2, R3, R4, TY, reduceIte, Nat.reduceEqDiff, Nat.reduceAdd, Nat.reduceMul, Nat.reduceLT, Nat.reduceLeDiff, reduceCtorEq, decide_true, decide_false, h3, h10, h11, h12]
  refine ⟨fun hlt => ?_, fun hlt => ?_⟩
  rotate_left
  · refine Ended.back hA hx (congrArg _ ?_) (RB.int _ _)
    rw [hgo, List.drop_of_length_le (by omega)]; rfl
  obtain ⟨a, rfl, -⟩ := hs.at (G := G) (i := j) (by simpa using hlt)
  have hsB := hs.xt hA hx
  have hab : a.block < B.next := Nat.lt_of_lt_of_le (hs.lt hA) hx.next
  have hfl : fl ≤ B.next := Nat.le_trans hA.floor hx.next
  obtain ⟨g0, g1, g2⟩ := us_get (G := G) hsB hlt
  simp only [↓R1, R2, R3, R4, TY, reduceIte, Nat.reduceEqDiff, Nat.reduceAdd, Nat.reduceMul, Nat.reduceLT, Nat.reduceLeDiff, reduceCtorEq, decide_true, decide_false, h3, h10, h11, h12, hlt, hab, hfl, g0, g1, g2]
  refine call_of (useIs_ok l[j]) ?_
  simp only [↓R1, R2, R3, R4, TY, reduceIte, Nat.reduceEqDiff, Nat.reduceAdd, Nat.reduceMul, Nat.reduceLT, Nat.reduceLeDiff, reduceCtorEq, decide_true, decide_false, h3, h10, h11, h12, hlt, hj, hab, hfl, g0, g1, g2]
  refine ⟨fun hv => ?_, fun hv => ?_⟩
  rotate_left
  · refine Ended.back hA ?_ (congrArg _ ?_) (RB.int _ _)
    · simp only [xt_push, xt_put, hx, hx.next]
    · rw [hgo, chkGo_at hlt, if_pos hv]
  generalize hB2 : Hp.put _ _ _ = B2
  have hx2 : Xt A.next A B2 := by rw [← hB2]; simp only [xt_push, xt_put, hx, hx.next]
  have hn2 : B2.next = B.next + 1 := by rw [← hB2]; rfl
  have k0 : B2.get G ⟨B.next, 0, some 0⟩ = some (.int .i64 l[j].tool) ∧ B2.get G ⟨B.next, 1, some 0⟩ = some (.int .i64 l[j].from_) ∧ B2.get G ⟨B.next, 2, some 0⟩ = some (.int .i64 l[j].long) := by
    rw [← hB2]; simp [Hp.get, Hp.put_blk]
  have hblk2 : B2.blk A.next = some (.row (bools 12000 (busyAt (l.take j))) 0 2000) := by
    rw [← hB2, Hp.put_blk, Hp.push_blk, if_neg (by omega), if_neg (by omega), hblk]
  obtain ⟨v1, v2, v3, v4, v5, v6⟩ := id hv
  refine for_of 6 l[j].from_ l[j].long.toNat (fun i τ C => Xt A.next A C ∧ B.next < C.next ∧ (C.get G ⟨B.next, 0, some 0⟩ = some (.int .i64 l[j].tool) ∧ C.get G ⟨B.next, 1, some 0⟩ = some (.int .i64 l[j].from_) ∧ C.get G ⟨B.next, 2, some 0⟩ = some (.int .i64 l[j].long)) ∧
    (∃ F, C.blk A.next = some (.row (bools 12000 F) 0 2000) ∧ ∀ k, F k = (busyAt (l.take j) k || decide (l[j].tool.toNat * 2000 + l[j].from_.toNat ≤ k ∧ k < l[j].tool.toNat * 2000 + l[j].from_.toNat + i))) ∧
    τ 3 = some (.pointer (some ⟨A.next, 0, some 0⟩)) ∧ τ 5 = some (.pointer (some ⟨B.next, 0, some 0⟩)) ∧ τ 6 = some (.int .i64 (l[j].from_ + i)) ∧ τ 10 = some (.slice (some a) l.length c) ∧ τ 11 = some (.int .i64 l.length) ∧ τ 12 = some (.int .i64 j) ∧
    ∀ k : Nat, k < i → busyAt (l.take j) (l[j].tool.toNat * 2000 + (l[j].from_ + k).toNat) = false) ?_ ?_
  · refine ⟨hx2, by omega, k0, ⟨_, hblk2, fun k => by simp; omega⟩, h3, rfl, by simp [upd_eq], h10, h11, h12, by simp⟩
  rintro i τ' C hi ⟨hxC, hbC, ⟨m0, m1, m2⟩, ⟨F, hF, hFk⟩, q3, q5, q6, q10, q11, q12, hno⟩
  have hj63 : j < 9223372036854775807 := by omega
  have hw : IntKind.i64.wrap (l[j].from_ + l[j].long) = l[j].from_ + l[j].long := wrapI (by omega)
  simp only [↓R1, R2, R3, R4, TY, reduceIte, Nat.reduceEqDiff, Nat.reduceAdd, Nat.reduceMul, Nat.reduceLT, Nat.reduceLeDiff, reduceCtorEq, decide_true, decide_false, q3, q5, q6, q10, q11, q12, hj63, hbC, m0, m1, m2, hw]
  refine ⟨fun hil => ?_, fun hil => ?_⟩
  rotate_left
  · have hil' : i = l[j].long.toNat := by omega
    have hcov : ∀ k, F k = busyAt (l.take (j + 1)) k := by
      intro k
      rw [hFk, List.take_succ_eq_append_getElem hlt, busyAt_snoc]
      congr 1
      exact dec_i (by omega)
    refine range_on h12 hlt rfl ⟨hxC, by omega, by rw [hF, funext hcov], q3, q10, q11, rfl, ?_, ?_⟩
    · rw [hgo, chkGo_at hlt, if_neg (by simpa using hv), if_neg]
      rintro ⟨v, hvm, hcl⟩
      obtain ⟨k, h1, h2⟩ := (clash_at hv (hval v hvm)).1 hcl
      have := hno k (by omega)
      rw [busyAt, List.any_eq_false] at this
      exact this v hvm h2
    · rw [List.take_succ_eq_append_getElem hlt]
      intro u hu
      rcases List.mem_append.1 hu with h | h
      · exact hval u h
      · rw [List.mem_singleton.1 h]; exact hv
  have e0 : 0 ≤ l[j].from_ + (i : Int) := by omega
  have e1 : l[j].from_ + (i : Int) < ((2000 : Nat) : Int) := by omega
  have e2 : l[j].tool < ((6 : Nat) : Int) := by omega
  have e3 : l[j].tool.toNat * 2000 + (l[j].from_ + (i : Int)).toNat < 12000 := by omega
  have e4 : l[j].tool.toNat * 2000 + (l[j].from_ + (i : Int)).toNat + 1 ≤ 12000 := by omega
  have hw2 : IntKind.i64.wrap (l[j].from_ + (i : Int) + 1) = l[j].from_ + ((i + 1 : Nat) : Int) := by rw [wrapI (by omega)]; omega
  simp only [↓R1, R2, R3, R4, TY, reduceIte, Nat.reduceEqDiff, Nat.reduceAdd, Nat.reduceMul, Nat.reduceLT, Nat.reduceLeDiff, reduceCtorEq, decide_true, decide_false, q3, q5, q6, q10, q11, q12, hj63, hbC, m0, m1, m2, hw, v1, e0, e1, e2, e3, e4, get_blk hF, bools_get]
  simp only [brI_any]
  have hb0 : F (l[j].tool.toNat * 2000 + (l[j].from_ + (i : Int)).toNat) = busyAt (l.take j) (l[j].tool.toNat * 2000 + (l[j].from_ + (i : Int)).toNat) := by
    rw [hFk, decide_eq_false (by omega), Bool.or_false]
  refine ⟨fun ht => ?_, fun hf => ?_⟩
  · simp only [↓R1, R2, R3, R4, TY, reduceIte, Nat.reduceEqDiff, Nat.reduceAdd, Nat.reduceMul, Nat.reduceLT, Nat.reduceLeDiff, reduceCtorEq, decide_true, decide_false, q3, q5, q6, q10, q11, q12]
    refine Ended.back hA hxC (congrArg _ ?_) (RB.int _ _)
    rw [hb0, busyAt, List.any_eq_true] at ht
    obtain ⟨u, hu, hat⟩ := ht
    rw [hgo, chkGo_at hlt, if_neg (by simpa using hv), if_pos ⟨u, hu, (clash_at hv (hval u hu)).2 ⟨i, by omega, hat⟩⟩]
  · simp only [↓R1, R2, R3, R4, TY, reduceIte, Nat.reduceEqDiff, Nat.reduceAdd, Nat.reduceMul, Nat.reduceLT, Nat.reduceLeDiff, reduceCtorEq, decide_true, decide_false, q3, q5, q6, q10, q11, q12, hj63, hbC, m0, m1, m2, hw, v1, e0, e1, e2, e3, e4, get_blk hF, hF, bools_get, bools_length, hA.floor, hw2]
    refine for_on q6 rfl (by omega) rfl rfl ⟨?_, ?_, ?_, ⟨_, by rw [Hp.put_blk, if_pos rfl, bools_set], ?_⟩, q3, q5, rfl, q10, q11, q12, ?_⟩
    · simp only [xt_put, hxC, Nat.le_refl]
    · exact hbC
    · have hne : ¬ B.next = A.next := by omega
      simp only [Hp.get, Hp.put_blk, if_neg hne]
      exact ⟨m0, m1, m2⟩
    · intro k
      simp only [hFk]
      rw [Bool.eq_iff_iff]
      split
      · simp; omega
      · simp only [Bool.or_eq_true, decide_eq_true_eq]
        constructor
        · rintro (h | h)
          · exact .inl h
          · exact .inr (by omega)
        · rintro (h | h)
          · exact .inl h
          · exact .inr (by omega)
    · intro k hk
      by_cases hki : k = i
      · subst hki; rw [← hb0]; exact hf
      · exact hno k (by omega)
end
end Go.Proofs.Ytjohiapgancocaa.Ab
