/- Tools: First. -/
import Derived.Test.YtjohiapgancocaaTlC
namespace Go.Proofs.Ytjohiapgancocaa.Ab
open Go.RowKit
set_option linter.unusedVariables false
set_option linter.unusedSimpArgs false
set_option maxRecDepth 100000

/-- What First returns. -/
def firstR (l : List Us) (q : Us) : Int × Int :=
  if chk l ≠ 0 then (0, chk l) else if ¬ q.valid then (0, 1) else
    let r := ff l q.tool q.long.toNat q.from_.toNat (2001 - q.long - q.from_).toNat
    if r < 0 then (0, 19) else (r, 0)

theorem chkGo_valid : ∀ (r s : List Us), chkGo s r = 0 → ∀ u ∈ r, u.valid
  | [], _, _, u, hu => by simp at hu
  | u :: r, s, h, v, hv => by
    rw [chkGo] at h
    split at h
    · cases h
    · rename_i h1
      split at h
      · cases h
      · rcases List.mem_cons.1 hv with rfl | hv
        · simpa using h1
        · exact chkGo_valid r _ h v hv
theorem chk_valid {l : List Us} (h : chk l = 0) : l.length ≤ 60 ∧ ∀ u ∈ l, u.valid := by
  rw [chk] at h
  split at h
  · cases h
  · exact ⟨by omega, chkGo_valid l [] h⟩

/-- Past a clash nothing is free before its end. -/
theorem ff_skip {l : List Us} {tool : Int} {long : Nat} {v : Us} (hv : v ∈ l) (hv0 : 0 ≤ v.from_) (hvl : 1 ≤ v.long) (hl : 1 ≤ long) (ht : v.tool = tool) : ∀ (n at_ k : Nat), (v.from_ : Int) < at_ + long → k ≤ n → (at_ : Int) + k ≤ v.from_ + v.long → ff l tool long at_ n = ff l tool long (at_ + k) (n - k)
  | n, at_, 0, _, _, _ => by simp
  | n, at_, k + 1, h1, h2, h3 => by
    obtain ⟨m, rfl⟩ : ∃ m, n = m + 1 := ⟨n - 1, by omega⟩
    have hf : freeAt l tool long at_ = false := by
      rw [freeAt, List.all_eq_false]
      refine ⟨(max 0 (v.from_ - at_)).toNat, by rw [List.mem_range]; omega, ?_⟩
      simp only [onTool, Bool.not_eq_true', Bool.not_eq_false, List.any_eq_true]
      exact ⟨v, hv, by simp only [decide_eq_true_eq]; exact ⟨ht, by omega, by omega⟩⟩
    rw [ff, hf]
    have := ff_skip hv hv0 hvl hl ht m (at_ + 1) k (by omega) (by omega) (by omega)
    simp only [Bool.false_eq_true, if_false]
    rw [this, show at_ + 1 + k = at_ + (k + 1) by omega, show m - k = m + 1 - (k + 1) by omega]
theorem ff_done {l : List Us} {q : Us} (hq : q.valid) (hno : ∀ v ∈ l, v.valid ∧ ¬ q.clash v) (n : Nat) : ff l q.tool q.long.toNat q.from_.toNat (n + 1) = q.from_ := by
  have hf : freeAt l q.tool q.long.toNat q.from_.toNat = true := by
    rw [freeAt, List.all_eq_true]
    intro k hk
    rw [List.mem_range] at hk
    rw [Bool.not_eq_true', onTool, List.any_eq_false]
    intro v hv
    obtain ⟨h1, h2⟩ := hno v hv
    simp only [decide_eq_true_eq]
    rintro ⟨h3, h4, h5⟩
    obtain ⟨u1, u2, u3, u4, u5, u6⟩ := id hq
    exact h2 ⟨hq, h1, h3.symm, by omega, by omega⟩
  rw [ff, hf, if_pos rfl]
  have := hq.2.2.1
  omega

section
variable {G : Gl} {fl : Nat} {A : Hp}

theorem first_ok {v : Value} {l : List Us} {q : Us} (hs : Sl A 3 v (l.map Us.cells)) :
    Sound Try.prog G 8 [v, .int .i64 q.tool, .int .i64 q.from_, .int .i64 q.long] fl A (.tuple [Value.int .i64 (firstR l q).1, .int .i64 (firstR l q).2].toArray) A := by
  refine Sound.of mixed Try.func8 Try.ntmps8 Try.results8 (by kernel_rfl) rfl (by kernel_rfl) (by kernel_rfl) fun hA => ?_
  have hres : ∀ (x y : Int) (B : Hp), Xt A.next A B → firstR l q = (x, y) → Ended A (.tuple [Value.int .i64 x, .int .i64 y].toArray) B (.tuple [Value.int .i64 (firstR l q).1, .int .i64 (firstR l q).2].toArray) A := by
    intro x y B hx he
    rw [he]
    exact Ended.back hA hx rfl (RB.tuple (by simp [RB.int]))
  simp only [↓R1, R2, R3, R4, TY, reduceIte, Nat.reduceEqDiff, Nat.reduceAdd, Nat.reduceMul, Nat.reduceLT, Nat.reduceLeDiff, reduceCtorEq, decide_true, decide_false]
  refine call_of (check_ok hs) ?_
  simp only [↓R1, R2, R3, R4, TY, reduceIte, Nat.reduceEqDiff, Nat.reduceAdd, Nat.reduceMul, Nat.reduceLT, Nat.reduceLeDiff, reduceCtorEq, decide_true, decide_false]
  refine ⟨fun he => ?_, fun he => ?_⟩
  rotate_left
  · exact hres _ _ _ (Xt.refl A) (by rw [firstR, if_pos he])
  simp only [↓R1, R2, R3, R4, TY, reduceIte, Nat.reduceEqDiff, Nat.reduceAdd, Nat.reduceMul, Nat.reduceLT, Nat.reduceLeDiff, reduceCtorEq, decide_true, decide_false, hA.floor]
  refine call_of (valid_ok q) ?_
  simp only [↓R1, R2, R3, R4, TY, reduceIte, Nat.reduceEqDiff, Nat.reduceAdd, Nat.reduceMul, Nat.reduceLT, Nat.reduceLeDiff, reduceCtorEq, decide_true, decide_false]
  refine ⟨fun hv => ?_, fun hv => ?_⟩
  rotate_left
  · exact hres _ _ _ (by simp only [xt_push, xt_put, xt_refl, Nat.le_refl]) (by rw [firstR, if_neg (by simpa using he), if_pos hv])
  obtain ⟨hl60, hval⟩ := chk_valid he
  obtain ⟨o, c, rfl⟩ := hs.len
  rw [List.length_map] at hs ⊢
  generalize hA2 : Hp.put _ _ _ = A2
  have hx2 : Xt A.next A A2 := by rw [← hA2]; simp only [xt_push, xt_put, xt_refl, Nat.le_refl]
  have hn2 : A2.next = A.next + 1 := by rw [← hA2]; rfl
  have hb2 : A2.blk A.next = some (.row (Us.cells ⟨q.tool, q.from_, q.long⟩) 0 3) := by rw [← hA2]; simp [Hp.put_blk, Us.cells]
  obtain ⟨u1, u2, u3, u4, u5, u6⟩ := id hv
  refine loop_of (fun τ B => ∃ (x : Int) (ag : Bool), Xt A.next A B ∧ A.next < B.next ∧ B.blk A.next = some (.row (Us.cells ⟨q.tool, x, q.long⟩) 0 3) ∧ τ 0 = some (.slice o l.length c) ∧ τ 11 = some (.pointer (some ⟨A.next, 0, some 0⟩)) ∧
      τ 12 = some (.bool ag) ∧ 0 ≤ x ∧ x ≤ 2000 - q.long ∧ ff l q.tool q.long.toNat q.from_.toNat (2001 - q.long - q.from_).toNat = ff l q.tool q.long.toNat x.toNat (2001 - q.long - x).toNat ∧
      (ag = false → ∀ v ∈ l, ¬ (Us.mk q.tool x q.long).clash v))
    (fun τ B => (match τ 12 with | some (.bool true) => 1 | _ => 0) + 2 * (2001 - (match B.blk A.next with | some (.row [_, .int _ x, _] _ _) => x.toNat | _ => 0))) ?_ ?_
  · exact ⟨q.from_, true, hx2, by omega, hb2, rfl, rfl, rfl, u3, u6, rfl, fun h => by cases h⟩
  rintro τ B ⟨x, ag, hx, hAB, hblk, h0, h11, h12, hx0, hx1, hff, hag⟩
  simp only [↓R1, R2, R3, R4, TY, reduceIte, Nat.reduceEqDiff, Nat.reduceAdd, Nat.reduceMul, Nat.reduceLT, Nat.reduceLeDiff, reduceCtorEq, decide_true, decide_false, h0, h11, h12]
  simp only [brI_any]
  refine ⟨fun hagt => ?_, fun hagf => ?_⟩
  rotate_left
  · have hblk' := hblk
    simp only [Us.cells] at hblk'
    simp only [↓R1, R2, R3, R4, TY, reduceIte, Nat.reduceEqDiff, Nat.reduceAdd, Nat.reduceMul, Nat.reduceLT, Nat.reduceLeDiff, reduceCtorEq, decide_true, decide_false, h0, h11, h12, get_blk hblk']
    refine hres _ _ _ hx ?_
    have hqx : (Us.mk q.tool x q.long).valid := ⟨u1, u2, hx0, u4, u5, hx1⟩
    have := ff_done (l := l) hqx (fun v hv => ⟨hval v hv, hag hagf v hv⟩) ((2001 - q.long - x).toNat - 1)
    simp only at this
    rw [firstR, if_neg (by simpa using he), if_neg (by simpa using hv)]
    simp only
    rw [hff, show (2001 - q.long - x).toNat = (2001 - q.long - x).toNat - 1 + 1 by omega, this, if_neg (by omega)]
  subst hagt
  simp only [↓R1, R2, R3, R4, TY, reduceIte, Nat.reduceEqDiff, Nat.reduceAdd, Nat.reduceMul, Nat.reduceLT, Nat.reduceLeDiff, reduceCtorEq, decide_true, decide_false, h0, h11, h12]
  refine range_of 30 l.length (fun i τ C => ∃ (y : Int) (ag : Bool), Xt A.next A C ∧ A.next < C.next ∧ C.blk A.next = some (.row (Us.cells ⟨q.tool, y, q.long⟩) 0 3) ∧ τ 0 = some (.slice o l.length c) ∧ τ 11 = some (.pointer (some ⟨A.next, 0, some 0⟩)) ∧
      τ 12 = some (.bool ag) ∧ τ 28 = some (.slice o l.length c) ∧ τ 29 = some (.int .i64 l.length) ∧ τ 30 = some (.int .i64 i) ∧ 0 ≤ y ∧ y ≤ 2000 ∧ x ≤ y ∧ (ag = true → x < y) ∧ (ag = false → y = x ∧ ∀ v ∈ l.take i, ¬ (Us.mk q.tool x q.long).clash v) ∧
      ff l q.tool q.long.toNat q.from_.toNat (2001 - q.long - q.from_).toNat = ff l q.tool q.long.toNat y.toNat (2001 - q.long - y).toNat) ?_ ?_
  · exact ⟨x, false, hx, hAB, hblk, h0, h11, rfl, rfl, rfl, rfl, hx0, by omega, by omega, (fun h => by cases h), (fun _ => ⟨rfl, by simp⟩), hff⟩
  rintro i τ' C hi ⟨y, ag, hxC, hAC, hblkC, q0, q11, q12, q28, q29, q30, hy0, hy1, hxy, hagt, hagf, hffy⟩
  have hblkC' := hblkC
  simp only [Us.cells] at hblkC'
  simp only [↓R1, R2, R3, R4, TY, reduceIte, Nat.reduceEqDiff, Nat.reduceAdd, Nat.reduceMul, Nat.reduceLT, Nat.reduceLeDiff, reduceCtorEq, decide_true, decide_false, q0, q11, q12, q28, q29, q30]
  refine ⟨fun hlt => ?_, fun hlt => ?_⟩
  · obtain ⟨a, rfl, -⟩ := hs.at (G := G) (i := i) (by simpa using hlt)
    have hsC := hs.xt hA hxC
    have hab : a.block < C.next := Nat.lt_of_lt_of_le (hs.lt hA) hxC.next
    have hfl : fl ≤ C.next := Nat.le_trans hA.floor hxC.next
    obtain ⟨g0, g1, g2⟩ := us_get (G := G) hsC hlt
    simp only [↓R1, R2, R3, R4, TY, reduceIte, Nat.reduceEqDiff, Nat.reduceAdd, Nat.reduceMul, Nat.reduceLT, Nat.reduceLeDiff, reduceCtorEq, decide_true, decide_false, q0, q11, q12, q28, q29, q30, hlt, hab, hfl, g0, g1, g2, hAC, get_blk hblkC']
    refine call_of (clash_ok ⟨q.tool, y, q.long⟩ l[i]) ?_
    have hi63 : i < 9223372036854775807 := by omega
    obtain ⟨v1, v2, v3, v4, v5, v6⟩ := hval l[i] (List.getElem_mem _)
    have hw : IntKind.i64.wrap (l[i].from_ + l[i].long) = l[i].from_ + l[i].long := wrapI (by omega)
    simp only [↓R1, R2, R3, R4, TY, reduceIte, Nat.reduceEqDiff, Nat.reduceAdd, Nat.reduceMul, Nat.reduceLT, Nat.reduceLeDiff, reduceCtorEq, decide_true, decide_false, q0, q11, q12, q28, q29, q30, hi63, hAC, hblkC', hA.floor, hw]
    refine ⟨fun hc => ?_, fun hc => ?_⟩
    · obtain ⟨⟨-, -, -, -, -, c6⟩, -, c1, c2, c3⟩ := id hc
      simp only at c1 c2 c3 c6
      refine range_on q30 hlt rfl ⟨l[i].from_ + l[i].long, true, ?_, ?_, ?_, q0, q11, rfl, q28, q29, rfl, by omega, by omega, by omega, (fun _ => by omega), (fun h => by cases h), ?_⟩
      · simp (maxDischargeDepth := 20) only [xt_push, xt_put, hxC, hxC.next, Nat.le_refl]
      · simp only [Hp.put_next, Hp.push_next]; omega
      · rw [Hp.put_blk, if_pos rfl]; rfl
      · have h1 : 1 ≤ q.long.toNat := by omega
        have sk := ff_skip (List.getElem_mem hlt) v3 v4 h1 c1.symm (2001 - q.long - y).toNat y.toNat (min (2001 - q.long - y).toNat (l[i].from_ + l[i].long - y).toNat) (by omega) (by omega) (by omega)
        rw [hffy, sk]
        rcases Nat.le_total (2001 - q.long - y).toNat (l[i].from_ + l[i].long - y).toNat with hle | hle
        · rw [Nat.min_eq_left hle, Nat.sub_self, show (2001 - q.long - (l[i].from_ + l[i].long)).toNat = 0 by omega]; rfl
        · rw [Nat.min_eq_right hle, show y.toNat + (l[i].from_ + l[i].long - y).toNat = (l[i].from_ + l[i].long).toNat by omega, show (2001 - q.long - y).toNat - (l[i].from_ + l[i].long - y).toNat = (2001 - q.long - (l[i].from_ + l[i].long)).toNat by omega]
    · refine range_on q30 hlt rfl ⟨y, ag, ?_, ?_, ?_, q0, q11, q12, q28, q29, rfl, hy0, hy1, hxy, hagt, ?_, hffy⟩
      · simp only [xt_push, xt_put, hxC, hxC.next]
      · simp only [Hp.put_next, Hp.push_next]; omega
      · rw [Hp.put_blk, Hp.push_blk, if_neg (by omega), if_neg (by omega)]; exact hblkC
      · intro h
        obtain ⟨rfl, h2⟩ := hagf h
        refine ⟨rfl, ?_⟩
        rw [List.take_succ_eq_append_getElem hlt]
        intro v hv
        rcases List.mem_append.1 hv with h | h
        · exact h2 v h
        · rw [List.mem_singleton.1 h]; exact hc
  · simp only [↓R1, R2, R3, R4, TY, reduceIte, Nat.reduceEqDiff, Nat.reduceAdd, Nat.reduceMul, Nat.reduceLT, Nat.reduceLeDiff, reduceCtorEq, decide_true, decide_false, q0, q11, q12, q28, q29, q30, hAC, get_blk hblkC']
    refine call_of (valid_ok ⟨q.tool, y, q.long⟩) ?_
    simp only [↓R1, R2, R3, R4, TY, reduceIte, Nat.reduceEqDiff, Nat.reduceAdd, Nat.reduceMul, Nat.reduceLT, Nat.reduceLeDiff, reduceCtorEq, decide_true, decide_false, q0, q11, q12, q28, q29, q30]
    refine ⟨fun hvy => ?_, fun hvy => ?_⟩
    · obtain ⟨-, -, -, -, -, w6⟩ := hvy
      simp only at w6
      refine loop_on ⟨y, ag, hxC, hAC, hblkC, q0, q11, q12, hy0, w6, hffy, fun h => ?_⟩ ?_
      · obtain ⟨rfl, h2⟩ := hagf h
        rwa [List.take_of_length_le (by omega)] at h2
      · simp only [hblk, hblkC, h12, Us.cells]
        simp only [upd_eq, reduceIte, Nat.reduceEqDiff, q12]
        have ex : (x.toNat : Int) = x := Int.toNat_of_nonneg hx0
        have ey : (y.toNat : Int) = y := Int.toNat_of_nonneg hy0
        generalize x.toNat = X at ex ⊢
        generalize y.toNat = Y at ey ⊢
        cases ag with
        | true => have := hagt rfl; simp only; omega
        | false => simp only; omega
    · refine hres _ _ _ hxC ?_
      rw [firstR, if_neg (by simpa using he), if_neg (by simpa using hv)]
      simp only
      rw [hffy, show (2001 - q.long - y).toNat = 0 by simp only [Us.valid] at hvy; omega]
      rfl
end
end Go.Proofs.Ytjohiapgancocaa.Ab
