/- Words: Read, and the fact about words. -/
import Derived.Test.YtjgkodhadgfbmaaDoorDe
namespace Go.Proofs.YtjgkodhadgfbmaaDoor.Ab
open Go.RowKit
set_option linter.unusedVariables false
set_option linter.unusedSimpArgs false
set_option maxRecDepth 100000

/-- The words of a list from a place on, and what is wrong. -/
def rdS : Nat → List UInt8 → Nat → List Wd × Nat
  | 0, _, _ => ([], 0)
  | _ + 1, [], _ => ([], 0)
  | f + 1, c :: r, off =>
    if oneE (c :: r) ≠ 0 then ([], oneE (c :: r))
    else
      let n := (oneK (c :: r)).2 + skL false ((c :: r).drop (oneK (c :: r)).2)
      if (rdS f ((c :: r).drop n) (off + n)).2 ≠ 0 then ([], (rdS f ((c :: r).drop n) (off + n)).2)
      else (oneW (c :: r) off :: (rdS f ((c :: r).drop n) (off + n)).1, 0)
def readR (l : List UInt8) : List Wd × Nat :=
  if 4096 < l.length then ([], 2) else rdS (l.length + 1) (l.drop (skL false l)) (skL false l)
/-- The words that have come so far, and the rest. -/
def joinR (ws : List Wd) (r : List Wd × Nat) : List Wd × Nat := if r.2 ≠ 0 then ([], r.2) else (ws ++ r.1, 0)
theorem rdS_err : ∀ (f : Nat) (d : List UInt8) (off : Nat), (rdS f d off).2 ≠ 0 → (rdS f d off).1 = []
  | 0, _, _, h => absurd rfl h
  | f + 1, [], _, h => absurd rfl h
  | f + 1, c :: r, off, h => by
    simp only [rdS] at h ⊢
    split
    · rfl
    · rename_i h1
      rw [if_neg h1] at h
      split
      · rfl
      · rename_i h2
        rw [if_neg h2] at h
        exact absurd rfl h
theorem joinR_nil (f : Nat) (d : List UInt8) (off : Nat) : joinR [] (rdS f d off) = rdS f d off := by
  rw [joinR]
  split
  · rename_i h
    exact Prod.ext (rdS_err f d off h).symm rfl
  · rename_i h
    refine Prod.ext rfl ?_
    simp only [Decidable.not_not] at h
    exact h.symm
theorem oneK_pos {c : UInt8} {r : List UInt8} (h : oneE (c :: r) = 0) : 0 < (oneK (c :: r)).2 := by
  have hk : (oneK (c :: r)).1 ≠ 0 := by
    intro h0
    rw [oneE, if_pos h0] at h; cases h
  rw [oneK] at hk ⊢
  split
  · rename_i h1; unfold runL; rw [List.takeWhile_cons, if_pos h1]; simp
  · split
    · rename_i h1 h2
      have : 0 < runL pDig (c :: r) := by unfold runL; rw [List.takeWhile_cons, if_pos h2]; simp
      unfold numL
      split <;> omega
    · split
      · simp
      · rename_i h1 h2 h3; rw [if_neg h1, if_neg h2, if_neg h3] at hk; exact absurd rfl hk
theorem rdS_len : ∀ (f : Nat) (d : List UInt8) (off : Nat), (rdS f d off).1.length ≤ d.length
  | 0, _, _ => by simp [rdS]
  | f + 1, [], _ => by simp [rdS]
  | f + 1, c :: r, off => by
    simp only [rdS]
    split
    · simp
    · rename_i h1
      split
      · simp
      · have hp := oneK_pos (c := c) (r := r) (by simpa using h1)
        have ih := rdS_len f ((c :: r).drop ((oneK (c :: r)).2 + skL false ((c :: r).drop (oneK (c :: r)).2))) (off + ((oneK (c :: r)).2 + skL false ((c :: r).drop (oneK (c :: r)).2)))
        rw [List.length_drop] at ih
        simp only [List.length_cons] at ih ⊢
        omega
theorem readR_len (l : List UInt8) : (readR l).1.length ≤ 4096 := by
  rw [readR]
  split
  · simp
  · have := rdS_len (l.length + 1) (l.drop (skL false l)) (skL false l)
    rw [List.length_drop] at this
    omega
theorem wc_rb {n : Nat} (l : List Wd) : ∀ c ∈ l.map wC, ∀ u ∈ c, RB n u := by
  intro c hc u hu
  obtain ⟨x, _, rfl⟩ := List.mem_map.1 hc
  simp only [wC, List.mem_cons, List.not_mem_nil, or_false] at hu
  rcases hu with rfl | rfl | rfl
  · exact RB.int _ _
  · exact RB.int _ _
  · exact RB.string _
section
variable {G : Gl} {fl : Nat} {A : Hp}
theorem Ended.acnT {B : Hp} {sz : Nat} {v : Value} {us : List Value} {css : List (List Value)} (hA : Hok fl A) (x : Xt A.next A B) (h : Acn B A.next sz v css) (hr : ∀ c ∈ css, ∀ u ∈ c, RB A.next u) (hu : ∀ u ∈ us, RB A.next u) :
    Ended A (.tuple (v :: us).toArray) B (.tuple (nlV A css :: us).toArray) (nlH A sz css) := by
  unfold nlV nlH
  split
  · rename_i h0
    rw [h.nil h0]
    refine Ended.back hA x rfl (RB.tuple fun w hw => ?_)
    simp only [List.mem_cons] at hw
    rcases hw with rfl | hw
    · exact RB.sl0 _ _
    · exact hu w hw
  · rename_i h0
    obtain ⟨id, g, c, rfl, h2, h3, h4, h5⟩ := h.has h0
    refine ⟨_, told_one hA x h3 h5 (fun u hu => by obtain ⟨c, hc, hu⟩ := List.mem_flatten.1 hu; exact hr c hc u hu), .tuple (by simp) fun i hi hi' => ?_⟩
    cases i with
    | zero => exact rr_one h5 h2
    | succ i =>
      simp only [List.getElem_toArray, List.getElem_cons_succ]
      exact .same (hu _ (List.getElem_mem _))
set_option maxHeartbeats 1000000 in
theorem read_ok (l : List UInt8) : Sound Tryd.prog G 12 [.string (S l)] fl A
    (.tuple [nlV A ((readR l).1.map wC), .int .i64 (((readR l).2 : Nat) : Int)].toArray) (nlH A 3 ((readR l).1.map wC)) := by
  refine Sound.of mixed Tryd.func12 Tryd.ntmps12 Tryd.results12 (by kernel_rfl) rfl (by kernel_rfl) (by kernel_rfl) fun hA => ?_
  have bad : ∀ (e : Nat) (B : Hp), Xt A.next A B → readR l = ([], e) → Ended A (.tuple [Value.slice none 0 0, .int .i64 ((e : Nat) : Int)].toArray) B (.tuple [nlV A ((readR l).1.map wC), .int .i64 (((readR l).2 : Nat) : Int)].toArray) (nlH A 3 ((readR l).1.map wC)) := by
    intro e B hx h
    rw [h]
    exact Ended.acnT (us := [.int .i64 ((e : Nat) : Int)]) hA hx Acn.none (wc_rb []) (fun w hw => by simp at hw; subst hw; exact RB.int _ _)
  simp only [↓R1, R2, R3, R4, TY, reduceIte, Nat.reduceEqDiff, Nat.reduceAdd, Nat.reduceMul, Nat.reduceLT, Nat.reduceLeDiff, reduceCtorEq, decide_true, decide_false, Int.reduceLE, Int.reduceLT, Int.reduceToNat, Int.reduceAdd, Int.reduceSub, Int.reduceMul, Int.reduceEq, FE, S_size]
  refine ⟨fun h => bad 2 _ (Xt.refl _) (by rw [readR, if_pos (by omega)]), fun h => ?_⟩
  have hl : l.length < 9223372036854775807 := by omega
  refine call_of (skip_ok hl (k := 0) (Nat.zero_le _)) ?_
  have hR : readR l = rdS (l.length + 1) (l.drop (skL false l)) (skL false l) := by rw [readR, if_neg (by omega)]
  rw [hR] at bad ⊢
  simp only [↓R1, R2, R3, R4, TY, reduceIte, Nat.reduceEqDiff, Nat.reduceAdd, Nat.reduceMul, Nat.reduceLT, Nat.reduceLeDiff, reduceCtorEq, decide_true, decide_false, Int.reduceLE, Int.reduceLT, Int.reduceToNat, Int.reduceAdd, Int.reduceSub, Int.reduceMul, Int.reduceEq, FE, S_size, List.drop_zero, Nat.zero_add]
  refine loop_of (fun τ B => ∃ (j f : Nat) (ws : List Wd) (sb : Value), Xt A.next A B ∧ Acn B A.next 3 sb (ws.map wC) ∧ j ≤ l.length ∧ l.length < j + f ∧ ws.length ≤ j ∧ rdS (l.length + 1) (l.drop (skL false l)) (skL false l) = joinR ws (rdS f (l.drop j) j) ∧
    τ 0 = some (.string (S l)) ∧ τ 4 = some sb ∧ τ 5 = some (.int .i64 (j : Nat))) (mS 5 l.length) ?_ ?_
  · refine ⟨skL false l, l.length + 1, [], _, Xt.refl A, Acn.none, skL_le _ _, by omega, Nat.zero_le _, ?_, rfl, rfl, rfl⟩
    rw [joinR_nil]
  rintro τ B ⟨j, f, ws, sb, hx, hac, hj, hf, hwl, hr, q0, q4, q5⟩
  have hfl : fl ≤ B.next := Nat.le_trans hA.floor hx.next
  simp only [↓R1, R2, R3, R4, TY, reduceIte, Nat.reduceEqDiff, Nat.reduceAdd, Nat.reduceMul, Nat.reduceLT, Nat.reduceLeDiff, reduceCtorEq, decide_true, decide_false, Int.reduceLE, Int.reduceLT, Int.reduceToNat, Int.reduceAdd, Int.reduceSub, Int.reduceMul, Int.reduceEq, FE, S_size, q0, q4, q5]
  refine ⟨fun hlt => ?_, fun hlt => ?_⟩
  rotate_left
  · have hjl : j = l.length := by omega
    obtain ⟨f, rfl⟩ : ∃ g, f = g + 1 := ⟨f - 1, by omega⟩
    have e : rdS (l.length + 1) (l.drop (skL false l)) (skL false l) = (ws, 0) := by
      rw [hr, hjl, List.drop_length]; simp [rdS, joinR]
    rw [e]
    exact Ended.acnT (us := [.int .i64 0]) hA hx hac (wc_rb _) (fun w hw => by simp at hw; subst hw; exact RB.int _ _)
  obtain ⟨f, rfl⟩ : ∃ g, f = g + 1 := ⟨f - 1, by omega⟩
  have hdj : l.drop j = l[j] :: l.drop (j + 1) := List.drop_eq_getElem_cons hlt
  refine call_of (one_ok hl hlt) ?_
  simp only [wC]
  by_cases he : oneE (l.drop j) = 0
  rotate_left
  · have he' : (((oneE (l.drop j) : Nat) : Int) = 0) = False := eq_false (by omega)
    simp only [↓R1, R2, R3, R4, TY, reduceIte, Nat.reduceEqDiff, Nat.reduceAdd, Nat.reduceMul, Nat.reduceLT, Nat.reduceLeDiff, reduceCtorEq, decide_true, decide_false, Int.reduceLE, Int.reduceLT, Int.reduceToNat, Int.reduceAdd, Int.reduceSub, Int.reduceMul, Int.reduceEq, FE, S_size, q0, q4, q5, hfl, he']
    refine bad _ _ ?_ ?_
    · simp (maxDischargeDepth := 20) only [xt_push, xt_put, hx, hx.next]
    · rw [hr, hdj, rdS, if_pos (by rw [← hdj]; exact he), joinR, if_pos (by rw [← hdj]; exact he)]
  have hw : oneW (l.drop j) j = ⟨(oneK (l.drop j)).1, j, (l.drop j).take (oneK (l.drop j)).2⟩ := by rw [oneW, if_pos he]
  have hp : 0 < (oneK (l.drop j)).2 := by rw [hdj] at he ⊢; exact oneK_pos he
  have hle := oneK_le (l.drop j)
  rw [List.length_drop] at hle
  generalize hn : (oneK (l.drop j)).2 = n at *
  have htl : ((l.drop j).take n).length = n := by rw [List.length_take, List.length_drop]; omega
  rw [hw, he]
  have hz3 : zl [Value.int .i64 0, Value.int .i64 0, Value.string { data := #[] }] 3 = [Value.int .i64 0, Value.int .i64 0, Value.string { data := #[] }] := rfl
  simp only [↓R1, R2, R3, R4, TY, reduceIte, Nat.reduceEqDiff, Nat.reduceAdd, Nat.reduceMul, Nat.reduceLT, Nat.reduceLeDiff, reduceCtorEq, decide_true, decide_false, Int.reduceLE, Int.reduceLT, Int.reduceToNat, Int.reduceAdd, Int.reduceSub, Int.reduceMul, Int.reduceEq, FE, S_size, q0, q4, q5, hfl, hz3]
  have hxC : Xt B.next B ((B.push (.row [Value.int .i64 0, .int .i64 0, .string { data := #[] }] 0 3)).put B.next (.row [Value.int .i64 ((oneK (l.drop j)).1 : Int), .int .i64 (j : Int), .string (S ((l.drop j).take n))] 0 3)) := by
    simp (maxDischargeDepth := 20) only [xt_push, xt_put, xt_refl, Nat.le_refl]
  have hCn : ((B.push (.row [Value.int .i64 0, .int .i64 0, .string { data := #[] }] 0 3)).put B.next (.row [Value.int .i64 ((oneK (l.drop j)).1 : Int), .int .i64 (j : Int), .string (S ((l.drop j).take n))] 0 3)).next = B.next + 1 := rfl
  have hCb : ((B.push (.row [Value.int .i64 0, .int .i64 0, .string { data := #[] }] 0 3)).put B.next (.row [Value.int .i64 ((oneK (l.drop j)).1 : Int), .int .i64 (j : Int), .string (S ((l.drop j).take n))] 0 3)).blk B.next = some (.row [Value.int .i64 ((oneK (l.drop j)).1 : Int), .int .i64 (j : Int), .string (S ((l.drop j).take n))] 0 3) := by
    rw [Hp.put_blk, if_pos rfl]
  rw [← hCn]
  generalize (B.push _).put _ _ = C at *
  refine app1 (lo := A.next) (sz := 3) (cl := wC ⟨(oneK (l.drop j)).1, j, (l.drop j).take n⟩) ty26 rfl ty32 rfl (by omega) rfl (hac.xt hxC) hA.floor (by have := hx.next; omega) rfl (by simp [wC]; exact ⟨rfl, rfl, rfl⟩) (by simp; omega) (by simp; omega) ?_
  intro sb' D hac' hxD hnD hfD hidD
  have hDb : D.blk B.next = some (.row [Value.int .i64 ((oneK (l.drop j)).1 : Int), .int .i64 (j : Int), .string (S ((l.drop j).take n))] 0 3) := by
    rw [hfD _ (by omega) (fun g n' c' e => by have := hac.lt e; simp at this)]; exact hCb
  have hg : D.get G ⟨B.next, 2, some 0⟩ = some (.string (S ((l.drop j).take n))) := by rw [get_blk hDb]; rfl
  have w1 : IntKind.i64.wrap ((j : Int) + (n : Int)) = ((j + n : Nat) : Int) := by rw [wrapI (by omega)]; omega
  have m1 : B.next < D.next := by omega
  simp only [↓R1x, R2, R3, R4, TY, reduceIte, Nat.reduceEqDiff, Nat.reduceAdd, Nat.reduceMul, Nat.reduceLT, Nat.reduceLeDiff, reduceCtorEq, decide_true, decide_false, Int.reduceLE, Int.reduceLT, Int.reduceToNat, Int.reduceAdd, Int.reduceSub, Int.reduceMul, Int.reduceEq, FE, S_size, q0, q4, q5, hg, m1, htl, w1]
  simp only [k_then]
  simp only [↓R1x, R2, R3, R4, TY, reduceIte, Nat.reduceEqDiff, Nat.reduceAdd, Nat.reduceMul, Nat.reduceLT, Nat.reduceLeDiff, reduceCtorEq, decide_true, decide_false, Int.reduceLE, Int.reduceLT, Int.reduceToNat, Int.reduceAdd, Int.reduceSub, Int.reduceMul, Int.reduceEq, FE, S_size, q0, q4, q5, hg, m1, htl, w1]
  refine call_of (skip_ok hl (k := j + n) (by omega)) ?_
  simp only [↓R1, R2, R3, R4, TY, reduceIte, Nat.reduceEqDiff, Nat.reduceAdd, Nat.reduceMul, Nat.reduceLT, Nat.reduceLeDiff, reduceCtorEq, decide_true, decide_false, Int.reduceLE, Int.reduceLT, Int.reduceToNat, Int.reduceAdd, Int.reduceSub, Int.reduceMul, Int.reduceEq, FE, S_size, q0, q4, q5]
  have hsl := skL_le false (l.drop (j + n))
  rw [List.length_drop] at hsl
  refine loop_on ⟨j + n + skL false (l.drop (j + n)), f, ws ++ [oneW (l.drop j) j], sb', ?_, ?_, by omega, by omega, by simp; omega, ?_, q0, rfl, rfl⟩ (mS_lt (i := j + n + skL false (l.drop (j + n))) rfl q5 (by omega))
  · exact ⟨fun id hid => by rw [hxD.blk id hid, hxC.blk id (by have := hx.next; omega)]; exact hx.blk id hid, by have := hx.next; omega⟩
  · rw [List.map_append, hw]; exact hac'
  · rw [hr]
    have e1 : (l.drop j).drop n = l.drop (j + n) := by rw [List.drop_drop]
    have e2 : (l.drop j).drop (n + skL false (l.drop (j + n))) = l.drop (j + n + skL false (l.drop (j + n))) := by rw [List.drop_drop, Nat.add_assoc]
    have e3 : rdS (f + 1) (l.drop j) j = if (rdS f (l.drop (j + n + skL false (l.drop (j + n)))) (j + n + skL false (l.drop (j + n)))).2 ≠ 0 then ([], (rdS f (l.drop (j + n + skL false (l.drop (j + n)))) (j + n + skL false (l.drop (j + n)))).2)
        else (oneW (l.drop j) j :: (rdS f (l.drop (j + n + skL false (l.drop (j + n)))) (j + n + skL false (l.drop (j + n)))).1, 0) := by
      rw [hdj] at he hn e1 e2 ⊢
      rw [rdS, if_neg (by simpa using he)]
      simp only [hn, e1, e2, Nat.add_assoc]
    rw [e3]
    generalize rdS f (l.drop (j + n + skL false (l.drop (j + n)))) (j + n + skL false (l.drop (j + n))) = r
    unfold joinR
    by_cases h2 : r.2 ≠ 0
    · rw [if_pos h2, if_pos h2]; simp [h2]
    · rw [if_neg h2, if_neg h2]; simp
def wV (w : Wd) : Value := .agg (wC w).toArray
theorem eqD_word (u v : Wd) : eqD Tryd.prog 20 32 (.agg (wC u).toArray) (.agg (wC v).toArray) = some (decide (u = v)) := by
  obtain ⟨a, b, c⟩ := u
  obtain ⟨a', b', c'⟩ := v
  have hst : Tryd.prog.stoodInHeld 32 = false := by kernel_rfl
  simp [eqD, wC, Tryd.underlying32, Tryd.underlying3, Tryd.underlying9, eqFs, partV, ty3, ty9, hst]
  have e1 : ((a : Int) == (a' : Int)) = decide (a = a') := by rw [Bool.eq_iff_iff]; simp; omega
  have e2 : ((b : Int) == (b' : Int)) = decide (b = b') := by rw [Bool.eq_iff_iff]; simp; omega
  rw [e1, e2]
theorem worded_ok : Sound Tryd.prog G 6 [] fl A (.bool true) A := by
  refine Sound.of mixed Tryd.func6 Tryd.ntmps6 Tryd.results6 (by kernel_rfl) rfl (by kernel_rfl) (by kernel_rfl) fun hA => ?_
  have e : readR [119, 97, 105, 116, 32, 51, 32, 59, 32, 35, 32, 101, 110, 100] = ([⟨1, 0, [119, 97, 105, 116]⟩, ⟨2, 5, [51]⟩, ⟨3, 7, [59]⟩], 0) := by decide +kernel
  have hr := read_ok (G := G) (fl := fl) (A := A) [119, 97, 105, 116, 32, 51, 32, 59, 32, 35, 32, 101, 110, 100]
  rw [e, nlV, nlH, if_neg (by simp), if_neg (by simp)] at hr
  simp only [List.map_cons, List.map_nil, wC, List.flatten_cons, List.flatten_nil, List.append_nil, List.cons_append, List.nil_append, List.length_cons, List.length_nil, Nat.reduceAdd, FE] at hr
  have hq : eqD Tryd.prog 20 32 (.agg #[.int .i64 2, .int .i64 5, .string ⟨#[51]⟩]) (.agg #[.int .i64 2, .int .i64 5, .string ⟨#[51]⟩]) = some true := eqD_word ⟨2, 5, [51]⟩ ⟨2, 5, [51]⟩
  have hgt : Tryd.prog.eqGuardType Tryd.prog.depth 32 = false := by kernel_rfl
  simp only [↓R1, R2, R3, R4, TY, reduceIte, Nat.reduceEqDiff, Nat.reduceAdd, Nat.reduceMul, Nat.reduceLT, Nat.reduceLeDiff, reduceCtorEq, decide_true, decide_false, Int.reduceLE, Int.reduceLT, Int.reduceToNat, Int.reduceAdd, Int.reduceSub, Int.reduceMul, Int.reduceEq, FE, hgt, hq]
  refine call_of (hr) ?_
  simp only [↓R1, R2, R3, R4, TY, reduceIte, Nat.reduceEqDiff, Nat.reduceAdd, Nat.reduceMul, Nat.reduceLT, Nat.reduceLeDiff, reduceCtorEq, decide_true, decide_false, Int.reduceLE, Int.reduceLT, Int.reduceToNat, Int.reduceAdd, Int.reduceSub, Int.reduceMul, Int.reduceEq, FE, hgt, hq]
  exact Ended.back hA ((Xt.refl A).push _) rfl (RB.bool _)
end
end Go.Proofs.YtjgkodhadgfbmaaDoor.Ab
