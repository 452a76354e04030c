/- Facts: what facts take; clashes in the reference; soundness of lists. -/
import Derived.Test.YthchdnaabamplaaFd
namespace Go.Proofs.Ythchdnaabamplaa.Ab
open Go.RowKit
set_option linter.unusedVariables false
set_option linter.unusedSimpArgs false
set_option maxRecDepth 100000

theorem zp2 : zl [Value.int .i64 0, Value.int .i64 0] 2 = [Value.int .i64 0, Value.int .i64 0] := rfl
theorem zp4 : zl [Value.int .i64 0, Value.int .i64 0] 4 = [Value.int .i64 0, Value.int .i64 0, Value.int .i64 0, Value.int .i64 0] := rfl
theorem pc_len (l : List (Int × Int)) : ∀ c ∈ l.map pC, c.length = 2 := fun c hc => by obtain ⟨x, _, rfl⟩ := List.mem_map.1 hc; rfl
theorem fc_len (l : List Fa) : ∀ c ∈ l.map fC, c.length = 3 := fun c hc => by obtain ⟨x, _, rfl⟩ := List.mem_map.1 hc; rfl

section
variable {G : Gl} {fl : Nat} {A : Hp}
theorem fa3_get {B : Hp} {a : Addr} {n c : Nat} {l : List (Fa)} (h : Sl B 3 (.slice (some a) n c) (l.map fC)) {i : Nat} (hi : i < l.length) :
    B.get G (aadd a (i * 3)) = some (.int .i64 l[i].1) ∧ B.get G (aadd a (i * 3 + 1)) = some (.int .i64 l[i].2.1) ∧ B.get G (aadd a (i * 3 + 2)) = some (.int .i64 l[i].2.2) := by
  obtain ⟨a', h1, h2⟩ := h.at (G := G) (i := i) (by simpa using hi)
  cases h1
  simp only [List.getElem_map] at h2
  exact ⟨h2 0 _ rfl, h2 1 _ rfl, h2 2 _ rfl⟩
set_option maxHeartbeats 2000000 in
theorem fa3_index {v : Value} {l : List (Fa)} (hs : Sl A 3 v (l.map fC)) (hl : l.length < 9223372036854775807) (x : Fa) : Sound Try.prog G 27 [v, fV x] fl A (.int .i64 (ixOf l x)) A := by
  refine Sound.of mixed Try.func27 Try.ntmps27 Try.results27 (by kernel_rfl) rfl (by kernel_rfl) (by kernel_rfl) fun hA => ?_
  obtain ⟨o, c, rfl⟩ := hs.len
  rw [List.length_map] at hs ⊢
  have hgd := guard_fact
  simp only [fV]
  simp only [↓R1, R2, R3, R4, TY, reduceIte, Nat.reduceEqDiff, Nat.reduceAdd, Nat.reduceMul, Nat.reduceLT, Nat.reduceLeDiff, reduceCtorEq, decide_true, decide_false, Int.reduceLE, Int.reduceLT, Int.reduceToNat, Int.reduceAdd, Int.reduceSub, Int.reduceMul, Int.reduceEq, FE]
  refine range_of 8 l.length (fun j τ B => Xt A.next A B ∧ A.next < B.next ∧ B.blk A.next = some (.row [Value.int .i64 x.1, Value.int .i64 x.2.1, Value.int .i64 x.2.2] 0 3) ∧ τ 0 = some (.slice o l.length c) ∧ τ 3 = some (.pointer (some ⟨A.next, 0, some 0⟩)) ∧ τ 7 = some (.int .i64 l.length) ∧ τ 8 = some (.int .i64 j) ∧ x ∉ l.take j) ?_ ?_
  · exact ⟨(Xt.refl A).push _, by simp, by simp [Hp.push_blk], rfl, rfl, rfl, rfl, by simp⟩
  rintro j τ B hj ⟨hx, hn, hb, q0, q3, q7, q8, hno⟩
  have g0 : ∀ j, B.get G ⟨A.next, j, some 0⟩ = ([Value.int .i64 x.1, Value.int .i64 x.2.1, Value.int .i64 x.2.2] : List Value)[j]? := fun j => by simp only [Hp.get, hb, if_true]
  simp only [↓R1, R2, R3, R4, TY, reduceIte, Nat.reduceEqDiff, Nat.reduceAdd, Nat.reduceMul, Nat.reduceLT, Nat.reduceLeDiff, reduceCtorEq, decide_true, decide_false, Int.reduceLE, Int.reduceLT, Int.reduceToNat, Int.reduceAdd, Int.reduceSub, Int.reduceMul, Int.reduceEq, FE, q0, q3, q7, q8, g0, hn]
  refine ⟨fun hlt => ?_, fun hlt => ?_⟩
  rotate_left
  · refine Ended.back hA hx (congrArg _ (ixOf_none (by rwa [List.take_of_length_le (by omega)] at hno)).symm) (RB.int _ _)
  obtain ⟨a, rfl, -⟩ := hs.at (G := G) (i := j) (by simpa using hlt)
  have hsB := hs.xt hA hx
  have hab : a.block < B.next := Nat.lt_of_lt_of_le (hs.lt hA) hx.next
  obtain ⟨u0, u1, u2⟩ := fa3_get (G := G) hsB hlt
  have hj63 : j < 9223372036854775807 := by omega
  have heq := eqD_fact x l[j]
  simp only [fV] at heq
  simp only [↓R1, R2, R3, R4, TY, reduceIte, Nat.reduceEqDiff, Nat.reduceAdd, Nat.reduceMul, Nat.reduceLT, Nat.reduceLeDiff, reduceCtorEq, decide_true, decide_false, Int.reduceLE, Int.reduceLT, Int.reduceToNat, Int.reduceAdd, Int.reduceSub, Int.reduceMul, Int.reduceEq, FE, q0, q3, q7, q8, g0, hn, hlt, hab, hj63, u0, u1, u2, hgd, heq]
  refine ⟨fun hc => ?_, fun hc => ?_⟩
  · refine Ended.back hA hx (congrArg _ (ixOf_found hlt hc.symm hno).symm) (RB.int _ _)
  · refine range_on q8 hlt rfl ⟨hx, hn, hb, q0, q3, q7, rfl, ?_⟩
    rw [List.take_succ_eq_append_getElem hlt, List.mem_append]
    simp only [List.mem_singleton, not_or]
    exact ⟨hno, hc⟩
theorem fa3_contains {v : Value} {l : List (Fa)} (hs : Sl A 3 v (l.map fC)) (hl : l.length < 9223372036854775807) (x : Fa) : Sound Try.prog G 9 [v, fV x] fl A (.bool (decide (x ∈ l))) A := by
  refine Sound.of mixed Try.func9 Try.ntmps9 Try.results9 (by kernel_rfl) rfl (by kernel_rfl) (by kernel_rfl) fun hA => ?_
  have hx := (Xt.refl A).push (.row [Value.int .i64 x.1, Value.int .i64 x.2.1, Value.int .i64 x.2.2] 0 3)
  have ci := fun fl => fa3_index (G := G) (fl := fl) (A := A.push (.row [Value.int .i64 x.1, Value.int .i64 x.2.1, Value.int .i64 x.2.2] 0 3)) (hs.xt hA hx) hl x
  simp only [fV] at ci ⊢
  simp only [↓R1, R2, R3, R4, TY, reduceIte, Nat.reduceEqDiff, Nat.reduceAdd, Nat.reduceMul, Nat.reduceLT, Nat.reduceLeDiff, reduceCtorEq, decide_true, decide_false, Int.reduceLE, Int.reduceLT, Int.reduceToNat, Int.reduceAdd, Int.reduceSub, Int.reduceMul, Int.reduceEq, FE]
  refine call_of (ci _) ?_
  simp only [↓R1, R2, R3, R4, TY, reduceIte, Nat.reduceEqDiff, Nat.reduceAdd, Nat.reduceMul, Nat.reduceLT, Nat.reduceLeDiff, reduceCtorEq, decide_true, decide_false, Int.reduceLE, Int.reduceLT, Int.reduceToNat, Int.reduceAdd, Int.reduceSub, Int.reduceMul, Int.reduceEq, FE]
  refine Ended.back hA hx (congrArg _ (dec_i ixOf_ge)) (RB.bool _)

set_option maxHeartbeats 4000000 in
theorem takes_ok (f : Fa) : Sound Try.prog G 25 [fV f] fl A (nlV A ((tk f).map pC)) (nlH A 2 ((tk f).map pC)) := by
  refine Sound.of mixed Try.func25 Try.ntmps25 Try.results25 (by kernel_rfl) rfl (by kernel_rfl) (by kernel_rfl) fun hA => ?_
  obtain ⟨k, a, b⟩ := f
  simp only [fV]
  have hx := (Xt.refl A).push (.row [.int .i64 k, .int .i64 a, .int .i64 b] 0 3)
  have fin : ∀ (l : List (Int × Int)) (B : Hp), l ≠ [] → Xt A.next A B → B.blk (A.next + 1) = some (.row (l.map pC).flatten 0 2) → Ended A (.slice (some ⟨A.next + 1, 0, some 0⟩) l.length l.length) B (nlV A (l.map pC)) (nlH A 2 (l.map pC)) := fun l B h0 hx hb => by
    have hne : l.map pC ≠ [] := by simpa using h0
    rw [nlV, nlH, if_neg hne, if_neg hne, List.length_map]
    refine Ended.new1 hA hx (by omega) hb (fun u hu => ?_) (Nat.le_refl _)
    obtain ⟨c, hc, hu⟩ := List.mem_flatten.1 hu
    obtain ⟨x, _, rfl⟩ := List.mem_map.1 hc
    simp only [pC, List.mem_cons, List.not_mem_nil, or_false] at hu
    rcases hu with rfl | rfl <;> exact RB.int _ _
  rcases kinds k with rfl | rfl | rfl | rfl | rfl | rfl | ⟨h1, h2, h3, h4, h5, h6⟩
  case inr.inr.inr.inr.inr.inr =>
    have e1 := eq_false h1; have e2 := eq_false h2; have e3 := eq_false h3; have e4 := eq_false h4; have e5 := eq_false h5; have e6 := eq_false h6
    simp only [↓R1, R2, R3, R4, TY, reduceIte, Nat.reduceEqDiff, Nat.reduceAdd, Nat.reduceMul, Nat.reduceLT, Nat.reduceLeDiff, reduceCtorEq, decide_true, decide_false, Int.reduceLE, Int.reduceLT, Int.reduceToNat, Int.reduceAdd, Int.reduceSub, Int.reduceMul, Int.reduceEq, FE, e1, e2, e3, e4, e5, e6]
    have e0 : tk (k, a, b) = [] := by simp [tk, e1, e2, e3, e4, e6]
    rw [e0]
    exact Ended.back hA hx rfl (RB.sl0 _ _)
  case inr.inr.inr.inr.inl =>
    simp only [↓R1, R2, R3, R4, TY, reduceIte, Nat.reduceEqDiff, Nat.reduceAdd, Nat.reduceMul, Nat.reduceLT, Nat.reduceLeDiff, reduceCtorEq, decide_true, decide_false, Int.reduceLE, Int.reduceLT, Int.reduceToNat, Int.reduceAdd, Int.reduceSub, Int.reduceMul, Int.reduceEq, FE]
    exact Ended.back hA hx rfl (RB.sl0 _ _)
  · have e0 : tk (1, a, b) = [(1, a), (2, b)] := by simp [tk]
    rw [e0]
    simp only [↓R1, R2, R3, R4, TY, reduceIte, Nat.reduceEqDiff, Nat.reduceAdd, Nat.reduceMul, Nat.reduceLT, Nat.reduceLeDiff, reduceCtorEq, decide_true, decide_false, Int.reduceLE, Int.reduceLT, Int.reduceToNat, Int.reduceAdd, Int.reduceSub, Int.reduceMul, Int.reduceEq, FE, zp2, zp4]
    exact fin [(1, a), (2, b)] _ (by simp) (hx.push (.row (List.map pC [(1, a), (2, b)]).flatten 0 2)) (by simp [Hp.push_blk, pC])
  · have e0 : tk (2, a, b) = [(1, b), (3, a)] := by simp [tk]
    rw [e0]
    simp only [↓R1, R2, R3, R4, TY, reduceIte, Nat.reduceEqDiff, Nat.reduceAdd, Nat.reduceMul, Nat.reduceLT, Nat.reduceLeDiff, reduceCtorEq, decide_true, decide_false, Int.reduceLE, Int.reduceLT, Int.reduceToNat, Int.reduceAdd, Int.reduceSub, Int.reduceMul, Int.reduceEq, FE, zp2, zp4]
    exact fin [(1, b), (3, a)] _ (by simp) (hx.push (.row (List.map pC [(1, b), (3, a)]).flatten 0 2)) (by simp [Hp.push_blk, pC])
  · have e0 : tk (3, a, b) = [(3, a)] := by simp [tk]
    rw [e0]
    simp only [↓R1, R2, R3, R4, TY, reduceIte, Nat.reduceEqDiff, Nat.reduceAdd, Nat.reduceMul, Nat.reduceLT, Nat.reduceLeDiff, reduceCtorEq, decide_true, decide_false, Int.reduceLE, Int.reduceLT, Int.reduceToNat, Int.reduceAdd, Int.reduceSub, Int.reduceMul, Int.reduceEq, FE, zp2, zp4]
    exact fin [(3, a)] _ (by simp) (hx.push (.row (List.map pC [(3, a)]).flatten 0 2)) (by simp [Hp.push_blk, pC])
  · have e0 : tk (4, a, b) = [(2, a)] := by simp [tk]
    rw [e0]
    simp only [↓R1, R2, R3, R4, TY, reduceIte, Nat.reduceEqDiff, Nat.reduceAdd, Nat.reduceMul, Nat.reduceLT, Nat.reduceLeDiff, reduceCtorEq, decide_true, decide_false, Int.reduceLE, Int.reduceLT, Int.reduceToNat, Int.reduceAdd, Int.reduceSub, Int.reduceMul, Int.reduceEq, FE, zp2, zp4]
    exact fin [(2, a)] _ (by simp) (hx.push (.row (List.map pC [(2, a)]).flatten 0 2)) (by simp [Hp.push_blk, pC])
  · have e0 : tk (6, a, b) = [(4, a), (5, b)] := by simp [tk]
    rw [e0]
    simp only [↓R1, R2, R3, R4, TY, reduceIte, Nat.reduceEqDiff, Nat.reduceAdd, Nat.reduceMul, Nat.reduceLT, Nat.reduceLeDiff, reduceCtorEq, decide_true, decide_false, Int.reduceLE, Int.reduceLT, Int.reduceToNat, Int.reduceAdd, Int.reduceSub, Int.reduceMul, Int.reduceEq, FE, zp2, zp4]
    exact fin [(4, a), (5, b)] _ (by simp) (hx.push (.row (List.map pC [(4, a), (5, b)]).flatten 0 2)) (by simp [Hp.push_blk, pC])

set_option maxHeartbeats 4000000 in
theorem factsClash_ok (f g : Fa) : Sound Try.prog G 5 [fV f, fV g] fl A (.bool (decide (fclash f g))) A := by
  refine Sound.of mixed Try.func5 Try.ntmps5 Try.results5 (by kernel_rfl) rfl (by kernel_rfl) (by kernel_rfl) fun hA => ?_
  have hv1 := fun fl A => factIs_ok (G := G) (fl := fl) (A := A) f
  have hv2 := fun fl A => factIs_ok (G := G) (fl := fl) (A := A) g
  have heq := eqD_fact f g
  have hgd := guard_fact
  have hf0 : fl ≤ A.next := hA.floor
  have tf := fun fl A => takes_ok (G := G) (fl := fl) (A := A) f
  have tg := fun fl A => takes_ok (G := G) (fl := fl) (A := A) g
  have x2 : Xt A.next A ((A.push (.row [Value.int .i64 f.1, .int .i64 f.2.1, .int .i64 f.2.2] 0 3)).push (.row [Value.int .i64 g.1, .int .i64 g.2.1, .int .i64 g.2.2] 0 3)) := ((Xt.refl A).push _).push _
  simp only [fV] at *
  simp only [↓R1, R2, R3, R4, TY, reduceIte, Nat.reduceEqDiff, Nat.reduceAdd, Nat.reduceMul, Nat.reduceLT, Nat.reduceLeDiff, reduceCtorEq, decide_true, decide_false, Int.reduceLE, Int.reduceLT, Int.reduceToNat, Int.reduceAdd, Int.reduceSub, Int.reduceMul, Int.reduceEq, FE, Nat.add_assoc, Bool.not_false, Bool.not_true, heq, hgd]
  refine call_of (hv1 _ _) ?_
  simp only [↓R1, R2, R3, R4, TY, reduceIte, Nat.reduceEqDiff, Nat.reduceAdd, Nat.reduceMul, Nat.reduceLT, Nat.reduceLeDiff, reduceCtorEq, decide_true, decide_false, Int.reduceLE, Int.reduceLT, Int.reduceToNat, Int.reduceAdd, Int.reduceSub, Int.reduceMul, Int.reduceEq, FE, Nat.add_assoc, Bool.not_false, Bool.not_true, heq, hgd]
  refine ⟨fun h1 => ?_, fun h1 => ?_⟩
  rotate_left
  · exact Ended.back hA x2 (congrArg _ (dec_f fun h => h1 h.1)) (RB.bool _)
  refine call_of (hv2 _ _) ?_
  simp only [↓R1, R2, R3, R4, TY, reduceIte, Nat.reduceEqDiff, Nat.reduceAdd, Nat.reduceMul, Nat.reduceLT, Nat.reduceLeDiff, reduceCtorEq, decide_true, decide_false, Int.reduceLE, Int.reduceLT, Int.reduceToNat, Int.reduceAdd, Int.reduceSub, Int.reduceMul, Int.reduceEq, FE, Nat.add_assoc, Bool.not_false, Bool.not_true, heq, hgd]
  refine ⟨fun h2 => ?_, fun h2 => ?_⟩
  rotate_left
  · exact Ended.back hA x2 (congrArg _ (dec_f fun h => h2 h.2.1)) (RB.bool _)
  refine ⟨fun h3 => ?_, fun h3 => ?_⟩
  · exact Ended.back hA x2 (congrArg _ (dec_f fun h => h.2.2.1 h3)) (RB.bool _)
  have hd : decide (fclash f g) = decide (∃ x ∈ tk f, x ∈ tk g) := decide_eq_decide.2 ⟨fun h => (tk_shr h1 h2 h3).2 h.2.2.2, fun h => ⟨h1, h2, h3, (tk_shr h1 h2 h3).1 h⟩⟩
  rw [hd]
  clear hd heq hv1 hv2
  refine call_of (tf _ _) ?_
  generalize hB : (A.push (.row [Value.int .i64 f.1, .int .i64 f.2.1, .int .i64 f.2.2] 0 3)).push (.row [Value.int .i64 g.1, .int .i64 g.2.1, .int .i64 g.2.2] 0 3) = B at *
  have bn : B.next = A.next + 2 := by rw [← hB]; rfl
  have b1 : B.blk (A.next + 1) = some (.row [Value.int .i64 g.1, .int .i64 g.2.1, .int .i64 g.2.2] 0 3) := by rw [← hB]; simp [Hp.push_blk]
  have hs := nl_sl (A := B) (sz := 2) (pc_len (tk f))
  have hx3 : Xt A.next A (nlH B 2 ((tk f).map pC)) := x2.trans nlH_xt
  have cn : B.next ≤ (nlH B 2 ((tk f).map pC)).next := nlH_xt.next
  have c1 : (nlH B 2 ((tk f).map pC)).blk (A.next + 1) = some (.row [Value.int .i64 g.1, .int .i64 g.2.1, .int .i64 g.2.2] 0 3) := by
    rw [nlH_xt.blk _ (by omega)]; exact b1
  have hlt0 : ∀ a n c, nlV B ((tk f).map pC) = .slice (some a) n c → a.block < (nlH B 2 ((tk f).map pC)).next := fun a n c h => nl_lt h
  generalize nlH B 2 ((tk f).map pC) = C at *
  generalize nlV B ((tk f).map pC) = v at *
  obtain ⟨o, c, rfl⟩ := hs.len
  rw [List.length_map] at hs hlt0 ⊢
  have htl : (tk f).length ≤ 2 := by unfold tk; repeat' split
                                     all_goals simp
  have htg : (tk g).length ≤ 2 := by unfold tk; repeat' split
                                     all_goals simp
  simp only [↓R1, R2, R3, R4, TY, reduceIte, Nat.reduceEqDiff, Nat.reduceAdd, Nat.reduceMul, Nat.reduceLT, Nat.reduceLeDiff, reduceCtorEq, decide_true, decide_false, Int.reduceLE, Int.reduceLT, Int.reduceToNat, Int.reduceAdd, Int.reduceSub, Int.reduceMul, Int.reduceEq, FE]
  refine range_of 25 (tk f).length (fun j τ D => Xt C.next C D ∧ τ 3 = some (.pointer (some ⟨A.next + 1, 0, some 0⟩)) ∧ τ 5 = some (.func (.func 25) #[] #[]) ∧ τ 23 = some (.slice o (tk f).length c) ∧ τ 24 = some (.int .i64 (tk f).length) ∧ τ 25 = some (.int .i64 j) ∧ ∀ x ∈ (tk f).take j, x ∉ tk g) ?_ ?_
  · exact ⟨Xt.refl _, rfl, rfl, rfl, rfl, rfl, by simp⟩
  rintro j τ D hj ⟨hx, q3, q5, q23, q24, q25, hno⟩
  have d1 : D.blk (A.next + 1) = some (.row [Value.int .i64 g.1, .int .i64 g.2.1, .int .i64 g.2.2] 0 3) := by rw [hx.blk _ (by omega)]; exact c1
  have g1 : ∀ j, D.get G ⟨A.next + 1, j, some 0⟩ = ([Value.int .i64 g.1, .int .i64 g.2.1, .int .i64 g.2.2] : List Value)[j]? := fun j => by simp only [Hp.get, d1, if_true]
  have dn := hx.next
  have hflD : fl ≤ D.next := by omega
  have ne1 : (A.next + 1 = D.next) = False := eq_false (by omega)
  have lt1 : A.next + 1 < D.next := by omega
  have lt2 : A.next + 1 < D.next + 1 := by omega
  have hxD : Xt A.next A D := ⟨fun id hid => by rw [hx.blk id (by omega), hx3.blk id hid], by omega⟩
  simp only [↓R1, R2, R3, R4, TY, reduceIte, Nat.reduceEqDiff, Nat.reduceAdd, Nat.reduceMul, Nat.reduceLT, Nat.reduceLeDiff, reduceCtorEq, decide_true, decide_false, Int.reduceLE, Int.reduceLT, Int.reduceToNat, Int.reduceAdd, Int.reduceSub, Int.reduceMul, Int.reduceEq, FE, q3, q5, q23, q24, q25, g1, lt1]
  refine ⟨fun hlt => ?_, fun hlt => ?_⟩
  rotate_left
  · refine Ended.back hA hxD (congrArg _ (dec_f ?_)) (RB.bool _)
    rw [List.take_of_length_le (by omega)] at hno
    rintro ⟨x, h1, h2⟩
    exact hno x h1 h2
  have hsD : Sl D 2 (.slice o (tk f).length c) ((tk f).map pC) := hs.keep dn fun a n c h => hx.blk _ (hlt0 a n c h)
  obtain ⟨a, rfl, -⟩ := hsD.at (G := G) (i := j) (by simpa using hlt)
  have hab : a.block < D.next := Nat.lt_of_lt_of_le (hlt0 a _ _ rfl) dn
  obtain ⟨u0, u1⟩ := pr_get (G := G) hsD hlt
  have hj63 : j < 9223372036854775807 := by omega
  simp only [↓R1, R2, R3, R4, TY, reduceIte, Nat.reduceEqDiff, Nat.reduceAdd, Nat.reduceMul, Nat.reduceLT, Nat.reduceLeDiff, reduceCtorEq, decide_true, decide_false, Int.reduceLE, Int.reduceLT, Int.reduceToNat, Int.reduceAdd, Int.reduceSub, Int.reduceMul, Int.reduceEq, FE, q3, q5, q23, q24, q25, g1, hlt, hab, hj63, u0, u1, lt1, lt2, ne1, hflD]
  generalize hE0 : (D.push (.row [Value.int .i64 0, .int .i64 0] 0 1)).put D.next (.row [Value.int .i64 (tk f)[j].1, .int .i64 (tk f)[j].2] 0 1) = E0
  have e0n : E0.next = D.next + 1 := by rw [← hE0]; rfl
  have e0b : E0.blk D.next = some (.row [Value.int .i64 (tk f)[j].1, .int .i64 (tk f)[j].2] 0 1) := by rw [← hE0]; simp [Hp.put_blk]
  have hx0 : Xt D.next D E0 := by rw [← hE0]; simp only [xt_push, xt_put, xt_refl, Nat.le_refl]
  clear hE0
  have tgD := fun fl => takes_ok (G := G) (fl := fl) (A := E0) g
  have hsg := nl_sl (A := E0) (sz := 2) (pc_len (tk g))
  have ct := fun fl => pr_contains (G := G) (fl := fl) hsg (by omega) (tk f)[j]
  simp only [fV, pV] at tgD ct
  refine call_of (tgD _) ?_
  have xg := nlH_xt (A := E0) (sz := 2) (css := (tk g).map pC)
  have eg : (nlH E0 2 ((tk g).map pC)).blk D.next = some (.row [Value.int .i64 (tk f)[j].1, .int .i64 (tk f)[j].2] 0 1) := by
    rw [xg.blk _ (by omega)]; exact e0b
  have hxE : Xt D.next D (nlH E0 2 ((tk g).map pC)) := hx0.trans xg
  have en := xg.next
  generalize nlH E0 2 ((tk g).map pC) = E at *
  have ge : ∀ i, E.get G ⟨D.next, i, some 0⟩ = ([Value.int .i64 (tk f)[j].1, .int .i64 (tk f)[j].2] : List Value)[i]? := fun i => by simp only [Hp.get, eg, if_true]
  simp only [↓R1, R2, R3, R4, TY, reduceIte, Nat.reduceEqDiff, Nat.reduceAdd, Nat.reduceMul, Nat.reduceLT, Nat.reduceLeDiff, reduceCtorEq, decide_true, decide_false, Int.reduceLE, Int.reduceLT, Int.reduceToNat, Int.reduceAdd, Int.reduceSub, Int.reduceMul, Int.reduceEq, FE, q3, q5, q23, q24, q25, ge, hj63]
  refine call_of (ct _) ?_
  simp only [↓R1, R2, R3, R4, TY, reduceIte, Nat.reduceEqDiff, Nat.reduceAdd, Nat.reduceMul, Nat.reduceLT, Nat.reduceLeDiff, reduceCtorEq, decide_true, decide_false, Int.reduceLE, Int.reduceLT, Int.reduceToNat, Int.reduceAdd, Int.reduceSub, Int.reduceMul, Int.reduceEq, FE, q3, q5, q23, q24, q25, ge, hj63]
  refine ⟨fun hc => ?_, fun hc => ?_⟩
  · refine Ended.back hA (hxD.trans hxE) (congrArg _ (dec_t ⟨_, List.getElem_mem hlt, hc⟩)) (RB.bool _)
  · refine range_on q25 hlt rfl ⟨hx.trans hxE, q3, q5, q23, q24, rfl, fun x hx' => ?_⟩
    rw [List.take_succ_eq_append_getElem hlt, List.mem_append] at hx'
    rcases hx' with hx' | hx'
    · exact hno x hx'
    · rw [List.mem_singleton] at hx'; subst hx'; exact hc

set_option maxHeartbeats 4000000 in
theorem sound_ok {v : Value} {l : List Fa} (hs : Sl A 3 v (l.map fC)) (hl : l.length ≤ 9223372036854775807) : Sound Try.prog G 8 [v] fl A (.bool (decide (∀ j (h : j < l.length), ∀ y ∈ l.take j, ¬ fclash l[j] y))) A := by
  refine Sound.of mixed Try.func8 Try.ntmps8 Try.results8 (by kernel_rfl) rfl (by kernel_rfl) (by kernel_rfl) fun hA => ?_
  obtain ⟨o, c, rfl⟩ := hs.len
  rw [List.length_map] at hs ⊢
  simp only [↓R1, R2, R3, R4, TY, reduceIte, Nat.reduceEqDiff, Nat.reduceAdd, Nat.reduceMul, Nat.reduceLT, Nat.reduceLeDiff, reduceCtorEq, decide_true, decide_false, Int.reduceLE, Int.reduceLT, Int.reduceToNat, Int.reduceAdd, Int.reduceSub, Int.reduceMul, Int.reduceEq, FE]
  refine range_of 9 l.length (fun j τ B => Xt A.next A B ∧ τ 0 = some (.slice o l.length c) ∧ τ 7 = some (.slice o l.length c) ∧ τ 8 = some (.int .i64 l.length) ∧ τ 9 = some (.int .i64 j) ∧ ∀ i (h : i < l.length), i < j → ∀ y ∈ l.take i, ¬ fclash l[i] y) ?_ ?_
  · exact ⟨Xt.refl A, rfl, rfl, rfl, rfl, fun i h hi => absurd hi (Nat.not_lt_zero _)⟩
  rintro j τ B hj ⟨hx, q0, q7, q8, q9, hno⟩
  simp only [↓R1, R2, R3, R4, TY, reduceIte, Nat.reduceEqDiff, Nat.reduceAdd, Nat.reduceMul, Nat.reduceLT, Nat.reduceLeDiff, reduceCtorEq, decide_true, decide_false, Int.reduceLE, Int.reduceLT, Int.reduceToNat, Int.reduceAdd, Int.reduceSub, Int.reduceMul, Int.reduceEq, FE, q0, q7, q8, q9]
  refine ⟨fun hlt => ?_, fun hlt => ?_⟩
  rotate_left
  · refine Ended.back hA hx (congrArg _ (dec_t fun i h => hno i h (by omega))) (RB.bool _)
  obtain ⟨a, rfl, -⟩ := hs.at (G := G) (i := j) (by simpa using hlt)
  have hsB := hs.xt hA hx
  have hab : a.block < B.next := Nat.lt_of_lt_of_le (hs.lt hA) hx.next
  have hflB : fl ≤ B.next := Nat.le_trans hA.floor hx.next
  obtain ⟨u0, u1, u2⟩ := fa3_get (G := G) hsB hlt
  have hj63 : j < 9223372036854775807 := by omega
  have hes := hsB.esz
  have hjl : j ≤ l.length := by omega
  have hn1 : ¬ a.block = B.next := by omega
  have hn1' := eq_false hn1
  have hes2 : eszOK ((B.push (.row [Value.int .i64 0, .int .i64 0, .int .i64 0] 0 3)).put B.next (.row [Value.int .i64 l[j].1, .int .i64 l[j].2.1, .int .i64 l[j].2.2] 0 3)) a.block 3 := by
    unfold eszOK; intro cs g e h
    rw [Hp.put_blk, if_neg hn1, Hp.push_blk, if_neg hn1] at h
    exact hes cs g e h
  simp only [↓R1, R2, R3, R4, TY, reduceIte, Nat.reduceEqDiff, Nat.reduceAdd, Nat.reduceMul, Nat.reduceLT, Nat.reduceLeDiff, reduceCtorEq, decide_true, decide_false, Int.reduceLE, Int.reduceLT, Int.reduceToNat, Int.reduceAdd, Int.reduceSub, Int.reduceMul, Int.reduceEq, FE, q0, q7, q8, q9, hlt, hab, hj63, u0, u1, u2, hflB, hjl, hn1', hes2]
  generalize hE0 : (B.push (.row [Value.int .i64 0, .int .i64 0, .int .i64 0] 0 3)).put B.next (.row [Value.int .i64 l[j].1, .int .i64 l[j].2.1, .int .i64 l[j].2.2] 0 3) = E0
  have e0n : E0.next = B.next + 1 := by rw [← hE0]; rfl
  have e0b : E0.blk B.next = some (.row [Value.int .i64 l[j].1, .int .i64 l[j].2.1, .int .i64 l[j].2.2] 0 3) := by rw [← hE0]; simp [Hp.put_blk]
  have hx0 : Xt B.next B E0 := by rw [← hE0]; simp only [xt_push, xt_put, xt_refl, Nat.le_refl]
  clear hE0 hes2
  refine range_of 18 j (fun i τ D => Xt E0.next E0 D ∧ τ 0 = some (.slice (some a) l.length c) ∧ τ 7 = some (.slice (some a) l.length c) ∧ τ 8 = some (.int .i64 l.length) ∧ τ 9 = some (.int .i64 j) ∧ τ 4 = some (.pointer (some ⟨B.next, 0, some 0⟩)) ∧
      τ 16 = some (.slice (some a) j c) ∧ τ 17 = some (.int .i64 j) ∧ τ 18 = some (.int .i64 i) ∧ ∀ y ∈ l.take i, ¬ fclash l[j] y) ?_ ?_
  · exact ⟨Xt.refl _, q0, q7, q8, q9, rfl, rfl, rfl, rfl, by simp⟩
  rintro i τ D hi ⟨hxD, r0, r7, r8, r9, r4, r16, r17, r18, hni⟩
  have dn := hxD.next
  have d4 : D.blk B.next = some (.row [Value.int .i64 l[j].1, .int .i64 l[j].2.1, .int .i64 l[j].2.2] 0 3) := by rw [hxD.blk _ (by omega)]; exact e0b
  have g4 : ∀ i, D.get G ⟨B.next, i, some 0⟩ = ([Value.int .i64 l[j].1, .int .i64 l[j].2.1, .int .i64 l[j].2.2] : List Value)[i]? := fun i => by simp only [Hp.get, d4, if_true]
  have hxBD : Xt B.next B D := hx0.trans hxD
  have hxAD : Xt A.next A D := hx.trans hxBD
  have hsD := hs.xt hA hxAD
  have lt4 : B.next < D.next := by omega
  have lt5 : B.next < D.next + 1 := by omega
  have ne4 : (B.next = D.next) = False := eq_false (by omega)
  have hflD : fl ≤ D.next := by omega
  have habD : a.block < D.next := by omega
  simp only [↓R1, R2, R3, R4, TY, reduceIte, Nat.reduceEqDiff, Nat.reduceAdd, Nat.reduceMul, Nat.reduceLT, Nat.reduceLeDiff, reduceCtorEq, decide_true, decide_false, Int.reduceLE, Int.reduceLT, Int.reduceToNat, Int.reduceAdd, Int.reduceSub, Int.reduceMul, Int.reduceEq, FE, r0, r7, r8, r9, r4, r16, r17, r18, g4, lt4]
  refine ⟨fun hlt2 => ?_, fun hlt2 => ?_⟩
  rotate_left
  · have hi63 : j < 9223372036854775807 := by omega
    simp only [↓R1, R2, R3, R4, TY, reduceIte, Nat.reduceEqDiff, Nat.reduceAdd, Nat.reduceMul, Nat.reduceLT, Nat.reduceLeDiff, reduceCtorEq, decide_true, decide_false, Int.reduceLE, Int.reduceLT, Int.reduceToNat, Int.reduceAdd, Int.reduceSub, Int.reduceMul, Int.reduceEq, FE, r0, r7, r8, r9, r4, r16, r17, r18, hi63]
    refine range_on q9 hlt rfl ⟨hxAD, r0, r7, r8, rfl, fun i' h' hi' y hy => ?_⟩
    have hij : i = j := by omega
    subst hij
    rcases Nat.lt_or_ge i' i with h1 | h1
    · exact hno i' h' h1 y hy
    · obtain rfl : i' = i := by omega
      exact hni y hy
  have hli : i < l.length := by omega
  obtain ⟨v0, v1, v2⟩ := fa3_get (G := G) hsD hli
  have hi63 : i < 9223372036854775807 := by omega
  simp only [↓R1, R2, R3, R4, TY, reduceIte, Nat.reduceEqDiff, Nat.reduceAdd, Nat.reduceMul, Nat.reduceLT, Nat.reduceLeDiff, reduceCtorEq, decide_true, decide_false, Int.reduceLE, Int.reduceLT, Int.reduceToNat, Int.reduceAdd, Int.reduceSub, Int.reduceMul, Int.reduceEq, FE, r0, r7, r8, r9, r4, r16, r17, r18, g4, lt4, lt5, ne4, hflD, hlt2, v0, v1, v2, habD]
  generalize hF : (D.push (.row [Value.int .i64 0, .int .i64 0, .int .i64 0] 0 3)).put D.next (.row [Value.int .i64 l[i].1, .int .i64 l[i].2.1, .int .i64 l[i].2.2] 0 3) = F0
  have hxF : Xt D.next D F0 := by rw [← hF]; simp only [xt_push, xt_put, xt_refl, Nat.le_refl]
  have cl := fun fl A => fclash_ok (G := G) (fl := fl) (A := A) l[j] l[i]
  simp only [fV] at cl
  refine call_of (cl _ _) ?_
  simp only [↓R1, R2, R3, R4, TY, reduceIte, Nat.reduceEqDiff, Nat.reduceAdd, Nat.reduceMul, Nat.reduceLT, Nat.reduceLeDiff, reduceCtorEq, decide_true, decide_false, Int.reduceLE, Int.reduceLT, Int.reduceToNat, Int.reduceAdd, Int.reduceSub, Int.reduceMul, Int.reduceEq, FE, r0, r7, r8, r9, r4, r16, r17, r18, hi63]
  refine ⟨fun hc => ?_, fun hc => ?_⟩
  · refine Ended.back hA (hxAD.trans hxF) (congrArg _ (dec_f fun h => h j hlt l[i] ?_ hc)) (RB.bool _)
    exact List.mem_take_iff_getElem.2 ⟨i, by omega, rfl⟩
  · refine range_on r18 hlt2 rfl ⟨hxD.trans hxF, r0, r7, r8, r9, r4, r16, r17, rfl, fun y hy => ?_⟩
    rw [List.take_succ_eq_append_getElem hli, List.mem_append] at hy
    rcases hy with hy | hy
    · exact hni y hy
    · rw [List.mem_singleton] at hy; subst hy; exact hc
end
end Go.Proofs.Ythchdnaabamplaa.Ab
