/- Polygons: left, check, Has, Support, Area. -/
import Derived.Test.YthclikeipdplpaaDoorYa
namespace Go.Proofs.YthclikeipdplpaaDoor.Ab
open Go.RowKit
set_option linter.unusedVariables false
set_option linter.unusedSimpArgs false
set_option maxRecDepth 100000

/-- A point's cells; a point within bounds. -/
def vC (p : V2) : List Value := prC p.1 p.2
theorem vC_def (p : V2) : vC p = [.bool (decide (p.1.num < 0)), .string (S (nb p.1.num.natAbs)), .string (S (nb p.1.den)), .bool (decide (p.2.num < 0)), .string (S (nb p.2.num.natAbs)), .string (S (nb p.2.den))] := rfl
def Pz (p : V2) (k : Nat) : Prop := Rz p.1 k ∧ Rz p.2 k
def Lz (l : List V2) (k : Nat) : Prop := ∀ p ∈ l, Pz p k
theorem pget_mem {l : List V2} {i : Nat} (h : i < l.length) : pget l i ∈ l := by
  have : pget l i = l[i] := by simp [pget, h]
  rw [this]; exact List.getElem_mem _
theorem Lz.at {l : List V2} {k i : Nat} (h : Lz l k) (hi : i < l.length) : Pz (pget l i) k := h _ (pget_mem hi)
theorem vec_get {G : Gl} {B : Hp} {a : Addr} {n c : Nat} {l : List V2} (h : Sl B 6 (.slice (some a) n c) (l.map vC)) {i : Nat} (hi : i < l.length) :
    B.get G (aadd a (i * 6)) = some (.bool (decide ((pget l i).1.num < 0))) ∧ B.get G (aadd a (i * 6 + 1)) = some (.string (S (nb (pget l i).1.num.natAbs))) ∧ B.get G (aadd a (i * 6 + 2)) = some (.string (S (nb (pget l i).1.den))) ∧
    B.get G (aadd a (i * 6 + 3)) = some (.bool (decide ((pget l i).2.num < 0))) ∧ B.get G (aadd a (i * 6 + 4)) = some (.string (S (nb (pget l i).2.num.natAbs))) ∧ B.get G (aadd a (i * 6 + 5)) = some (.string (S (nb (pget l i).2.den))) := by
  have e : pget l i = l[i] := by simp [pget, hi]
  rw [e]
  obtain ⟨a', h1, h2⟩ := h.at (G := G) (i := i) (by simpa using hi)
  cases h1
  simp only [List.getElem_map] at h2
  exact ⟨h2 0 _ rfl, h2 1 _ rfl, h2 2 _ rfl, h2 3 _ rfl, h2 4 _ rfl, h2 5 _ rfl⟩
theorem tmod_nat (m n : Nat) : ((m : Nat) : Int).tmod ((n : Nat) : Int) = ((m % n : Nat) : Int) := by
  rw [Int.tmod_eq_emod_of_nonneg (by omega)]; rfl
theorem rsign_le {p : Rat} : rsign p ≤ 0 ↔ ¬ 0 < p := by
  unfold rsign
  have h : p.num < 0 ↔ p < 0 := num_neg_iff
  have h0 : p.num = 0 ↔ p = 0 := Rat.num_eq_zero
  split
  · rename_i e; rw [h0] at e; subst e; exact ⟨fun _ => by decide, fun _ => by decide⟩
  · rename_i e; rw [h0] at e
    split
    · rename_i h1; rw [h] at h1; exact ⟨fun _ => by grind, fun _ => by decide⟩
    · rename_i h1; rw [h] at h1; exact ⟨fun h2 => absurd h2 (by decide), fun h2 => by grind⟩
theorem cvx_no {l : List V2} {i k : Nat} (h2 : 2 ≤ k) (hk : k < l.length) (hi : i < l.length) (h : ¬ 0 < crs (pget l i) (pget l ((i + 1) % l.length)) (pget l ((i + k) % l.length))) : ¬ cvxB l = true := by
  rw [cvxB_iff]; exact fun hc => h (hc i hi k h2 hk)

section
variable {G : Gl} {fl : Nat} {A : Hp}

set_option maxHeartbeats 2000000 in
theorem pleft {a b c : V2} {k : Nat} (hG : G 1 = some tabV) (ha : Pz a k) (hb : Pz b k) (hc : Pz c k) (hk : k ≤ 2000) : Sound Tryd.prog G 56 [prV a.1 a.2, prV b.1 b.2, prV c.1 c.2] fl A (.int .i64 (rsign (crs a b c))) A := by
  refine Sound.of mixed Tryd.func56 Tryd.ntmps56 Tryd.results56 (by kernel_rfl) rfl (by kernel_rfl) (by simp) fun hA => ?_
  have hfl : fl ≤ A.next := by have := hA.floor; omega
  have hfl1 : fl ≤ A.next + 1 := by have := hA.floor; omega
  have hfl2 : fl ≤ A.next + 2 := by have := hA.floor; omega
  have hfl3 : fl ≤ A.next + 3 := by have := hA.floor; omega
  have hfl4 : fl ≤ A.next + 4 := by have := hA.floor; omega
  have hfl5 : fl ≤ A.next + 5 := by have := hA.floor; omega
  have hfl6 : fl ≤ A.next + 6 := by have := hA.floor; omega
  obtain ⟨ha1, ha2⟩ := ha
  obtain ⟨hb1, hb2⟩ := hb
  obtain ⟨hc1, hc2⟩ := hc
  have s1 := fun fl A => vsub (G := G) (fl := fl) (A := A) hG hb1 hb2 ha1 ha2 (by omega)
  have s2 := fun fl A => vsub (G := G) (fl := fl) (A := A) hG hc1 hc2 ha1 ha2 (by omega)
  have cr := fun fl A => vcross (G := G) (fl := fl) (A := A) hG (hb1.sub ha1) (hb2.sub ha2) (hc1.sub ha1) (hc2.sub ha2) (by omega)
  have sg := fun fl A => qsign (G := G) (fl := fl) (A := A) hG (((hb1.sub ha1).mul (hc2.sub ha2)).sub ((hb2.sub ha2).mul (hc1.sub ha1))) (by omega)
  simp only [prV_def] at s1 s2 cr ⊢
  simp only [ratV_def] at cr sg
  simp only [↓R1, R2, R3, R4, TY, reduceIte, Nat.reduceEqDiff, Nat.reduceAdd, Nat.reduceMul, Nat.reduceLT, Nat.reduceLeDiff, reduceCtorEq, decide_true, decide_false, Int.reduceLE, Int.reduceLT, Int.reduceToNat, Int.reduceAdd, Int.reduceSub, Int.reduceMul, Int.reduceEq, hfl, hfl1, hfl2, hfl3, hfl4, hfl5, hfl6, NE, NE9, Nat.add_assoc]
  refine call_of (s1 _ _) ?_
  simp only [↓R1, R2, R3, R4, TY, reduceIte, Nat.reduceEqDiff, Nat.reduceAdd, Nat.reduceMul, Nat.reduceLT, Nat.reduceLeDiff, reduceCtorEq, decide_true, decide_false, Int.reduceLE, Int.reduceLT, Int.reduceToNat, Int.reduceAdd, Int.reduceSub, Int.reduceMul, Int.reduceEq, hfl, hfl1, hfl2, hfl3, hfl4, hfl5, hfl6, NE, NE9, Nat.add_assoc]
  refine call_of (s2 _ _) ?_
  simp only [↓R1, R2, R3, R4, TY, reduceIte, Nat.reduceEqDiff, Nat.reduceAdd, Nat.reduceMul, Nat.reduceLT, Nat.reduceLeDiff, reduceCtorEq, decide_true, decide_false, Int.reduceLE, Int.reduceLT, Int.reduceToNat, Int.reduceAdd, Int.reduceSub, Int.reduceMul, Int.reduceEq, hfl, hfl1, hfl2, hfl3, hfl4, hfl5, hfl6, NE, NE9, Nat.add_assoc]
  refine call_of (cr _ _) ?_
  simp only [↓R1, R2, R3, R4, TY, reduceIte, Nat.reduceEqDiff, Nat.reduceAdd, Nat.reduceMul, Nat.reduceLT, Nat.reduceLeDiff, reduceCtorEq, decide_true, decide_false, Int.reduceLE, Int.reduceLT, Int.reduceToNat, Int.reduceAdd, Int.reduceSub, Int.reduceMul, Int.reduceEq, hfl, hfl1, hfl2, hfl3, hfl4, hfl5, hfl6, NE, NE9, Nat.add_assoc]
  refine call_of (sg _ _) ?_
  simp only [↓R1, R2, R3, R4, TY, reduceIte, Nat.reduceEqDiff, Nat.reduceAdd, Nat.reduceMul, Nat.reduceLT, Nat.reduceLeDiff, reduceCtorEq, decide_true, decide_false, Int.reduceLE, Int.reduceLT, Int.reduceToNat, Int.reduceAdd, Int.reduceSub, Int.reduceMul, Int.reduceEq, hfl, hfl1, hfl2, hfl3, hfl4, hfl5, hfl6, NE, NE9, Nat.add_assoc]
  refine Ended.back hA ?_ rfl (RB.int _ _)
  simp (maxDischargeDepth := 20) only [xt_push, xt_put, xt_refl, Nat.le_refl, Nat.le_add_right, Nat.add_assoc, Nat.reduceAdd]

set_option maxHeartbeats 4000000 in
theorem pcheck {v : Value} {l : List V2} {k most : Nat} (hG : G 1 = some tabV) (hs : Sl A 6 v (l.map vC)) (hz : Lz l k) (hk : k ≤ 2000) (hl : l.length < 4611686018427387904) (hm : most < 4611686018427387904) :
    Sound Tryd.prog G 49 [v, .int .i64 (most : Nat)] fl A (.int .i64 (pchk l most)) A := by
  refine Sound.of mixed Tryd.func49 Tryd.ntmps49 Tryd.results49 (by kernel_rfl) rfl (by kernel_rfl) (by simp) fun hA => ?_
  obtain ⟨o, c, rfl⟩ := hs.len
  rw [List.length_map] at hs ⊢
  have c3 : (((l.length : Nat) : Int) < 3) = (l.length < 3) := by simp only [eq_iff_iff]; omega
  simp only [↓R1, R2, R3, R4, TY, reduceIte, Nat.reduceEqDiff, Nat.reduceAdd, Nat.reduceMul, Nat.reduceLT, Nat.reduceLeDiff, reduceCtorEq, decide_true, decide_false, Int.reduceLE, Int.reduceLT, Int.reduceToNat, Int.reduceAdd, Int.reduceSub, Int.reduceMul, Int.reduceEq, c3]
  refine ⟨fun h1 => ?_, fun h1 => ⟨fun h2 => ?_, fun h2 => ?_⟩⟩
  · refine Ended.back hA (Xt.refl _) ?_ (RB.int _ _)
    unfold pchk; rw [if_pos (by omega)]
  · refine Ended.back hA (Xt.refl _) ?_ (RB.int _ _)
    unfold pchk; rw [if_neg (by omega), if_pos h2]
  refine range_of 20 l.length (fun i τ C => Xt A.next A C ∧ τ 0 = some (.slice o l.length c) ∧ τ 18 = some (.slice o l.length c) ∧ τ 19 = some (.int .i64 (l.length : Nat)) ∧ τ 20 = some (.int .i64 (i : Nat)) ∧ τ 5 = some (.int .i64 (l.length : Nat)) ∧
    ∀ j, j < i → ∀ m, 2 ≤ m → m < l.length → 0 < crs (pget l j) (pget l ((j + 1) % l.length)) (pget l ((j + m) % l.length))) ?_ ?_
  · exact ⟨Xt.refl _, rfl, rfl, rfl, rfl, rfl, fun j h => absurd h (by omega)⟩
  rintro i τ C hi ⟨hx, q0, q18, q19, q20, q5, hok⟩
  simp only [↓R1, R2, R3, R4, TY, reduceIte, Nat.reduceEqDiff, Nat.reduceAdd, Nat.reduceMul, Nat.reduceLT, Nat.reduceLeDiff, reduceCtorEq, decide_true, decide_false, Int.reduceLE, Int.reduceLT, Int.reduceToNat, Int.reduceAdd, Int.reduceSub, Int.reduceMul, Int.reduceEq, q0, q18, q19, q20, q5]
  refine ⟨fun hlt => ?_, fun hlt => ?_⟩
  rotate_left
  · refine Ended.back hA hx ?_ (RB.int _ _)
    have hc : cvxB l = true := cvxB_iff.2 fun j hj m h2 hm => hok j (by omega) m h2 hm
    unfold pchk; rw [if_neg (by omega), if_neg h2, if_pos hc]
  have hlt' : i < l.length := by omega
  obtain ⟨a, rfl, -⟩ := hs.at (G := G) (i := i) (by simpa using hlt')
  have hsC := hs.xt hA hx
  have hac : a.block < C.next := Nat.lt_of_lt_of_le (hs.lt hA) hx.next
  have hflC : fl ≤ C.next := Nat.le_trans hA.floor hx.next
  obtain ⟨g0, g1, g2, g3, g4, g5⟩ := vec_get (G := G) hsC hlt'
  have gs := g0
  simp only [↓R1, R2, R3, R4, TY, reduceIte, Nat.reduceEqDiff, Nat.reduceAdd, Nat.reduceMul, Nat.reduceLT, Nat.reduceLeDiff, reduceCtorEq, decide_true, decide_false, Int.reduceLE, Int.reduceLT, Int.reduceToNat, Int.reduceAdd, Int.reduceSub, Int.reduceMul, Int.reduceEq, q0, q18, q19, q20, q5, hlt, g0, g1, g2, g3, g4, g5, hac, hflC]
  generalize hD : Hp.put _ _ _ = D
  have hxD : Xt A.next A D := by rw [← hD]; simp only [xt_push, xt_put, hx, hx.next]
  have hnD : D.next = C.next + 1 := by rw [← hD]; rfl
  have k0 : ∀ j, D.get G ⟨C.next, j, some 0⟩ = (vC (pget l i))[j]? := fun j => by
    rw [← hD]; simp [Hp.get, Hp.put_blk, vC_def]
  clear hD
  refine for_of 8 2 (l.length - 2) (fun m τ E => Xt A.next A E ∧ C.next < E.next ∧ (∀ j, E.get G ⟨C.next, j, some 0⟩ = (vC (pget l i))[j]?) ∧ τ 0 = some (.slice (some a) l.length c) ∧ τ 18 = some (.slice (some a) l.length c) ∧ τ 19 = some (.int .i64 (l.length : Nat)) ∧ τ 20 = some (.int .i64 (i : Nat)) ∧ τ 5 = some (.int .i64 (l.length : Nat)) ∧
    τ 6 = some (.int .i64 (i : Nat)) ∧ τ 7 = some (.pointer (some ⟨C.next, 0, some 0⟩)) ∧ τ 8 = some (.int .i64 ((m + 2 : Nat) : Int)) ∧
    ∀ n, 2 ≤ n → n < m + 2 → 0 < crs (pget l i) (pget l ((i + 1) % l.length)) (pget l ((i + n) % l.length))) ?_ ?_
  · exact ⟨hxD, by omega, k0, q0, q18, q19, q20, q5, rfl, rfl, rfl, fun n h2 h => absurd h (by omega)⟩
  rintro m τ' E hm' ⟨hxE, hcE, kE, r0, r18, r19, r20, r5, r6, r7, r8, hokm⟩
  have hi63 : i < 9223372036854775807 := by omega
  have cm : (((m + 2 : Nat) : Int) < ((l.length : Nat) : Int)) = (m + 2 < l.length) := by simp only [eq_iff_iff]; omega
  have w1 : IntKind.i64.wrap (((i : Nat) : Int) + 1) = ((i + 1 : Nat) : Int) := wrapI (by omega)
  have w2 : IntKind.i64.wrap (((i : Nat) : Int) + ((m + 2 : Nat) : Int)) = ((i + (m + 2) : Nat) : Int) := by rw [wrapI (by omega)]; omega
  have w3 : IntKind.i64.wrap (((m + 2 : Nat) : Int) + 1) = ((m + 1 + 2 : Nat) : Int) := by rw [wrapI (by omega)]; omega
  have n0 : (((l.length : Nat) : Int) = 0) = False := eq_false (by omega)
  have l1 : (i + 1) % l.length < l.length := mod_lt' hlt' _
  have l2 : (i + (m + 2)) % l.length < l.length := mod_lt' hlt' _
  have hsE := hs.xt hA hxE
  obtain ⟨u0, u1, u2, u3, u4, u5⟩ := vec_get (G := G) hsE l1
  obtain ⟨v0, v1, v2, v3, v4, v5⟩ := vec_get (G := G) hsE l2
  have hflE : fl ≤ E.next := Nat.le_trans hA.floor hxE.next
  have pl := fun fl A => pleft (G := G) (fl := fl) (A := A) hG (hz.at hlt') (hz.at l1) (hz.at l2) hk
  simp only [prV_def] at pl
  simp only [↓R1, R2, R3, R4, TY, reduceIte, Nat.reduceEqDiff, Nat.reduceAdd, Nat.reduceMul, Nat.reduceLT, Nat.reduceLeDiff, reduceCtorEq, decide_true, decide_false, Int.reduceLE, Int.reduceLT, Int.reduceToNat, Int.reduceAdd, Int.reduceSub, Int.reduceMul, Int.reduceEq, r0, r18, r19, r20, r5, r6, r7, r8, cm]
  refine ⟨fun hml => ?_, fun hml => ?_⟩
  · simp only [↓R1, R2, R3, R4, TY, reduceIte, Nat.reduceEqDiff, Nat.reduceAdd, Nat.reduceMul, Nat.reduceLT, Nat.reduceLeDiff, reduceCtorEq, decide_true, decide_false, Int.reduceLE, Int.reduceLT, Int.reduceToNat, Int.reduceAdd, Int.reduceSub, Int.reduceMul, Int.reduceEq, r0, r18, r19, r20, r5, r6, r7, r8, w1, w2, tmod_nat, n0, l1, l2, kE, vC_def, u0, u1, u2, u3, u4, u5, v0, v1, v2, v3, v4, v5, hflE]
    refine call_of (pl _ _) ?_
    simp only [↓R1, R2, R3, R4, TY, reduceIte, Nat.reduceEqDiff, Nat.reduceAdd, Nat.reduceMul, Nat.reduceLT, Nat.reduceLeDiff, reduceCtorEq, decide_true, decide_false, Int.reduceLE, Int.reduceLT, Int.reduceToNat, Int.reduceAdd, Int.reduceSub, Int.reduceMul, Int.reduceEq, rsign_le]
    refine ⟨fun hbad => ?_, fun hgood => ?_⟩
    · refine Ended.back hA hxE ?_ (RB.int _ _)
      have hc := cvx_no (l := l) (by omega) hml hlt' hbad
      unfold pchk; rw [if_neg (by omega), if_neg h2, if_neg hc]
    · simp only [↓R1, R2, R3, R4, TY, reduceIte, Nat.reduceEqDiff, Nat.reduceAdd, Nat.reduceMul, Nat.reduceLT, Nat.reduceLeDiff, reduceCtorEq, decide_true, decide_false, Int.reduceLE, Int.reduceLT, Int.reduceToNat, Int.reduceAdd, Int.reduceSub, Int.reduceMul, Int.reduceEq, r0, r18, r19, r20, r5, r6, r7, r8, w3]
      refine for_on r8 (by omega) (by omega) rfl (by omega) ⟨hxE, hcE, kE, r0, r18, r19, r20, r5, r6, r7, rfl, fun n h2 hn => ?_⟩
      by_cases e : n = m + 2
      · subst e; exact Classical.not_not.1 hgood
      · exact hokm n h2 (by omega)
  · simp only [↓R1, R2, R3, R4, TY, reduceIte, Nat.reduceEqDiff, Nat.reduceAdd, Nat.reduceMul, Nat.reduceLT, Nat.reduceLeDiff, reduceCtorEq, decide_true, decide_false, Int.reduceLE, Int.reduceLT, Int.reduceToNat, Int.reduceAdd, Int.reduceSub, Int.reduceMul, Int.reduceEq, r0, r18, r19, r20, r5, r6, r7, r8, hi63]
    refine range_on q20 hlt' rfl ⟨hxE, r0, r18, r19, rfl, r5, fun j hj n h2 hn => ?_⟩
    by_cases e : j = i
    · subst e; exact hokm n h2 (by omega)
    · exact hok j (by omega) n h2 hn
end
end Go.Proofs.YthclikeipdplpaaDoor.Ab
