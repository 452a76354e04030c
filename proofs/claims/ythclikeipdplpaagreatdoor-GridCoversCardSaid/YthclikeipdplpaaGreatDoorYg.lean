/- Polygons: Convex, Check, Has, Area, Support; gantmake.Poly. -/
import Derived.Test.YthclikeipdplpaaGreatDoorYe
namespace Go.Proofs.YthclikeipdplpaaGreatDoor.Ab
open Go.RowKit
set_option linter.unusedVariables false
set_option linter.unusedSimpArgs false
set_option maxRecDepth 100000

theorem hasB_no {l : List V2} {p : V2} {i : Nat} (hi : i < l.length) (h : ¬ 0 ≤ crs (pget l i) (pget l ((i + 1) % l.length)) p) : hasB l p = false := by
  rw [Bool.eq_false_iff]
  unfold hasB
  simp only [ne_eq, List.all_eq_true, List.mem_range, decide_eq_true_eq]
  exact fun hc => h (hc i hi)
theorem hasB_yes {l : List V2} {p : V2} (h : ∀ i, i < l.length → 0 ≤ crs (pget l i) (pget l ((i + 1) % l.length)) p) : hasB l p = true := by
  unfold hasB
  simp only [List.all_eq_true, List.mem_range, decide_eq_true_eq]
  exact h
theorem phas_0 {l : List V2} {p : V2} (h : pchk l 64 = 0) : phas l p = hasB l p := by unfold phas; rw [h]; rfl
theorem phas_n {l : List V2} {p : V2} (h : ¬ pchk l 64 = 0) : phas l p = false := by
  unfold phas
  rw [show (pchk l 64 == 0) = false from beq_eq_false_iff_ne.2 h]; rfl
/-- The farthest of the first corners. -/
def bst (l : List V2) (d : V2) : Nat → Nat
  | 0 => 0
  | n + 1 => if dt (pget l (bst l d n)) d < dt (pget l n) d then n else bst l d n
theorem bst_lt {l : List V2} {d : V2} : ∀ n, 0 < n → bst l d n < n
  | 0, h => absurd h (by omega)
  | n + 1, _ => by
    unfold bst
    split
    · omega
    · rcases Nat.eq_zero_or_pos n with h | h
      · subst h; unfold bst; omega
      · have := bst_lt (l := l) (d := d) n h; omega
theorem bst_max {l : List V2} {d : V2} : ∀ n j, j < n → dt (pget l j) d ≤ dt (pget l (bst l d n)) d
  | 0, j, h => absurd h (by omega)
  | n + 1, j, h => by
    unfold bst
    by_cases hj : j = n
    · subst hj
      split
      · exact Rat.le_refl
      · rename_i hh; exact Rat.not_lt.1 hh
    · have ih := bst_max (l := l) (d := d) n j (by omega)
      split
      · rename_i hh; exact Rat.le_trans ih (Rat.le_of_lt hh)
      · exact ih
theorem rz_dbl {l : List V2} {k : Nat} (hz : Lz l k) : ∀ n, n ≤ l.length → Rz (dbl l n) (1 + n * (4 * k + 2))
  | 0, _ => by
    have : Rz (0 : Rat) 1 := Rz.of (n := 0) (k := 1) (by simp [nb_zero]) (Nat.le_refl _)
    unfold dbl; exact this.mono (by omega)
  | n + 1, h => by
    have ih := rz_dbl hz n (by omega)
    have h1 := hz.at (i := n) (by omega)
    have h2 := hz.at (i := (n + 1) % l.length) (mod_lt' (show n < l.length by omega) _)
    unfold dbl
    exact (ih.add ((h1.1.mul h2.2).sub (h1.2.mul h2.1))).mono (by rw [Nat.succ_mul n]; generalize n * (4 * k + 2) = X; omega)
theorem half_eq : rOf 1 / rOf 2 = 1 / 2 := by rw [rOf_eq, rOf_eq]; rfl
theorem rz_half : Rz (1 / 2 : Rat) 2 := by rw [← half_eq]; exact (Rz.of (n := 1) (k := 1) (by rw [show (1 : Int).natAbs = 1 from rfl, nb_one]; decide) (Nat.le_refl _)).div (Rz.of (n := 2) (k := 1) (nb_len_le.2 (by decide)) (Nat.le_refl _)) (num_ne (by rw [rOf_eq]; decide))
theorem parea_0 {l : List V2} (h : pchk l 64 = 0) : parea l = rOf 1 / rOf 2 * dbl l l.length := by rw [half_eq]; unfold parea; rw [if_pos h]
theorem parea_n {l : List V2} (h : ¬ pchk l 64 = 0) : parea l = rOf 0 := by unfold parea; rw [if_neg h, rOf_eq]; rfl
theorem rz_parea {l : List V2} {k : Nat} (hz : Lz l k) : Rz (parea l) (3 + l.length * (4 * k + 2)) := by
  unfold parea
  split
  · exact (rz_half.mul (rz_dbl hz l.length (Nat.le_refl _))).mono (by generalize l.length * (4 * k + 2) = X; omega)
  · have : Rz (0 : Rat) 1 := Rz.of (n := 0) (k := 1) (by simp [nb_zero]) (Nat.le_refl _)
    exact this.mono (by omega)
def rC (q : Rat) : List Value := [.bool (decide (q.num < 0)), .string (S (nb q.num.natAbs)), .string (S (nb q.den))]

section
variable {G : Gl} {fl : Nat} {A : Hp}

set_option maxHeartbeats 2000000 in
theorem pconvex {v : Value} {l : List V2} {k : Nat} (hG : G 1 = some tabV) (hs : Sl A 6 v (l.map vC)) (hz : Lz l k) (hk : k ≤ 2000) (hl : l.length < 4611686018427387904) : Sound Tryz.prog G 29 [v] fl A (.int .i64 (pchk l 64)) A := by
  refine Sound.of mixed Tryz.func29 Tryz.ntmps29 Tryz.results29 (by kernel_rfl) rfl (by kernel_rfl) (by simp) fun hA => ?_
  have hfl : fl ≤ A.next := by have := hA.floor; omega
  have hfl1 : fl ≤ A.next + 1 := by have := hA.floor; omega
  have hfl2 : fl ≤ A.next + 2 := by have := hA.floor; omega
  have hfl3 : fl ≤ A.next + 3 := by have := hA.floor; omega
  have hfl4 : fl ≤ A.next + 4 := by have := hA.floor; omega
  have hfl5 : fl ≤ A.next + 5 := by have := hA.floor; omega
  have hfl6 : fl ≤ A.next + 6 := by have := hA.floor; omega
  have ck := fun fl (A : Hp) (hs : Sl A 6 v (l.map vC)) => pcheck (G := G) (fl := fl) (A := A) (most := 64) hG hs hz hk hl (by decide)
  simp only [↓R1, R2, R3, R4, TY, reduceIte, Nat.reduceEqDiff, Nat.reduceAdd, Nat.reduceMul, Nat.reduceLT, Nat.reduceLeDiff, reduceCtorEq, decide_true, decide_false, Int.reduceLE, Int.reduceLT, Int.reduceToNat, Int.reduceAdd, Int.reduceSub, Int.reduceMul, Int.reduceEq, hfl, hfl1, hfl2, hfl3, hfl4, hfl5, hfl6, NE]
  refine call_of (ck _ _ hs) ?_
  simp only [↓R1, R2, R3, R4, TY, reduceIte, Nat.reduceEqDiff, Nat.reduceAdd, Nat.reduceMul, Nat.reduceLT, Nat.reduceLeDiff, reduceCtorEq, decide_true, decide_false, Int.reduceLE, Int.reduceLT, Int.reduceToNat, Int.reduceAdd, Int.reduceSub, Int.reduceMul, Int.reduceEq, hfl, hfl1, hfl2, hfl3, hfl4, hfl5, hfl6, NE]
  refine Ended.back hA (Xt.refl _) rfl (RB.int _ _)

set_option maxHeartbeats 4000000 in
theorem phas_ok {v : Value} {l : List V2} {k : Nat} {p : V2} (hG : G 1 = some tabV) (hs : Sl A 6 v (l.map vC)) (hz : Lz l k) (hk : k ≤ 2000) (hl : l.length < 4611686018427387904) (hp : Pz p k) : Sound Tryz.prog G 28 [v, prV p.1 p.2] fl A (.bool (phas l p)) A := by
  refine Sound.of mixed Tryz.func28 Tryz.ntmps28 Tryz.results28 (by kernel_rfl) rfl (by kernel_rfl) (by simp) fun hA => ?_
  obtain ⟨o, c, rfl⟩ := hs.len
  have hfl : fl ≤ A.next := by have := hA.floor; omega
  have hfl1 : fl ≤ A.next + 1 := by have := hA.floor; omega
  have hfl2 : fl ≤ A.next + 2 := by have := hA.floor; omega
  have hfl3 : fl ≤ A.next + 3 := by have := hA.floor; omega
  have hfl4 : fl ≤ A.next + 4 := by have := hA.floor; omega
  have hfl5 : fl ≤ A.next + 5 := by have := hA.floor; omega
  have hfl6 : fl ≤ A.next + 6 := by have := hA.floor; omega
  have cx := fun fl (A : Hp) (hs : Sl A 6 (.slice o (l.map vC).length c) (l.map vC)) => pconvex (G := G) (fl := fl) (A := A) hG hs hz hk hl
  rw [List.length_map] at hs cx ⊢
  have hp0 : (prV p.1 p.2) = .agg #[.bool (decide (p.1.num < 0)), .string (S (nb p.1.num.natAbs)), .string (S (nb p.1.den)), .bool (decide (p.2.num < 0)), .string (S (nb p.2.num.natAbs)), .string (S (nb p.2.den))] := prV_def _ _
  rw [hp0]
  have hsP : ∀ b, Sl (A.push b) 6 (.slice o l.length c) (l.map vC) := fun b => hs.xt hA ((Xt.refl A).push _)
  by_cases hc : pchk l 64 = 0
  rotate_left
  · have hc' : (pchk l 64 = 0) = False := eq_false hc
    simp only [↓R1, R2, R3, R4, TY, reduceIte, Nat.reduceEqDiff, Nat.reduceAdd, Nat.reduceMul, Nat.reduceLT, Nat.reduceLeDiff, reduceCtorEq, decide_true, decide_false, Int.reduceLE, Int.reduceLT, Int.reduceToNat, Int.reduceAdd, Int.reduceSub, Int.reduceMul, Int.reduceEq]
    refine call_of (cx _ _ (hsP _)) ?_
    simp only [↓R1, R2, R3, R4, TY, reduceIte, Nat.reduceEqDiff, Nat.reduceAdd, Nat.reduceMul, Nat.reduceLT, Nat.reduceLeDiff, reduceCtorEq, decide_true, decide_false, Int.reduceLE, Int.reduceLT, Int.reduceToNat, Int.reduceAdd, Int.reduceSub, Int.reduceMul, Int.reduceEq, hc']
    exact Ended.back hA ((Xt.refl A).push _) (congrArg _ (phas_n hc).symm) (RB.bool _)
  have h3 : 3 ≤ l.length := (pchk_ok.1 hc).1
  simp only [↓R1, R2, R3, R4, TY, reduceIte, Nat.reduceEqDiff, Nat.reduceAdd, Nat.reduceMul, Nat.reduceLT, Nat.reduceLeDiff, reduceCtorEq, decide_true, decide_false, Int.reduceLE, Int.reduceLT, Int.reduceToNat, Int.reduceAdd, Int.reduceSub, Int.reduceMul, Int.reduceEq]
  refine call_of (cx _ _ (hsP _)) ?_
  simp only [↓R1, R2, R3, R4, TY, reduceIte, Nat.reduceEqDiff, Nat.reduceAdd, Nat.reduceMul, Nat.reduceLT, Nat.reduceLeDiff, reduceCtorEq, decide_true, decide_false, Int.reduceLE, Int.reduceLT, Int.reduceToNat, Int.reduceAdd, Int.reduceSub, Int.reduceMul, Int.reduceEq, hc]
  refine range_of 12 l.length (fun i τ C => Xt A.next A C ∧ A.next < C.next ∧ (∀ j, C.get G ⟨A.next, j, some 0⟩ = (vC p)[j]?) ∧ τ 0 = some (.slice o l.length c) ∧ τ 3 = some (.pointer (some ⟨A.next, 0, some 0⟩)) ∧ τ 10 = some (.slice o l.length c) ∧ τ 11 = some (.int .i64 (l.length : Nat)) ∧ τ 12 = some (.int .i64 (i : Nat)) ∧
    ∀ j, j < i → 0 ≤ crs (pget l j) (pget l ((j + 1) % l.length)) p) ?_ ?_
  · exact ⟨(Xt.refl A).push _, Nat.lt_succ_self _, fun j => get_push_new rfl, rfl, rfl, rfl, rfl, rfl, fun j h => absurd h (by omega)⟩
  rintro i τ C hi ⟨hx, hn, hb, q0, q3, q10, q11, q12, hok⟩
  simp only [↓R1, R2, R3, R4, TY, reduceIte, Nat.reduceEqDiff, Nat.reduceAdd, Nat.reduceMul, Nat.reduceLT, Nat.reduceLeDiff, reduceCtorEq, decide_true, decide_false, Int.reduceLE, Int.reduceLT, Int.reduceToNat, Int.reduceAdd, Int.reduceSub, Int.reduceMul, Int.reduceEq, q0, q3, q10, q11, q12]
  refine ⟨fun hlt => ?_, fun hlt => ?_⟩
  rotate_left
  · refine Ended.back hA hx (congrArg _ ?_) (RB.bool _)
    rw [phas_0 hc, hasB_yes fun j hj => hok j (by omega)]
  have hlt' : i < l.length := by omega
  obtain ⟨a, rfl, -⟩ := hs.at (G := G) (i := i) (by simpa using hlt')
  have hsC := hs.xt hA hx
  have hac : a.block < C.next := Nat.lt_of_lt_of_le (hs.lt hA) hx.next
  have hac1 : a.block < C.next + 1 := Nat.lt_succ_of_lt hac
  have hne : (a.block = C.next) = False := eq_false (by omega)
  have hn1 : A.next < C.next + 1 := by omega
  have hne2 : (A.next = C.next) = False := eq_false (by omega)
  have hflC : fl ≤ C.next := Nat.le_trans hA.floor hx.next
  obtain ⟨g0, g1, g2, g3, g4, g5⟩ := vec_get (G := G) hsC hlt'
  have l1 : (i + 1) % l.length < l.length := mod_lt' hlt' _
  obtain ⟨u0, u1, u2, u3, u4, u5⟩ := vec_get (G := G) hsC l1
  have hi63 : i < 9223372036854775807 := by omega
  have w1 : IntKind.i64.wrap (((i : Nat) : Int) + 1) = ((i + 1 : Nat) : Int) := wrapI (by omega)
  have n0 : (((l.length : Nat) : Int) = 0) = False := eq_false (by omega)
  have pl := fun fl A => pleft (G := G) (fl := fl) (A := A) hG (hz.at hlt') (hz.at l1) hp hk
  simp only [prV_def] at pl
  simp only [↓R1, R2, R3, R4, TY, reduceIte, Nat.reduceEqDiff, Nat.reduceAdd, Nat.reduceMul, Nat.reduceLT, Nat.reduceLeDiff, reduceCtorEq, decide_true, decide_false, Int.reduceLE, Int.reduceLT, Int.reduceToNat, Int.reduceAdd, Int.reduceSub, Int.reduceMul, Int.reduceEq, q0, q3, q10, q11, q12, hlt, g0, g1, g2, g3, g4, g5, u0, u1, u2, u3, u4, u5, hac, hac1, hne, hn, hn1, hne2, hb, vC_def, hflC, w1, tmod_nat, n0, l1, NE]
  refine call_of (pl _ _) ?_
  simp only [↓R1, R2, R3, R4, TY, reduceIte, Nat.reduceEqDiff, Nat.reduceAdd, Nat.reduceMul, Nat.reduceLT, Nat.reduceLeDiff, reduceCtorEq, decide_true, decide_false, Int.reduceLE, Int.reduceLT, Int.reduceToNat, Int.reduceAdd, Int.reduceSub, Int.reduceMul, Int.reduceEq, rsign_lt0]
  refine ⟨fun hbad => ?_, fun hgood => ?_⟩
  · refine Ended.back hA ?_ (congrArg _ ?_) (RB.bool _)
    · simp (maxDischargeDepth := 20) only [xt_push, xt_put, hx, hx.next, Nat.le_refl]
    · rw [phas_0 hc, hasB_no hlt' hbad]
  · simp only [↓R1, R2, R3, R4, TY, reduceIte, Nat.reduceEqDiff, Nat.reduceAdd, Nat.reduceMul, Nat.reduceLT, Nat.reduceLeDiff, reduceCtorEq, decide_true, decide_false, Int.reduceLE, Int.reduceLT, Int.reduceToNat, Int.reduceAdd, Int.reduceSub, Int.reduceMul, Int.reduceEq, q0, q3, q10, q11, q12, hi63]
    refine range_on q12 hlt' rfl ⟨?_, ?_, fun j => ?_, q0, q3, q10, q11, rfl, fun j hj => ?_⟩
    · simp (maxDischargeDepth := 20) only [xt_push, xt_put, hx, hx.next, Nat.le_refl]
    · simp only [Hp.put_next, Hp.push_next]; omega
    · rw [get_put_other hne2, get_push_old hn]; exact hb j
    · by_cases e : j = i
      · subst e; exact Classical.not_not.1 hgood
      · exact hok j (by omega)
end
end Go.Proofs.YthclikeipdplpaaGreatDoor.Ab

/- Polygons: Support, Area. -/
namespace Go.Proofs.YthclikeipdplpaaGreatDoor.Ab
open Go.RowKit
set_option linter.unusedVariables false
set_option linter.unusedSimpArgs false
set_option maxRecDepth 100000

theorem rcmp_gt {p q : Rat} : 0 < rcmp p q ↔ q < p := by
  unfold rcmp; split
  · constructor
    · intro h; exact absurd h (by decide)
    · intro h; grind
  · split <;> simp_all
theorem rcmp_gt' {p q : Rat} : (rcmp p q > 0) = (q < p) := propext rcmp_gt
theorem rz_dt {p q : V2} {j k : Nat} (hp : Pz p j) (hq : Pz q k) : Rz (p.1 * q.1 + p.2 * q.2) (2 * j + 2 * k + 1) := ((hp.1.mul hq.1).add (hp.2.mul hq.2)).mono (by omega)

section
variable {G : Gl} {fl : Nat} {A : Hp}

set_option maxHeartbeats 4000000 in
theorem parea_ok {v : Value} {l : List V2} {k : Nat} (hG : G 1 = some tabV) (hs : Sl A 6 v (l.map vC)) (hz : Lz l k) (hk : k ≤ 1000) (hl : l.length < 4611686018427387904) (hl2 : l.length ≤ 64) : Sound Tryz.prog G 62 [v] fl A (ratV (parea l)) A := by
  refine Sound.of mixed Tryz.func62 Tryz.ntmps62 Tryz.results62 (by kernel_rfl) rfl (by kernel_rfl) (by simp) fun hA => ?_
  obtain ⟨o, c, rfl⟩ := hs.len
  have hfl : fl ≤ A.next := by have := hA.floor; omega
  have hfl1 : fl ≤ A.next + 1 := by have := hA.floor; omega
  have hfl2 : fl ≤ A.next + 2 := by have := hA.floor; omega
  have hfl3 : fl ≤ A.next + 3 := by have := hA.floor; omega
  have hfl4 : fl ≤ A.next + 4 := by have := hA.floor; omega
  have hfl5 : fl ≤ A.next + 5 := by have := hA.floor; omega
  have hfl6 : fl ≤ A.next + 6 := by have := hA.floor; omega
  have cx := fun fl (A : Hp) (hs : Sl A 6 (.slice o (l.map vC).length c) (l.map vC)) => pconvex (G := G) (fl := fl) (A := A) hG hs hz (by omega) hl
  rw [List.length_map] at hs cx ⊢
  have hrb := ratV_rb A.next (parea l)
  have z0 := fun fl A => rof_ok (G := G) (fl := fl) (A := A) (n := 0) (by decide) (by decide)
  have mk := fun fl A => rmake_ok (G := G) (fl := fl) (A := A) (m := 1) (n := 2) (by decide) (by decide) (by decide) (by decide) (by decide)
  have rh : Rz (rOf 1 / rOf 2) 2 := by rw [half_eq]; exact rz_half
  have ml := fun fl A => qmul (G := G) (fl := fl) (A := A) hG rh (rz_dbl hz l.length (Nat.le_refl _)) (by
    have : l.length * (4 * k + 2) ≤ 64 * (4 * k + 2) := Nat.mul_le_mul_right _ hl2
    omega)
  have hsP : ∀ b c', Sl ((A.push b).push c') 6 (.slice o l.length c) (l.map vC) := fun b c' => hs.xt hA (((Xt.refl A).push _).push _)
  have e00 : dbl l 0 = rOf 0 := by rw [rOf_eq]; rfl
  by_cases hc : pchk l 64 = 0
  rotate_left
  · have hc' : (pchk l 64 = 0) = False := eq_false hc
    rw [parea_n hc] at hrb ⊢
    generalize rOf 0 = z at *
    simp only [ratV_def] at z0 hrb ⊢
    simp only [↓R1, R2, R3, R4, TY, reduceIte, Nat.reduceEqDiff, Nat.reduceAdd, Nat.reduceMul, Nat.reduceLT, Nat.reduceLeDiff, reduceCtorEq, decide_true, decide_false, Int.reduceLE, Int.reduceLT, Int.reduceToNat, Int.reduceAdd, Int.reduceSub, Int.reduceMul, Int.reduceEq, hfl, hfl1, hfl2, hfl3, hfl4, hfl5, hfl6, NE, NE9, Nat.add_assoc]
    refine call_of (z0 _ _) ?_
    simp only [↓R1, R2, R3, R4, TY, reduceIte, Nat.reduceEqDiff, Nat.reduceAdd, Nat.reduceMul, Nat.reduceLT, Nat.reduceLeDiff, reduceCtorEq, decide_true, decide_false, Int.reduceLE, Int.reduceLT, Int.reduceToNat, Int.reduceAdd, Int.reduceSub, Int.reduceMul, Int.reduceEq, hfl, hfl1, hfl2, hfl3, hfl4, hfl5, hfl6, NE, NE9, Nat.add_assoc]
    refine call_of (cx _ _ (Sl.xt hA hs ?_)) ?_
    · simp (maxDischargeDepth := 20) only [xt_push, xt_put, xt_refl, Nat.le_refl, Nat.le_add_right, Nat.add_assoc, Nat.reduceAdd]
    simp only [↓R1, R2, R3, R4, TY, reduceIte, Nat.reduceEqDiff, Nat.reduceAdd, Nat.reduceMul, Nat.reduceLT, Nat.reduceLeDiff, reduceCtorEq, decide_true, decide_false, Int.reduceLE, Int.reduceLT, Int.reduceToNat, Int.reduceAdd, Int.reduceSub, Int.reduceMul, Int.reduceEq, hfl, hfl1, hfl2, hfl3, hfl4, hfl5, hfl6, NE, NE9, Nat.add_assoc, hc']
    refine Ended.back hA ?_ rfl hrb
    simp (maxDischargeDepth := 20) only [xt_push, xt_put, xt_refl, Nat.le_refl, Nat.le_add_right, Nat.add_assoc, Nat.reduceAdd]
  have h3 : 3 ≤ l.length := (pchk_ok.1 hc).1
  rw [parea_0 hc] at hrb ⊢
  generalize rOf 1 / rOf 2 = hf at *
  rw [← e00] at z0
  simp only [ratV_def] at z0 mk ml hrb ⊢
  simp only [↓R1, R2, R3, R4, TY, reduceIte, Nat.reduceEqDiff, Nat.reduceAdd, Nat.reduceMul, Nat.reduceLT, Nat.reduceLeDiff, reduceCtorEq, decide_true, decide_false, Int.reduceLE, Int.reduceLT, Int.reduceToNat, Int.reduceAdd, Int.reduceSub, Int.reduceMul, Int.reduceEq, hfl, hfl1, hfl2, hfl3, hfl4, hfl5, hfl6, NE, NE9, Nat.add_assoc]
  refine call_of (z0 _ _) ?_
  simp only [↓R1, R2, R3, R4, TY, reduceIte, Nat.reduceEqDiff, Nat.reduceAdd, Nat.reduceMul, Nat.reduceLT, Nat.reduceLeDiff, reduceCtorEq, decide_true, decide_false, Int.reduceLE, Int.reduceLT, Int.reduceToNat, Int.reduceAdd, Int.reduceSub, Int.reduceMul, Int.reduceEq, hfl, hfl1, hfl2, hfl3, hfl4, hfl5, hfl6, NE, NE9, Nat.add_assoc]
  refine call_of (cx _ _ (Sl.xt hA hs ?_)) ?_
  · simp (maxDischargeDepth := 20) only [xt_push, xt_put, xt_refl, Nat.le_refl, Nat.le_add_right, Nat.add_assoc, Nat.reduceAdd]
  simp only [↓R1, R2, R3, R4, TY, reduceIte, Nat.reduceEqDiff, Nat.reduceAdd, Nat.reduceMul, Nat.reduceLT, Nat.reduceLeDiff, reduceCtorEq, decide_true, decide_false, Int.reduceLE, Int.reduceLT, Int.reduceToNat, Int.reduceAdd, Int.reduceSub, Int.reduceMul, Int.reduceEq, hfl, hfl1, hfl2, hfl3, hfl4, hfl5, hfl6, NE, NE9, Nat.add_assoc, hc]
  refine range_of 15 l.length (fun i τ C => Xt A.next A C ∧ A.next + 1 < C.next ∧ C.blk A.next = some (.row [.bool false, .string (S []), .string (S [])] 0 3) ∧ C.blk (A.next + 1) = some (.row [.bool (decide ((dbl l i).num < 0)), .string (S (nb (dbl l i).num.natAbs)), .string (S (nb (dbl l i).den))] 0 3) ∧
    τ 0 = some (.slice o l.length c) ∧ τ 2 = some (.pointer (some ⟨A.next, 0, some 0⟩)) ∧ τ 3 = some (.pointer (some ⟨A.next + 1, 0, some 0⟩)) ∧ τ 13 = some (.slice o l.length c) ∧ τ 14 = some (.int .i64 (l.length : Nat)) ∧ τ 15 = some (.int .i64 (i : Nat))) ?_ ?_
  · refine ⟨?_, Nat.lt_succ_self _, ?_, ?_, rfl, rfl, rfl, rfl, rfl, rfl⟩
    · simp (maxDischargeDepth := 20) only [xt_push, xt_put, xt_refl, Nat.le_refl, Nat.le_add_right, Nat.add_assoc, Nat.reduceAdd]
    · simp only [Hp.put_blk, Hp.push_blk, Hp.push_next]
      rw [if_neg (by omega), if_neg (by omega), if_pos trivial]
    · simp only [Hp.put_blk, if_true]
  rintro i τ C hi ⟨hx, hn, hC0, hC1, q0, q2, q3, q13, q14, q15⟩
  have hflC : fl ≤ C.next := Nat.le_trans hA.floor hx.next
  have hnA : A.next < C.next := by omega
  have ne1 : (A.next + 1 = C.next) = False := eq_false (by omega)
  have ne2 : (A.next = C.next) = False := eq_false (by omega)
  have ne3 : (C.next = A.next + 1) = False := eq_false (by omega)
  have ne4 : (A.next = A.next + 1) = False := eq_false (by omega)
  have gS : ∀ j, C.get G ⟨A.next + 1, j, some 0⟩ = ([.bool (decide ((dbl l i).num < 0)), .string (S (nb (dbl l i).num.natAbs)), .string (S (nb (dbl l i).den))] : List Value)[j]? := fun j => by simp only [Hp.get, hC1, if_true]
  simp only [↓R1, R2, R3, R4, TY, reduceIte, Nat.reduceEqDiff, Nat.reduceAdd, Nat.reduceMul, Nat.reduceLT, Nat.reduceLeDiff, reduceCtorEq, decide_true, decide_false, Int.reduceLE, Int.reduceLT, Int.reduceToNat, Int.reduceAdd, Int.reduceSub, Int.reduceMul, Int.reduceEq, q0, q2, q3, q13, q14, q15]
  refine ⟨fun hlt => ?_, fun hlt => ?_⟩
  rotate_left
  · have e : i = l.length := by omega
    subst e
    refine call_of (mk _ _) ?_
    simp only [↓R1, R2, R3, R4, TY, reduceIte, Nat.reduceEqDiff, Nat.reduceAdd, Nat.reduceMul, Nat.reduceLT, Nat.reduceLeDiff, reduceCtorEq, decide_true, decide_false, Int.reduceLE, Int.reduceLT, Int.reduceToNat, Int.reduceAdd, Int.reduceSub, Int.reduceMul, Int.reduceEq, q0, q2, q3, q13, q14, q15, hflC, gS, hn, ne1, ne2, ne3, ne4, hnA, hC0, hfl, hfl1, hfl2, hfl3, hfl4, hfl5, hfl6, NE, NE9, Nat.add_assoc]
    refine call_of (ml _ _) ?_
    simp only [↓R1, R2, R3, R4, TY, reduceIte, Nat.reduceEqDiff, Nat.reduceAdd, Nat.reduceMul, Nat.reduceLT, Nat.reduceLeDiff, reduceCtorEq, decide_true, decide_false, Int.reduceLE, Int.reduceLT, Int.reduceToNat, Int.reduceAdd, Int.reduceSub, Int.reduceMul, Int.reduceEq, q0, q2, q3, q13, q14, q15, hflC, gS, hn, ne1, ne2, ne3, ne4, hnA, hC0, hfl, hfl1, hfl2, hfl3, hfl4, hfl5, hfl6, NE, NE9, Nat.add_assoc]
    refine Ended.back hA ?_ rfl hrb
    simp (maxDischargeDepth := 20) only [xt_push, xt_put, hx, hx.next, Nat.le_refl, Nat.le_add_right]
  have hlt' : i < l.length := by omega
  obtain ⟨a, rfl, -⟩ := hs.at (G := G) (i := i) (by simpa using hlt')
  have hsC := hs.xt hA hx
  have hac : a.block < C.next := Nat.lt_of_lt_of_le (hs.lt hA) hx.next
  have hac1 : a.block < C.next + 1 := Nat.lt_succ_of_lt hac
  have hne : (a.block = C.next) = False := eq_false (by omega)
  have hflC : fl ≤ C.next := Nat.le_trans hA.floor hx.next
  obtain ⟨g0, g1, g2, g3, g4, g5⟩ := vec_get (G := G) hsC hlt'
  have hi63 : i < 9223372036854775807 := by omega
  have l1 : (i + 1) % l.length < l.length := mod_lt' hlt' _
  obtain ⟨u0, u1, u2, u3, u4, u5⟩ := vec_get (G := G) hsC l1
  have w1 : IntKind.i64.wrap (((i : Nat) : Int) + 1) = ((i + 1 : Nat) : Int) := wrapI (by omega)
  have n0 : (((l.length : Nat) : Int) = 0) = False := eq_false (by omega)
  have hn1 : A.next + 1 < C.next + 1 := by omega
  have p1 := hz.at hlt'
  have p2 := hz.at l1
  have cr := fun fl A => vcross (G := G) (fl := fl) (A := A) hG p1.1 p1.2 p2.1 p2.2 (by omega)
  have ad := fun fl A => qadd (G := G) (fl := fl) (A := A) hG (rz_dbl hz i (by omega)) ((p1.1.mul p2.2).sub (p1.2.mul p2.1)) (by
    have : i * (4 * k + 2) ≤ 64 * (4 * k + 2) := Nat.mul_le_mul_right _ (by omega)
    omega)
  have ed : dbl l (i + 1) = dbl l i + ((pget l i).1 * (pget l ((i + 1) % l.length)).2 - (pget l i).2 * (pget l ((i + 1) % l.length)).1) := rfl
  simp only [prV_def] at cr
  simp only [ratV_def] at cr ad
  rw [← ed] at ad
  simp only [↓R1, R2, R3, R4, TY, reduceIte, Nat.reduceEqDiff, Nat.reduceAdd, Nat.reduceMul, Nat.reduceLT, Nat.reduceLeDiff, reduceCtorEq, decide_true, decide_false, Int.reduceLE, Int.reduceLT, Int.reduceToNat, Int.reduceAdd, Int.reduceSub, Int.reduceMul, Int.reduceEq, q0, q2, q3, q13, q14, q15, hlt, g0, g1, g2, g3, g4, g5, u0, u1, u2, u3, u4, u5, hac, hac1, hne, hn, hn1, ne1, ne2, ne3, ne4, gS, hflC, w1, tmod_nat, n0, l1, NE]
  refine call_of (cr _ _) ?_
  simp only [↓R1, R2, R3, R4, TY, reduceIte, Nat.reduceEqDiff, Nat.reduceAdd, Nat.reduceMul, Nat.reduceLT, Nat.reduceLeDiff, reduceCtorEq, decide_true, decide_false, Int.reduceLE, Int.reduceLT, Int.reduceToNat, Int.reduceAdd, Int.reduceSub, Int.reduceMul, Int.reduceEq, q0, q2, q3, q13, q14, q15, hflC, gS, hn, hn1, ne1, ne2, ne3, ne4, hC1]
  refine call_of (ad _ _) ?_
  simp only [↓R1, R2, R3, R4, TY, reduceIte, Nat.reduceEqDiff, Nat.reduceAdd, Nat.reduceMul, Nat.reduceLT, Nat.reduceLeDiff, reduceCtorEq, decide_true, decide_false, Int.reduceLE, Int.reduceLT, Int.reduceToNat, Int.reduceAdd, Int.reduceSub, Int.reduceMul, Int.reduceEq, q0, q2, q3, q13, q14, q15, hflC, gS, hn, hn1, ne1, ne2, ne3, ne4, hC1, hfl, hfl1, hfl2, hfl3, hfl4, hfl5, hfl6, NE, NE9, Nat.add_assoc]
  rw [floOf_wr (by kernel_rfl)]
  simp only [↓R1, R2, R3, R4, TY, reduceIte, Nat.reduceEqDiff, Nat.reduceAdd, Nat.reduceMul, Nat.reduceLT, Nat.reduceLeDiff, reduceCtorEq, decide_true, decide_false, Int.reduceLE, Int.reduceLT, Int.reduceToNat, Int.reduceAdd, Int.reduceSub, Int.reduceMul, Int.reduceEq, q0, q2, q3, q13, q14, q15, hflC, gS, hn, hn1, ne1, ne2, ne3, ne4, hC1, hi63, hfl, hfl1, hfl2, hfl3, hfl4, hfl5, hfl6, NE, NE9, Nat.add_assoc]
  refine range_on q15 hlt' rfl ⟨?_, ?_, ?_, ?_, q0, q2, q3, q13, q14, rfl⟩
  · simp (maxDischargeDepth := 20) only [xt_push, xt_put, hx, hx.next, Nat.le_refl, Nat.le_add_right]
  · simp only [Hp.put_next, Hp.push_next]; omega
  · simp only [Hp.put_blk, Hp.push_blk, ne2, ne4, if_false]; exact hC0
  · simp only [Hp.put_blk, if_true]
end
end Go.Proofs.YthclikeipdplpaaGreatDoor.Ab
