/- Rational numbers are ordered. -/
import Derived.Test.YtpaffoiiipgkeaaDoorRj
namespace Go.Proofs.YtpaffoiiipgkeaaDoor.Ab
open Go.RowKit
set_option linter.unusedVariables false
set_option linter.unusedSimpArgs false
set_option maxRecDepth 100000

theorem num_neg_iff {q : Rat} : q.num < 0 ↔ q < 0 := by
  have := Rat.num_nonneg (q := q)
  rw [← Rat.not_le, ← this]; omega
theorem rsign_eq (q : Rat) : rsign q = if q = 0 then 0 else if q < 0 then -1 else 1 := by
  unfold rsign
  simp only [num_neg_iff, Rat.num_eq_zero]
theorem rabs_eq (q : Rat) : rabs q = if q < 0 then -q else q := by
  unfold rabs
  simp only [num_neg_iff]
theorem rlt_asymm {p q : Rat} (h : p < q) : ¬ q < p := Rat.not_lt.2 (Rat.le_of_lt h)
theorem req_of {p q : Rat} (h : ¬ p < q) (h2 : ¬ q < p) : p = q := Rat.le_antisymm (Rat.not_lt.1 h2) (Rat.not_lt.1 h)
theorem rlt_irrefl (p : Rat) : ¬ p < p := Rat.lt_irrefl
theorem rcmp_sub (p q : Rat) : rsign (p - q) = rcmp p q := by
  rw [rsign_eq, rcmp]
  have h1 : p - q < 0 ↔ p < q := by rw [Rat.sub_lt_iff, Rat.zero_add]
  have h2 : p - q = 0 ↔ p = q := ⟨fun h => by have := Rat.sub_add_cancel (a := p) (b := q); rw [h, Rat.zero_add] at this; exact this.symm, fun h => by rw [h, Rat.sub_self]⟩
  by_cases ha : p < q
  · have : p ≠ q := fun e => by rw [e] at ha; exact rlt_irrefl _ ha
    rw [if_neg (fun e => this (h2.1 e)), if_pos (h1.2 ha), if_pos ha]
  · by_cases hb : q < p
    · have : p ≠ q := fun e => by rw [e] at hb; exact rlt_irrefl _ hb
      rw [if_neg (fun e => this (h2.1 e)), if_neg (fun e => ha (h1.1 e)), if_neg ha, if_pos hb]
    · rw [if_pos (h2.2 (req_of ha hb)), if_neg ha, if_neg hb]
theorem rcmp_swap (p q : Rat) : rcmp q p = -rcmp p q := by
  unfold rcmp
  by_cases ha : p < q
  · rw [if_neg (rlt_asymm ha), if_pos ha, if_pos ha]; rfl
  · by_cases hb : q < p
    · rw [if_pos hb, if_neg ha, if_pos hb]
    · rw [if_neg hb, if_neg ha, if_neg ha, if_neg hb]; rfl
theorem rcmp_zero (p q : Rat) : (rcmp p q = 0) = (p = q) := by
  apply propext
  unfold rcmp
  by_cases ha : p < q
  · rw [if_pos ha]; exact ⟨fun h => absurd h (by decide), fun e => absurd ha (by rw [e]; exact rlt_irrefl _)⟩
  · by_cases hb : q < p
    · rw [if_neg ha, if_pos hb]; exact ⟨fun h => absurd h (by decide), fun e => absurd hb (by rw [e]; exact rlt_irrefl _)⟩
    · rw [if_neg ha, if_neg hb]; exact ⟨fun _ => req_of ha hb, fun _ => rfl⟩
theorem rminmax (p q : Rat) : rcmp (rmin p q) (rmax p q) ≤ 0 ∧ rmin p q + rmax p q = p + q := by
  unfold rmin rmax
  by_cases ha : p < q
  · have e : rcmp p q = -1 := by rw [rcmp, if_pos ha]
    rw [e, if_pos (by omega), if_neg (by omega), e]; exact ⟨by omega, rfl⟩
  · by_cases hb : q < p
    · have e : rcmp p q = 1 := by rw [rcmp, if_neg ha, if_pos hb]
      have e' : rcmp q p = -1 := by rw [rcmp_swap, e]
      rw [e, if_neg (by omega), if_pos (by omega), e']; exact ⟨by omega, Rat.add_comm _ _⟩
    · have h := req_of ha hb
      subst h
      have e : rcmp p p = 0 := by rw [rcmp_zero]
      simp [e]
theorem rcmp_add (p q r : Rat) : rcmp (p + r) (q + r) = rcmp p q := by
  unfold rcmp
  simp only [Rat.add_lt_add_right]
theorem rcmp_mul (p q r : Rat) : rcmp (p * r) (q * r) = rcmp p q * rsign r := by
  rw [rsign_eq]
  by_cases h0 : r = 0
  · subst h0
    rw [if_pos rfl, Rat.mul_zero, Rat.mul_zero, Int.mul_zero, rcmp_zero]
  · rw [if_neg h0]
    by_cases hn : r < 0
    · rw [if_pos hn]
      have hs : 0 < -r := by rw [← Rat.neg_zero]; exact Rat.neg_lt_neg hn
      have e : ∀ x : Rat, x * r = -(x * -r) := fun x => by rw [Rat.mul_neg, Rat.neg_neg]
      rw [e p, e q]
      unfold rcmp
      simp only [Rat.neg_lt_neg_iff, Rat.mul_lt_mul_right hs]
      by_cases ha : p < q
      · rw [if_neg (rlt_asymm ha), if_pos ha, if_pos ha]; rfl
      · by_cases hb : q < p
        · rw [if_pos hb, if_neg ha, if_pos hb]; rfl
        · rw [if_neg hb, if_neg ha, if_neg ha, if_neg hb]; rfl
    · rw [if_neg hn]
      have hs : 0 < r := Rat.lt_of_le_of_ne (Rat.not_lt.1 hn) (Ne.symm h0)
      unfold rcmp
      simp only [Rat.mul_lt_mul_right hs, Int.mul_one]

theorem rabs_mul (p q : Rat) : rabs p * rabs q = rabs (p * q) := by
  rw [rabs_eq, rabs_eq, rabs_eq]
  have hneg : ∀ {x : Rat}, x < 0 → 0 < -x := fun {x} h => by rw [← Rat.neg_zero]; exact Rat.neg_lt_neg h
  by_cases hp : p < 0
  · rw [if_pos hp]
    by_cases hq : q < 0
    · rw [if_pos hq, Rat.neg_mul, Rat.mul_neg, Rat.neg_neg, if_neg]
      have := Rat.mul_pos (hneg hp) (hneg hq)
      rw [Rat.neg_mul, Rat.mul_neg, Rat.neg_neg] at this
      exact rlt_asymm this
    · rw [if_neg hq]
      by_cases h0 : q = 0
      · subst h0; rw [Rat.mul_zero, Rat.mul_zero, if_neg (rlt_irrefl _)]
      · have hs : 0 < q := Rat.lt_of_le_of_ne (Rat.not_lt.1 hq) (Ne.symm h0)
        have := Rat.mul_pos (hneg hp) hs
        rw [Rat.neg_mul] at this
        rw [if_pos, Rat.neg_mul]
        have := Rat.neg_lt_neg this
        rwa [Rat.neg_neg, Rat.neg_zero] at this
  · rw [if_neg hp]
    by_cases hq : q < 0
    · rw [if_pos hq]
      by_cases h0 : p = 0
      · subst h0; rw [Rat.zero_mul, Rat.zero_mul, if_neg (rlt_irrefl _)]
      · have hs : 0 < p := Rat.lt_of_le_of_ne (Rat.not_lt.1 hp) (Ne.symm h0)
        have := Rat.mul_pos hs (hneg hq)
        rw [Rat.mul_neg] at this
        rw [if_pos, Rat.mul_neg]
        have := Rat.neg_lt_neg this
        rwa [Rat.neg_neg, Rat.neg_zero] at this
    · rw [if_neg hq, if_neg]
      exact Rat.not_lt.2 (Rat.mul_nonneg (Rat.not_lt.1 hp) (Rat.not_lt.1 hq))

theorem rcmp_bound (p q : Rat) : -1 ≤ rcmp p q ∧ rcmp p q ≤ 1 := by
  unfold rcmp
  split
  · omega
  · split <;> omega
theorem rsign_bound (q : Rat) : -1 ≤ rsign q ∧ rsign q ≤ 1 := by
  unfold rsign
  split
  · omega
  · split <;> omega
theorem Sz.abs {q : Rat} {k : Nat} (h : Sz q k) : Sz (rabs q) k := by unfold rabs; split; exact h.neg; exact h
theorem Sz.min {p q : Rat} {k : Nat} (hp : Sz p k) (hq : Sz q k) : Sz (rmin p q) k := by unfold rmin; split; exact hp; exact hq
theorem Sz.max {p q : Rat} {k : Nat} (hp : Sz p k) (hq : Sz q k) : Sz (rmax p q) k := by unfold rmax; split; exact hp; exact hq

section
variable {G : Gl} {fl : Nat} {A : Hp}

set_option maxHeartbeats 8000000 in
theorem ratOrder_calls {x1 x2 x3 : Int} (k1 : -9223372036854775808 ≤ x1 ∧ x1 ≤ 9223372036854775807) (k2 : -9223372036854775808 ≤ x2 ∧ x2 ≤ 9223372036854775807) (k3 : -9223372036854775808 ≤ x3 ∧ x3 ≤ 9223372036854775807) :
    ∀ (μ : Mu) (w : World) (args' : Array Value), HR G μ fl A w → fl ≤ A.next → VRa μ A [.int .i64 x1, .int .i64 x2, .int .i64 x3].toArray args' →
    Calls Tryd.prog 7 args' w fun e w' => ∃ u, e = .returned u ∧ ∃ ν, VR ν A (.bool true) u ∧ HR G ν fl A w' ∧ Trans fl μ A w ν A w' := by
  refine calls_of mixed Tryd.func7 Tryd.ntmps7 Tryd.results7 (by kernel_rfl) rfl (by kernel_rfl) (by simp) fun hA => ?_
  have fin : ∀ (b : Bool) (B : Hp), Xt A.next A B → b = true → Ended A (.bool b) B (.bool true) A := fun b B hB hb => Ended.back hA hB (congrArg _ hb) (RB.bool _)
  have hp := mrat_sz x1
  have hq := mrat_sz x2
  have hr := mrat_sz x3
  have hfl : fl ≤ A.next := hA.floor
  have hfl1 : fl ≤ A.next + 1 := by omega
  have hfl2 : fl ≤ A.next + 2 := by omega
  simp only [↓R1, R2, R3, R4, TY, reduceIte, Nat.reduceEqDiff, Nat.reduceAdd, Nat.reduceMul, Nat.reduceLT, Nat.reduceLeDiff, reduceCtorEq, decide_true, decide_false, Int.reduceLE, Int.reduceLT, Int.reduceToNat, Int.reduceAdd, Int.reduceSub, Int.reduceMul, Int.reduceEq]
  refine call_of ratBegun_ok ?_
  simp only [↓R1, R2, R3, R4, TY, reduceIte, Nat.reduceEqDiff, Nat.reduceAdd, Nat.reduceMul, Nat.reduceLT, Nat.reduceLeDiff, reduceCtorEq, decide_true, decide_false, Int.reduceLE, Int.reduceLT, Int.reduceToNat, Int.reduceAdd, Int.reduceSub, Int.reduceMul, Int.reduceEq]
  refine call_of (mrat_ok k1.1 k1.2) ?_
  simp only [↓R1, R2, R3, R4, TY, reduceIte, Nat.reduceEqDiff, Nat.reduceAdd, Nat.reduceMul, Nat.reduceLT, Nat.reduceLeDiff, reduceCtorEq, decide_true, decide_false, Int.reduceLE, Int.reduceLT, Int.reduceToNat, Int.reduceAdd, Int.reduceSub, Int.reduceMul, Int.reduceEq]
  refine call_of (mrat_ok k2.1 k2.2) ?_
  simp only [↓R1, R2, R3, R4, TY, reduceIte, Nat.reduceEqDiff, Nat.reduceAdd, Nat.reduceMul, Nat.reduceLT, Nat.reduceLeDiff, reduceCtorEq, decide_true, decide_false, Int.reduceLE, Int.reduceLT, Int.reduceToNat, Int.reduceAdd, Int.reduceSub, Int.reduceMul, Int.reduceEq]
  refine call_of (mrat_ok k3.1 k3.2) ?_
  generalize mrat x1 = p at *
  generalize mrat x2 = q at *
  generalize mrat x3 = r at *
  simp only [↓R1, R2, R3, R4, TY, reduceIte, Nat.reduceEqDiff, Nat.reduceAdd, Nat.reduceMul, Nat.reduceLT, Nat.reduceLeDiff, reduceCtorEq, decide_true, decide_false, Int.reduceLE, Int.reduceLT, Int.reduceToNat, Int.reduceAdd, Int.reduceSub, Int.reduceMul, Int.reduceEq, ratV_def, hfl, hfl1, hfl2, NE]
  generalize hτ : updO _ _ _ = τ1
  generalize hB : Hp.put _ _ _ = B
  have q7 : τ1 7 = some (.pointer (some ⟨A.next, 0, some 0⟩)) := by rw [← hτ]; rfl
  have q8 : τ1 8 = some (.pointer (some ⟨A.next + 1, 0, some 0⟩)) := by rw [← hτ]; rfl
  have q9 : τ1 9 = some (.pointer (some ⟨A.next + 2, 0, some 0⟩)) := by rw [← hτ]; rfl
  clear hτ
  have hBn : B.next = A.next + 3 := by rw [← hB]; rfl
  have hBx : Xt A.next A B := by rw [← hB]; exact ((((((Xt.refl A).push _).push _).push _).put (Nat.le_refl _) _).put (by omega) _).put (by omega) _
  have g0 : B.get G ⟨A.next, 0, some 0⟩ = some (.bool (decide (p.num < 0))) := by rw [← hB]; simp [Hp.get, Hp.put_blk, Hp.push_blk, Nat.add_assoc]
  have g1 : B.get G ⟨A.next, 1, some 0⟩ = some (.string (S (nb p.num.natAbs))) := by rw [← hB]; simp [Hp.get, Hp.put_blk, Hp.push_blk, Nat.add_assoc]
  have g2 : B.get G ⟨A.next, 2, some 0⟩ = some (.string (S (nb p.den))) := by rw [← hB]; simp [Hp.get, Hp.put_blk, Hp.push_blk, Nat.add_assoc]
  have g3 : B.get G ⟨A.next + 1, 0, some 0⟩ = some (.bool (decide (q.num < 0))) := by rw [← hB]; simp [Hp.get, Hp.put_blk, Hp.push_blk, Nat.add_assoc]
  have g4 : B.get G ⟨A.next + 1, 1, some 0⟩ = some (.string (S (nb q.num.natAbs))) := by rw [← hB]; simp [Hp.get, Hp.put_blk, Hp.push_blk, Nat.add_assoc]
  have g5 : B.get G ⟨A.next + 1, 2, some 0⟩ = some (.string (S (nb q.den))) := by rw [← hB]; simp [Hp.get, Hp.put_blk, Hp.push_blk, Nat.add_assoc]
  have g6 : B.get G ⟨A.next + 2, 0, some 0⟩ = some (.bool (decide (r.num < 0))) := by rw [← hB]; simp [Hp.get, Hp.put_blk, Hp.push_blk, Nat.add_assoc]
  have g7 : B.get G ⟨A.next + 2, 1, some 0⟩ = some (.string (S (nb r.num.natAbs))) := by rw [← hB]; simp [Hp.get, Hp.put_blk, Hp.push_blk, Nat.add_assoc]
  have g8 : B.get G ⟨A.next + 2, 2, some 0⟩ = some (.string (S (nb r.den))) := by rw [← hB]; simp [Hp.get, Hp.put_blk, Hp.push_blk, Nat.add_assoc]
  clear hB
  have hgt : Tryd.prog.eqGuardType Tryd.prog.depth 35 = false := by kernel_rfl
  have heq := fun x y => eqD_rat x y
  simp only [ratV_def] at heq
  have spq := hp.add hq
  have dpq := hp.sub hq
  have spr := hp.add hr
  have sqr := hq.add hr
  have mpr := hp.mul hr
  have mqr := hq.mul hr
  have mpq := hp.mul hq
  have b1 := rcmp_bound p q
  have b2 := rsign_bound r
  have w1' : IntKind.i64.wrap (0 - rcmp p q) = -rcmp p q := by rw [wrapI (by omega)]; omega
  have hprod : -1 ≤ rcmp p q * rsign r ∧ rcmp p q * rsign r ≤ 1 := by
    have h1 : rcmp p q = -1 ∨ rcmp p q = 0 ∨ rcmp p q = 1 := by omega
    rcases h1 with h | h | h <;> rw [h] <;> omega
  have w2' : IntKind.i64.wrap (rcmp p q * rsign r) = rcmp p q * rsign r := wrapI (by omega)
  have z1 := rcmp_zero p q
  refine call_of (rcmp_ok hp hq (by omega)) ?_
  simp only [↓R1, R2, R3, R4, TY, reduceIte, Nat.reduceEqDiff, Nat.reduceAdd, Nat.reduceMul, Nat.reduceLT, Nat.reduceLeDiff, reduceCtorEq, decide_true, decide_false, Int.reduceLE, Int.reduceLT, Int.reduceToNat, Int.reduceAdd, Int.reduceSub, Int.reduceMul, Int.reduceEq, ratV_def, q7, q8, q9, g0, g1, g2, g3, g4, g5, g6, g7, g8, heq, hgt, eq_self, beq_self_eq_true]
  refine call_of (rsub_ok hp hq (by omega)) ?_
  simp only [↓R1, R2, R3, R4, TY, reduceIte, Nat.reduceEqDiff, Nat.reduceAdd, Nat.reduceMul, Nat.reduceLT, Nat.reduceLeDiff, reduceCtorEq, decide_true, decide_false, Int.reduceLE, Int.reduceLT, Int.reduceToNat, Int.reduceAdd, Int.reduceSub, Int.reduceMul, Int.reduceEq, ratV_def, q7, q8, q9, g0, g1, g2, g3, g4, g5, g6, g7, g8, heq, hgt, eq_self, beq_self_eq_true]
  refine call_of (rsign_ok dpq (by omega)) ?_
  rw [rcmp_sub p q]
  simp only [↓R1, R2, R3, R4, TY, reduceIte, Nat.reduceEqDiff, Nat.reduceAdd, Nat.reduceMul, Nat.reduceLT, Nat.reduceLeDiff, reduceCtorEq, decide_true, decide_false, Int.reduceLE, Int.reduceLT, Int.reduceToNat, Int.reduceAdd, Int.reduceSub, Int.reduceMul, Int.reduceEq, ratV_def, q7, q8, q9, g0, g1, g2, g3, g4, g5, g6, g7, g8, heq, hgt, eq_self, beq_self_eq_true]
  refine call_of (rcmp_ok hq hp (by omega)) ?_
  rw [rcmp_swap p q]
  simp only [↓R1, R2, R3, R4, TY, reduceIte, Nat.reduceEqDiff, Nat.reduceAdd, Nat.reduceMul, Nat.reduceLT, Nat.reduceLeDiff, reduceCtorEq, decide_true, decide_false, Int.reduceLE, Int.reduceLT, Int.reduceToNat, Int.reduceAdd, Int.reduceSub, Int.reduceMul, Int.reduceEq, ratV_def, q7, q8, q9, g0, g1, g2, g3, g4, g5, g6, g7, g8, heq, hgt, eq_self, beq_self_eq_true, w1', z1]
  refine call_of (rmin_ok hp hq (by omega)) ?_
  simp only [↓R1, R2, R3, R4, TY, reduceIte, Nat.reduceEqDiff, Nat.reduceAdd, Nat.reduceMul, Nat.reduceLT, Nat.reduceLeDiff, reduceCtorEq, decide_true, decide_false, Int.reduceLE, Int.reduceLT, Int.reduceToNat, Int.reduceAdd, Int.reduceSub, Int.reduceMul, Int.reduceEq, ratV_def, q7, q8, q9, g0, g1, g2, g3, g4, g5, g6, g7, g8, heq, hgt, eq_self, beq_self_eq_true]
  refine call_of (rmax_ok hp hq (by omega)) ?_
  have hflB : fl ≤ B.next := by omega
  have hflB1 : fl ≤ B.next + 1 := by omega
  simp only [↓R1, R2, R3, R4, TY, reduceIte, Nat.reduceEqDiff, Nat.reduceAdd, Nat.reduceMul, Nat.reduceLT, Nat.reduceLeDiff, reduceCtorEq, decide_true, decide_false, Int.reduceLE, Int.reduceLT, Int.reduceToNat, Int.reduceAdd, Int.reduceSub, Int.reduceMul, Int.reduceEq, ratV_def, q7, q8, q9, g0, g1, g2, g3, g4, g5, g6, g7, g8, heq, hgt, eq_self, beq_self_eq_true, hflB, hflB1, NE]
  rw [floOf_wr (by kernel_rfl)]
  simp only [↓R1, R2, R3, R4, TY, reduceIte, Nat.reduceEqDiff, Nat.reduceAdd, Nat.reduceMul, Nat.reduceLT, Nat.reduceLeDiff, reduceCtorEq, decide_true, decide_false, Int.reduceLE, Int.reduceLT, Int.reduceToNat, Int.reduceAdd, Int.reduceSub, Int.reduceMul, Int.reduceEq, ratV_def, q7, q8, q9, g0, g1, g2, g3, g4, g5, g6, g7, g8, heq, hgt, eq_self, beq_self_eq_true, hflB, hflB1, NE]
  rw [floOf_wr (by kernel_rfl)]
  have l0 : A.next < B.next := by omega
  have l1 : A.next + 1 < B.next := by omega
  have l2 : A.next + 2 < B.next := by omega
  simp only [↓R1, R2, R3, R4, TY, reduceIte, Nat.reduceEqDiff, Nat.reduceAdd, Nat.reduceMul, Nat.reduceLT, Nat.reduceLeDiff, reduceCtorEq, decide_true, decide_false, Int.reduceLE, Int.reduceLT, Int.reduceToNat, Int.reduceAdd, Int.reduceSub, Int.reduceMul, Int.reduceEq, ratV_def, q7, q8, q9, g0, g1, g2, g3, g4, g5, g6, g7, g8, heq, hgt, eq_self, beq_self_eq_true, hflB, hflB1, NE]
  generalize hE : Hp.put _ _ _ = E
  have hEx : Xt B.next B E := by rw [← hE]; exact ((((Xt.refl B).push _).push _).put (Nat.le_refl _) _).put (by omega) _
  have hAE : Xt A.next A E := hBx.trans hEx
  have v0 := (hEx.get (G := G) (a := ⟨A.next, 0, some 0⟩) (by simp only; omega)).trans g0
  have v1 := (hEx.get (G := G) (a := ⟨A.next, 1, some 0⟩) (by simp only; omega)).trans g1
  have v2 := (hEx.get (G := G) (a := ⟨A.next, 2, some 0⟩) (by simp only; omega)).trans g2
  have v3 := (hEx.get (G := G) (a := ⟨A.next + 1, 0, some 0⟩) (by simp only; omega)).trans g3
  have v4 := (hEx.get (G := G) (a := ⟨A.next + 1, 1, some 0⟩) (by simp only; omega)).trans g4
  have v5 := (hEx.get (G := G) (a := ⟨A.next + 1, 2, some 0⟩) (by simp only; omega)).trans g5
  have v6 := (hEx.get (G := G) (a := ⟨A.next + 2, 0, some 0⟩) (by simp only; omega)).trans g6
  have v7 := (hEx.get (G := G) (a := ⟨A.next + 2, 1, some 0⟩) (by simp only; omega)).trans g7
  have v8 := (hEx.get (G := G) (a := ⟨A.next + 2, 2, some 0⟩) (by simp only; omega)).trans g8
  have w0 : E.get G ⟨B.next, 0, some 0⟩ = some (.bool (decide ((rmin p q).num < 0))) := by rw [← hE]; simp [Hp.get, Hp.put_blk, Hp.push_blk, Nat.add_assoc]
  have w1 : E.get G ⟨B.next, 1, some 0⟩ = some (.string (S (nb (rmin p q).num.natAbs))) := by rw [← hE]; simp [Hp.get, Hp.put_blk, Hp.push_blk, Nat.add_assoc]
  have w2 : E.get G ⟨B.next, 2, some 0⟩ = some (.string (S (nb (rmin p q).den))) := by rw [← hE]; simp [Hp.get, Hp.put_blk, Hp.push_blk, Nat.add_assoc]
  have w3 : E.get G ⟨B.next + 1, 0, some 0⟩ = some (.bool (decide ((rmax p q).num < 0))) := by rw [← hE]; simp [Hp.get, Hp.put_blk, Hp.push_blk, Nat.add_assoc]
  have w4 : E.get G ⟨B.next + 1, 1, some 0⟩ = some (.string (S (nb (rmax p q).num.natAbs))) := by rw [← hE]; simp [Hp.get, Hp.put_blk, Hp.push_blk, Nat.add_assoc]
  have w5 : E.get G ⟨B.next + 1, 2, some 0⟩ = some (.string (S (nb (rmax p q).den))) := by rw [← hE]; simp [Hp.get, Hp.put_blk, Hp.push_blk, Nat.add_assoc]
  clear hE g0 g1 g2 g3 g4 g5 g6 g7 g8
  obtain ⟨hmm, hms⟩ := rminmax p q
  have smin := hp.min hq
  have smax := hp.max hq
  have hmm' : (rcmp (rmin p q) (rmax p q) ≤ 0) = True := eq_true hmm
  have e2 : (rmin p q + rmax p q = p + q) = True := eq_true hms
  have e3 := rcmp_add p q r
  have e4 := rcmp_mul p q r
  have e5 : (rabs p * rabs q = rabs (p * q)) = True := eq_true (rabs_mul p q)
  generalize rmin p q = lo at *
  generalize rmax p q = hi at *
  refine call_of (rcmp_ok smin smax (by omega)) ?_
  simp only [↓R1, R2, R3, R4, TY, reduceIte, Nat.reduceEqDiff, Nat.reduceAdd, Nat.reduceMul, Nat.reduceLT, Nat.reduceLeDiff, reduceCtorEq, decide_true, decide_false, Int.reduceLE, Int.reduceLT, Int.reduceToNat, Int.reduceAdd, Int.reduceSub, Int.reduceMul, Int.reduceEq, ratV_def, q7, q8, q9, v0, v1, v2, v3, v4, v5, v6, v7, v8, w0, w1, w2, w3, w4, w5, heq, hgt, eq_self, beq_self_eq_true, hmm', e2, e5, w2']
  refine call_of (radd_ok smin smax (by omega)) ?_
  simp only [↓R1, R2, R3, R4, TY, reduceIte, Nat.reduceEqDiff, Nat.reduceAdd, Nat.reduceMul, Nat.reduceLT, Nat.reduceLeDiff, reduceCtorEq, decide_true, decide_false, Int.reduceLE, Int.reduceLT, Int.reduceToNat, Int.reduceAdd, Int.reduceSub, Int.reduceMul, Int.reduceEq, ratV_def, q7, q8, q9, v0, v1, v2, v3, v4, v5, v6, v7, v8, w0, w1, w2, w3, w4, w5, heq, hgt, eq_self, beq_self_eq_true, hmm', e2, e5, w2']
  refine call_of (radd_ok hp hq (by omega)) ?_
  simp only [↓R1, R2, R3, R4, TY, reduceIte, Nat.reduceEqDiff, Nat.reduceAdd, Nat.reduceMul, Nat.reduceLT, Nat.reduceLeDiff, reduceCtorEq, decide_true, decide_false, Int.reduceLE, Int.reduceLT, Int.reduceToNat, Int.reduceAdd, Int.reduceSub, Int.reduceMul, Int.reduceEq, ratV_def, q7, q8, q9, v0, v1, v2, v3, v4, v5, v6, v7, v8, w0, w1, w2, w3, w4, w5, heq, hgt, eq_self, beq_self_eq_true, hmm', e2, e5, w2']
  refine call_of (radd_ok hp hr (by omega)) ?_
  simp only [↓R1, R2, R3, R4, TY, reduceIte, Nat.reduceEqDiff, Nat.reduceAdd, Nat.reduceMul, Nat.reduceLT, Nat.reduceLeDiff, reduceCtorEq, decide_true, decide_false, Int.reduceLE, Int.reduceLT, Int.reduceToNat, Int.reduceAdd, Int.reduceSub, Int.reduceMul, Int.reduceEq, ratV_def, q7, q8, q9, v0, v1, v2, v3, v4, v5, v6, v7, v8, w0, w1, w2, w3, w4, w5, heq, hgt, eq_self, beq_self_eq_true, hmm', e2, e5, w2']
  refine call_of (radd_ok hq hr (by omega)) ?_
  simp only [↓R1, R2, R3, R4, TY, reduceIte, Nat.reduceEqDiff, Nat.reduceAdd, Nat.reduceMul, Nat.reduceLT, Nat.reduceLeDiff, reduceCtorEq, decide_true, decide_false, Int.reduceLE, Int.reduceLT, Int.reduceToNat, Int.reduceAdd, Int.reduceSub, Int.reduceMul, Int.reduceEq, ratV_def, q7, q8, q9, v0, v1, v2, v3, v4, v5, v6, v7, v8, w0, w1, w2, w3, w4, w5, heq, hgt, eq_self, beq_self_eq_true, hmm', e2, e5, w2']
  refine call_of (rcmp_ok spr sqr (by omega)) ?_
  rw [e3]
  simp only [↓R1, R2, R3, R4, TY, reduceIte, Nat.reduceEqDiff, Nat.reduceAdd, Nat.reduceMul, Nat.reduceLT, Nat.reduceLeDiff, reduceCtorEq, decide_true, decide_false, Int.reduceLE, Int.reduceLT, Int.reduceToNat, Int.reduceAdd, Int.reduceSub, Int.reduceMul, Int.reduceEq, ratV_def, q7, q8, q9, v0, v1, v2, v3, v4, v5, v6, v7, v8, w0, w1, w2, w3, w4, w5, heq, hgt, eq_self, beq_self_eq_true, hmm', e2, e5, w2']
  refine call_of (rmul_ok hp hr (by omega)) ?_
  simp only [↓R1, R2, R3, R4, TY, reduceIte, Nat.reduceEqDiff, Nat.reduceAdd, Nat.reduceMul, Nat.reduceLT, Nat.reduceLeDiff, reduceCtorEq, decide_true, decide_false, Int.reduceLE, Int.reduceLT, Int.reduceToNat, Int.reduceAdd, Int.reduceSub, Int.reduceMul, Int.reduceEq, ratV_def, q7, q8, q9, v0, v1, v2, v3, v4, v5, v6, v7, v8, w0, w1, w2, w3, w4, w5, heq, hgt, eq_self, beq_self_eq_true, hmm', e2, e5, w2']
  refine call_of (rmul_ok hq hr (by omega)) ?_
  simp only [↓R1, R2, R3, R4, TY, reduceIte, Nat.reduceEqDiff, Nat.reduceAdd, Nat.reduceMul, Nat.reduceLT, Nat.reduceLeDiff, reduceCtorEq, decide_true, decide_false, Int.reduceLE, Int.reduceLT, Int.reduceToNat, Int.reduceAdd, Int.reduceSub, Int.reduceMul, Int.reduceEq, ratV_def, q7, q8, q9, v0, v1, v2, v3, v4, v5, v6, v7, v8, w0, w1, w2, w3, w4, w5, heq, hgt, eq_self, beq_self_eq_true, hmm', e2, e5, w2']
  refine call_of (rcmp_ok mpr mqr (by omega)) ?_
  rw [e4]
  simp only [↓R1, R2, R3, R4, TY, reduceIte, Nat.reduceEqDiff, Nat.reduceAdd, Nat.reduceMul, Nat.reduceLT, Nat.reduceLeDiff, reduceCtorEq, decide_true, decide_false, Int.reduceLE, Int.reduceLT, Int.reduceToNat, Int.reduceAdd, Int.reduceSub, Int.reduceMul, Int.reduceEq, ratV_def, q7, q8, q9, v0, v1, v2, v3, v4, v5, v6, v7, v8, w0, w1, w2, w3, w4, w5, heq, hgt, eq_self, beq_self_eq_true, hmm', e2, e5, w2']
  refine call_of (rsign_ok hr (by omega)) ?_
  simp only [↓R1, R2, R3, R4, TY, reduceIte, Nat.reduceEqDiff, Nat.reduceAdd, Nat.reduceMul, Nat.reduceLT, Nat.reduceLeDiff, reduceCtorEq, decide_true, decide_false, Int.reduceLE, Int.reduceLT, Int.reduceToNat, Int.reduceAdd, Int.reduceSub, Int.reduceMul, Int.reduceEq, ratV_def, q7, q8, q9, v0, v1, v2, v3, v4, v5, v6, v7, v8, w0, w1, w2, w3, w4, w5, heq, hgt, eq_self, beq_self_eq_true, hmm', e2, e5, w2']
  refine call_of (rabs_ok hp (by omega)) ?_
  simp only [↓R1, R2, R3, R4, TY, reduceIte, Nat.reduceEqDiff, Nat.reduceAdd, Nat.reduceMul, Nat.reduceLT, Nat.reduceLeDiff, reduceCtorEq, decide_true, decide_false, Int.reduceLE, Int.reduceLT, Int.reduceToNat, Int.reduceAdd, Int.reduceSub, Int.reduceMul, Int.reduceEq, ratV_def, q7, q8, q9, v0, v1, v2, v3, v4, v5, v6, v7, v8, w0, w1, w2, w3, w4, w5, heq, hgt, eq_self, beq_self_eq_true, hmm', e2, e5, w2']
  refine call_of (rabs_ok hq (by omega)) ?_
  simp only [↓R1, R2, R3, R4, TY, reduceIte, Nat.reduceEqDiff, Nat.reduceAdd, Nat.reduceMul, Nat.reduceLT, Nat.reduceLeDiff, reduceCtorEq, decide_true, decide_false, Int.reduceLE, Int.reduceLT, Int.reduceToNat, Int.reduceAdd, Int.reduceSub, Int.reduceMul, Int.reduceEq, ratV_def, q7, q8, q9, v0, v1, v2, v3, v4, v5, v6, v7, v8, w0, w1, w2, w3, w4, w5, heq, hgt, eq_self, beq_self_eq_true, hmm', e2, e5, w2']
  refine call_of (rmul_ok hp.abs hq.abs (by omega)) ?_
  simp only [↓R1, R2, R3, R4, TY, reduceIte, Nat.reduceEqDiff, Nat.reduceAdd, Nat.reduceMul, Nat.reduceLT, Nat.reduceLeDiff, reduceCtorEq, decide_true, decide_false, Int.reduceLE, Int.reduceLT, Int.reduceToNat, Int.reduceAdd, Int.reduceSub, Int.reduceMul, Int.reduceEq, ratV_def, q7, q8, q9, v0, v1, v2, v3, v4, v5, v6, v7, v8, w0, w1, w2, w3, w4, w5, heq, hgt, eq_self, beq_self_eq_true, hmm', e2, e5, w2']
  refine call_of (rmul_ok hp hq (by omega)) ?_
  simp only [↓R1, R2, R3, R4, TY, reduceIte, Nat.reduceEqDiff, Nat.reduceAdd, Nat.reduceMul, Nat.reduceLT, Nat.reduceLeDiff, reduceCtorEq, decide_true, decide_false, Int.reduceLE, Int.reduceLT, Int.reduceToNat, Int.reduceAdd, Int.reduceSub, Int.reduceMul, Int.reduceEq, ratV_def, q7, q8, q9, v0, v1, v2, v3, v4, v5, v6, v7, v8, w0, w1, w2, w3, w4, w5, heq, hgt, eq_self, beq_self_eq_true, hmm', e2, e5, w2']
  refine call_of (rabs_ok mpq (by omega)) ?_
  simp only [↓R1, R2, R3, R4, TY, reduceIte, Nat.reduceEqDiff, Nat.reduceAdd, Nat.reduceMul, Nat.reduceLT, Nat.reduceLeDiff, reduceCtorEq, decide_true, decide_false, Int.reduceLE, Int.reduceLT, Int.reduceToNat, Int.reduceAdd, Int.reduceSub, Int.reduceMul, Int.reduceEq, ratV_def, q7, q8, q9, v0, v1, v2, v3, v4, v5, v6, v7, v8, w0, w1, w2, w3, w4, w5, heq, hgt, eq_self, beq_self_eq_true, hmm', e2, e5, w2']
  exact fin _ _ hAE rfl
end
end Go.Proofs.YtpaffoiiipgkeaaDoor.Ab
