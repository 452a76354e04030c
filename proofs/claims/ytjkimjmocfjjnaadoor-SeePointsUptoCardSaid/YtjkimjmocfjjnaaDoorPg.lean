/- The greatest common divisor by halves. -/
import Derived.Test.YtjkimjmocfjjnaaDoorPe
import Derived.Test.YtjkimjmocfjjnaaDoorRf
import Derived.Test.YtjkimjmocfjjnaaDoorOg
namespace Go.Proofs.YtjkimjmocfjjnaaDoor.Ab
open Go.RowKit
set_option linter.unusedVariables false
set_option linter.unusedSimpArgs false
set_option maxRecDepth 100000

section
variable {G : Gl} {fl : Nat} {A : Hp}

/-- A loop by a number that is told beside the state. -/
theorem loop_rank {c : Code} {τ : Tm} {K : Exit → Tm → Hp → Prop} (J : Nat → Tm → Hp → Prop) (r0 : Nat) (h0 : J r0 τ A)
    (h : ∀ (r : Nat) (τ : Tm) (A : Hp), J r τ A → ∀ K' : Exit → Tm → Hp → Prop, (∀ (τ' : Tm) (A' : Hp) (r' : Nat), r' < r → J r' τ' A' → K' .normal τ' A') → (∀ e τ' A', e ≠ .normal → K e τ' A' → K' e τ' A') → acode Tryd.prog G fl c τ A K') :
    acode Tryd.prog G fl (.loop c) τ A K := by
  have least : ∀ p : Tm × Hp, ∃ m : Nat, (∃ r, J r p.1 p.2) → J m p.1 p.2 ∧ ∀ s, J s p.1 p.2 → m ≤ s := fun p => by
    by_cases hp : ∃ r, J r p.1 p.2
    · obtain ⟨r, hr⟩ := hp
      induction r using Nat.strongRecOn with
      | _ r ih =>
        by_cases hs : ∃ s, s < r ∧ J s p.1 p.2
        · obtain ⟨s, h1, h2⟩ := hs; exact ih s h1 h2
        · exact ⟨r, fun _ => ⟨hr, fun s hs' => Classical.byContradiction fun hn => hs ⟨s, by omega, hs'⟩⟩⟩
    · exact ⟨0, fun h => absurd h hp⟩
  obtain ⟨m, hm⟩ := Classical.axiomOfChoice least
  refine loop_of (fun τ A => ∃ r, J r τ A) (fun τ A => m (τ, A)) ⟨r0, h0⟩ fun τ A hI => ?_
  obtain ⟨h1, h2⟩ := hm (τ, A) hI
  refine h _ τ A h1 _ (fun τ' A' r' hr hJ => loop_on ⟨r', hJ⟩ ?_) (fun e τ' A' he hK => ?_)
  · have := (hm (τ', A') ⟨r', hJ⟩).2 r' hJ
    exact Nat.lt_of_le_of_lt this hr
  · cases e with
    | normal => exact absurd rfl he
    | _ => exact hK

theorem regroup {B : Hp} {id X n : Nat} {lo hi : List Nat} (h : B.blk id = some (.row (qc (lo ++ (ql X n ++ hi))) 0 1)) (hn : nq X ≤ n) : B.blk id = some (.row (qc (lo ++ (ql X (nq X) ++ (List.replicate (n - nq X) 0 ++ hi)))) 0 1) := by
  rw [h, ql_pad hn]; simp only [List.append_assoc]
theorem nq_oddp {X n : Nat} (h : X ≠ 0) (hn : nq X ≤ n) : nq (oddp X) ≤ n - v2 X / 64 := by
  have e : (18446744073709551616 : Nat) ^ (v2 X / 64) = 2 ^ (64 * (v2 X / 64)) := by rw [Nat.pow_mul]
  have h1 : 2 ^ (64 * (v2 X / 64)) ≤ 2 ^ v2 X := Nat.pow_le_pow_right (by omega) (by omega)
  have h2 : oddp X ≤ X / 18446744073709551616 ^ (v2 X / 64) := by
    rw [e]; exact Nat.div_le_div_left h1 (Nat.pow_pos (by omega))
  have h3 := v2_nq h
  refine Nat.le_trans (nq_mono h2) ?_
  rw [nq_le, Nat.div_lt_iff_lt_mul (Nat.pow_pos (by omega)), ← Nat.pow_add, show n - v2 X / 64 + v2 X / 64 = n by omega]
  exact nq_le.1 hn
theorem v2_lt {X k : Nat} (h : X ≠ 0) (hk : (nb X).length ≤ k) : v2 X < 8 * k := by
  obtain ⟨u, h1, h2⟩ := v2_spec _ h
  have h3 := nb_len_le.1 hk
  have h4 : 2 ^ v2 X * 1 ≤ 2 ^ v2 X * u := Nat.mul_le_mul_left _ (by omega)
  rw [show (256 : Nat) ^ k = 2 ^ (8 * k) by rw [Nat.pow_mul]] at h3
  exact (Nat.pow_lt_pow_iff_right (a := 2) (by omega)).1 (by omega)

set_option maxHeartbeats 4000000 in
theorem halves_ok {a b : List UInt8} (hG : G 1 = some tabV) (ha : a.length ≤ 40000000000) (hb : b.length ≤ 40000000000) (h0 : nv a ≠ 0) (h1 : nv b ≠ 0) :
    Sound Tryd.prog G 111 [.string (S a), .string (S b)] fl A (.string (S (nb (Nat.gcd (nv a) (nv b))))) A := by
  refine Sound.of mixed Tryd.func111 Tryd.ntmps111 Tryd.results111 (by kernel_rfl) rfl (by kernel_rfl) (by kernel_rfl) fun hA => ?_
  have hfl := hA.floor
  simp only [↓R1, R2, R3, R4, TY, reduceIte, Nat.reduceEqDiff, Nat.reduceAdd, Nat.reduceMul, Nat.reduceLT, Nat.reduceLeDiff, reduceCtorEq, decide_true, decide_false, Int.reduceLE, Int.reduceLT, Int.reduceToNat, Int.reduceAdd, Int.reduceSub, Int.reduceMul, Int.reduceEq]
  refine call_of (limbs_ok (l := a) (by omega)) ?_
  simp only [↓R1, R2, R3, R4, TY, reduceIte, Nat.reduceEqDiff, Nat.reduceAdd, Nat.reduceMul, Nat.reduceLT, Nat.reduceLeDiff, reduceCtorEq, decide_true, decide_false, Int.reduceLE, Int.reduceLT, Int.reduceToNat, Int.reduceAdd, Int.reduceSub, Int.reduceMul, Int.reduceEq]
  refine call_of (limbs_ok (l := b) (by omega)) ?_
  have na : nq (nv a) ≤ (a.length + 7) / 8 := by
    rw [nq_le, ← pow256_8]; exact Nat.lt_of_lt_of_le (nv_lt a) (Nat.pow_le_pow_right (by omega) (by omega))
  have nbb : nq (nv b) ≤ (b.length + 7) / 8 := by
    rw [nq_le, ← pow256_8]; exact Nat.lt_of_lt_of_le (nv_lt b) (Nat.pow_le_pow_right (by omega) (by omega))
  have la : (a.length + 7) / 8 ≤ 5000100000 := by omega
  have lb : (b.length + 7) / 8 ≤ 5000100000 := by omega
  generalize (a.length + 7) / 8 = n at *
  generalize (b.length + 7) / 8 = m at *
  have xlt : (nb (nv a)).length ≤ 40000000000 := Nat.le_trans (nb_len_nv a) ha
  generalize nv a = X0 at *
  generalize nv b = Y0 at *
  generalize hH : Hp.push _ (Blk.row (qc (ql Y0 m)) 0 1) = H
  have hHx : Xt A.next A H := by rw [← hH]; exact ((Xt.refl A).push _).push _
  have hHn : H.next = A.next + 2 := by rw [← hH]; rfl
  have hH1 : H.blk A.next = some (.row (qc ([] ++ (ql X0 n ++ []))) 0 1) := by rw [← hH]; simp [Hp.push_blk]
  have hH2 : H.blk (A.next + 1) = some (.row (qc ([] ++ (ql Y0 m ++ []))) 0 1) := by rw [← hH]; simp [Hp.push_blk]
  clear hH
  simp only [↓R1, R2, R3, R4, TY, reduceIte, Nat.reduceEqDiff, Nat.reduceAdd, Nat.reduceMul, Nat.reduceLT, Nat.reduceLeDiff, reduceCtorEq, decide_true, decide_false, Int.reduceLE, Int.reduceLT, Int.reduceToNat, Int.reduceAdd, Int.reduceSub, Int.reduceMul, Int.reduceEq]
  refine call_of (evens_ok (lo := []) hG h0 na (by simp; omega) hH1) ?_
  simp only [↓R1, R2, R3, R4, TY, reduceIte, Nat.reduceEqDiff, Nat.reduceAdd, Nat.reduceMul, Nat.reduceLT, Nat.reduceLeDiff, reduceCtorEq, decide_true, decide_false, Int.reduceLE, Int.reduceLT, Int.reduceToNat, Int.reduceAdd, Int.reduceSub, Int.reduceMul, Int.reduceEq]
  refine call_of (evens_ok (lo := []) hG h1 nbb (by simp; omega) hH2) ?_
  simp only [↓R1, R2, R3, R4, TY, reduceIte, Nat.reduceEqDiff, Nat.reduceAdd, Nat.reduceMul, Nat.reduceLT, Nat.reduceLeDiff, reduceCtorEq, decide_true, decide_false, Int.reduceLE, Int.reduceLT, Int.reduceToNat, Int.reduceAdd, Int.reduceSub, Int.reduceMul, Int.reduceEq]
  have vx := v2_nq h0
  have vy := v2_nq h1
  refine call_of (right_ok (lo := []) na (by omega) (Nat.le_refl _) (by simp; omega) hH1 (by omega) (by omega)) ?_
  have hb2 : (H.put A.next (.row (qc ([] ++ ql X0 (v2 X0 / 64) ++ (ql (X0 / 2 ^ v2 X0) (n - v2 X0 / 64) ++ []))) 0 1)).blk (A.next + 1) = some (.row (qc ([] ++ (ql Y0 m ++ []))) 0 1) := by
    rw [Hp.put_blk, if_neg (by omega)]; exact hH2
  simp only [↓R1, R2, R3, R4, TY, reduceIte, Nat.reduceEqDiff, Nat.reduceAdd, Nat.reduceMul, Nat.reduceLT, Nat.reduceLeDiff, reduceCtorEq, decide_true, decide_false, Int.reduceLE, Int.reduceLT, Int.reduceToNat, Int.reduceAdd, Int.reduceSub, Int.reduceMul, Int.reduceEq]
  refine call_of (right_ok (lo := []) nbb (by omega) (Nat.le_refl _) (by simp; omega) hb2 (by simp only [Hp.put_next]; omega) (by omega)) ?_
  generalize hC : Hp.put (Hp.put H A.next _) (A.next + 1) _ = C
  have hCx : Xt A.next A C := by rw [← hC]; exact (hHx.put (Nat.le_refl _) _).put (by omega) _
  have hCn : C.next = A.next + 2 := by rw [← hC]; exact hHn
  have hC1 : C.blk A.next = some (.row (qc ([] ++ ql X0 (v2 X0 / 64) ++ (ql (oddp X0) (n - v2 X0 / 64) ++ []))) 0 1) := by rw [← hC, Hp.put_blk, if_neg (by omega), Hp.put_blk, if_pos rfl]; rfl
  have hC2 : C.blk (A.next + 1) = some (.row (qc ([] ++ ql Y0 (v2 Y0 / 64) ++ (ql (oddp Y0) (m - v2 Y0 / 64) ++ []))) 0 1) := by rw [← hC, Hp.put_blk, if_pos rfl]; rfl
  clear hC
  have ox := nq_oddp h0 na
  have oy := nq_oddp h1 nbb
  have hC1' := regroup hC1 ox
  have hC2' := regroup hC2 oy
  have hl1 : ([] ++ ql X0 (v2 X0 / 64)).length = v2 X0 / 64 := by rw [List.length_append, ql_length, List.length_nil, Nat.zero_add]
  have hl2 : ([] ++ ql Y0 (v2 Y0 / 64)).length = v2 Y0 / 64 := by rw [List.length_append, ql_length, List.length_nil, Nat.zero_add]
  have hgg := gcd_halves h0 h1
  generalize hg : Nat.gcd (oddp X0) (oddp Y0) = g at hgg
  simp only [↓R1, R2, R3, R4, TY, reduceIte, Nat.reduceEqDiff, Nat.reduceAdd, Nat.reduceMul, Nat.reduceLT, Nat.reduceLeDiff, reduceCtorEq, decide_true, decide_false, Int.reduceLE, Int.reduceLT, Int.reduceToNat, Int.reduceAdd, Int.reduceSub, Int.reduceMul, Int.reduceEq]
  refine loop_with (Post := fun τ B => ∃ X Y i1 i2 o1 o2 c1 c2 : Nat, ∃ l1 h1 l2 h2 : List Nat, l1.length = o1 ∧ l2.length = o2 ∧ Xt A.next A B ∧ B.next = A.next + 2 ∧ i1 ≠ i2 ∧ A.next ≤ i1 ∧ i1 < A.next + 2 ∧ A.next ≤ i2 ∧ i2 < A.next + 2 ∧ B.blk i1 = some (.row (qc (l1 ++ (ql X (nq X) ++ h1))) 0 1) ∧ B.blk i2 = some (.row (qc (l2 ++ (ql Y (nq Y) ++ h2))) 0 1) ∧ l1.length + nq X ≤ 20000000000 ∧ l2.length + nq Y ≤ 20000000000 ∧ nq X ≤ c1 ∧ nq Y ≤ c2 ∧ τ 5 = some (.slice (some ⟨i1, o1, some 0⟩) (nq X) c1) ∧ τ 6 = some (.slice (some ⟨i2, o2, some 0⟩) (nq Y) c2) ∧ τ 7 = some (.int .i64 (v2 X0 : Nat)) ∧ τ 8 = some (.int .i64 (v2 Y0 : Nat)) ∧ Y ≠ 0 ∧ ((nq X = 1 ∧ nq Y = 1 ∧ X ≠ 0 ∧ Nat.gcd X Y = g) ∨ (X = 0 ∧ Y = g))) (.exit 0) ?_ ?_
  rotate_left
  · intro K0 hK0
    refine loop_rank (fun r τ B => ∃ X Y i1 i2 o1 o2 c1 c2 : Nat, ∃ l1 h1 l2 h2 : List Nat, l1.length = o1 ∧ l2.length = o2 ∧ X + Y = r ∧ X % 2 = 1 ∧ Y % 2 = 1 ∧ Nat.gcd X Y = g ∧ Xt A.next A B ∧ B.next = A.next + 2 ∧ i1 ≠ i2 ∧ A.next ≤ i1 ∧ i1 < A.next + 2 ∧ A.next ≤ i2 ∧ i2 < A.next + 2 ∧ B.blk i1 = some (.row (qc (l1 ++ (ql X (nq X) ++ h1))) 0 1) ∧ B.blk i2 = some (.row (qc (l2 ++ (ql Y (nq Y) ++ h2))) 0 1) ∧ l1.length + nq X ≤ 20000000000 ∧ l2.length + nq Y ≤ 20000000000 ∧ nq X ≤ c1 ∧ nq Y ≤ c2 ∧ τ 5 = some (.slice (some ⟨i1, o1, some 0⟩) (nq X) c1) ∧ τ 6 = some (.slice (some ⟨i2, o2, some 0⟩) (nq Y) c2) ∧ τ 7 = some (.int .i64 (v2 X0 : Nat)) ∧ τ 8 = some (.int .i64 (v2 Y0 : Nat))) (oddp X0 + oddp Y0) ?_ ?_
    · exact ⟨oddp X0, oddp Y0, A.next, A.next + 1, _, _, n - v2 X0 / 64, m - v2 Y0 / 64, _, _, _, _, hl1, hl2, rfl, (oddp_spec h0).2, (oddp_spec h1).2, hg, hCx, hCn, by omega, by omega, by omega, by omega, by omega, hC1', hC2', by rw [hl1]; omega, by rw [hl2]; omega, by omega, by omega, rfl, rfl, rfl, rfl⟩
    clear hg
    rintro r τ B ⟨X, Y, i1, i2, o1, o2, c1, c2, l1, h1, l2, h2, rfl, rfl, rfl, oX, oY, hg, hx, hBn, hne, p1, p2, p3, p4, hb1, hb2, s1, s2, k1, k2, q5, q6, q7, q8⟩ K' hN hE
    have hX0 : X ≠ 0 := by omega
    have hY0 : Y ≠ 0 := by omega
    have nX1 : nq X ≠ 0 := mt nq_eq_zero.1 hX0
    have nY1 : nq Y ≠ 0 := mt nq_eq_zero.1 hY0
    have g1 : ((1 : Int) < ((nq X : Nat) : Int)) = (1 < nq X) := propext (by omega)
    have g2 : ((1 : Int) < ((nq Y : Nat) : Int)) = (1 < nq Y) := propext (by omega)
    by_cases hend : nq X = 1 ∧ nq Y = 1
    · have e1 : (1 < nq X) = False := eq_false (by omega)
      have e2 : (1 < nq Y) = False := eq_false (by omega)
      simp only [↓R1, R2, R3, R4, TY, reduceIte, Nat.reduceEqDiff, Nat.reduceAdd, Nat.reduceMul, Nat.reduceLT, Nat.reduceLeDiff, reduceCtorEq, decide_true, decide_false, Int.reduceLE, Int.reduceLT, Int.reduceToNat, Int.reduceAdd, Int.reduceSub, Int.reduceMul, Int.reduceEq, q5, q6, q7, q8, g1, g2, e1, e2]
      exact hE _ _ _ (by simp) (hK0 _ _ ⟨X, Y, i1, i2, _, _, c1, c2, l1, h1, l2, h2, rfl, rfl, hx, hBn, hne, p1, p2, p3, p4, hb1, hb2, s1, s2, k1, k2, q5, q6, q7, q8, hY0, .inl ⟨hend.1, hend.2, hX0, hg⟩⟩)
    have hgo : ∀ T : Prop, T → ((1 < nq X → T) ∧ (¬ 1 < nq X → T)) := fun T h => ⟨fun _ => h, fun _ => h⟩
    have hbel := nbelow_ok (G := G) (fl := fl) (c1 := c1) (c2 := c2) (by omega) (by omega) hb1 hb2
    have hor : (1 < nq X) ∨ (1 < nq Y) := by omega
    have hnn : 1 < nq X ∨ (¬ 1 < nq X ∧ 1 < nq Y) := by omega
    rcases hnn with hnx | ⟨hnx, hny⟩
    · simp only [↓R1, R2, R3, R4, TY, reduceIte, Nat.reduceEqDiff, Nat.reduceAdd, Nat.reduceMul, Nat.reduceLT, Nat.reduceLeDiff, reduceCtorEq, decide_true, decide_false, Int.reduceLE, Int.reduceLT, Int.reduceToNat, Int.reduceAdd, Int.reduceSub, Int.reduceMul, Int.reduceEq, q5, q6, q7, q8, g1, g2, hnx]
      refine call_of hbel ?_
      by_cases hlt : X < Y
      · have hYX : X ≤ Y := by omega
        have hY0 : X ≠ 0 := by omega
        have hnYX := nq_mono hYX
        have gD : Nat.gcd (Y - X) X = g := by rw [gcd_minus hYX]; exact (by rw [Nat.gcd_comm]; exact hg)
        simp only [↓R1, R2, R3, R4, TY, reduceIte, Nat.reduceEqDiff, Nat.reduceAdd, Nat.reduceMul, Nat.reduceLT, Nat.reduceLeDiff, reduceCtorEq, decide_true, decide_false, Int.reduceLE, Int.reduceLT, Int.reduceToNat, Int.reduceAdd, Int.reduceSub, Int.reduceMul, Int.reduceEq, q5, q6, q7, q8, hlt, decide_true, decide_false, brI_true, brI_false]
        refine call_of (minus_ok (A := B) hYX (Nat.le_refl _) (Nat.le_refl _) hnYX k2 (by omega) (by omega) (by omega) hne hb2 hb1) ?_
        generalize hC : Hp.put B i2 _ = C
        have hCx : Xt A.next A C := by rw [← hC]; exact hx.put (by omega) _
        have hCn : C.next = A.next + 2 := by rw [← hC]; exact hBn
        have hC1 : C.blk i2 = some (.row (qc (l2 ++ (ql (Y - X) (nq Y) ++ h2))) 0 1) := by rw [← hC, Hp.put_blk, if_pos rfl]
        have hC2 : C.blk i1 = some (.row (qc (l1 ++ (ql X (nq X) ++ h1))) 0 1) := by rw [← hC, Hp.put_blk, if_neg hne]; exact hb1
        clear hC
        have hC1' := regroup hC1 (nq_mono (Nat.sub_le Y X))
        have hnD := nq_mono (Nat.sub_le Y X)
        have hz : (((nq (Y - X) : Nat) : Int) = 0) = (Y - X = 0) := by
          rw [← nq_eq_zero (n := Y - X)]; exact propext (by omega)
        by_cases hD : Y - X = 0
        · have hz0 := hz.trans (eq_true hD)
          simp only [↓R1, R2, R3, R4, TY, reduceIte, Nat.reduceEqDiff, Nat.reduceAdd, Nat.reduceMul, Nat.reduceLT, Nat.reduceLeDiff, reduceCtorEq, decide_true, decide_false, Int.reduceLE, Int.reduceLT, Int.reduceToNat, Int.reduceAdd, Int.reduceSub, Int.reduceMul, Int.reduceEq, q5, q6, q7, q8, hlt, decide_true, decide_false, brI_true, brI_false, hz0]
          rw [hD, Nat.gcd_zero_left] at gD
          refine hE _ _ _ (by simp) (hK0 _ _ ⟨Y - X, X, i2, i1, _, _, c2, c1, l2, _, l1, h1, rfl, rfl, hCx, hCn, (Ne.symm hne), p3, p4, p1, p2, hC1', hC2, by omega, s1, by omega, k1, rfl, rfl, q7, q8, hY0, .inr ⟨hD, gD⟩⟩)
        · have vD := v2_nq hD
          have hz0 := hz.trans (eq_false hD)
          simp only [↓R1, R2, R3, R4, TY, reduceIte, Nat.reduceEqDiff, Nat.reduceAdd, Nat.reduceMul, Nat.reduceLT, Nat.reduceLeDiff, reduceCtorEq, decide_true, decide_false, Int.reduceLE, Int.reduceLT, Int.reduceToNat, Int.reduceAdd, Int.reduceSub, Int.reduceMul, Int.reduceEq, q5, q6, q7, q8, hlt, decide_true, decide_false, brI_true, brI_false, hz0]
          refine call_of (evens_ok (A := C) hG hD (Nat.le_refl _) (by omega) hC1') ?_
          simp only [↓R1, R2, R3, R4, TY, reduceIte, Nat.reduceEqDiff, Nat.reduceAdd, Nat.reduceMul, Nat.reduceLT, Nat.reduceLeDiff, reduceCtorEq, decide_true, decide_false, Int.reduceLE, Int.reduceLT, Int.reduceToNat, Int.reduceAdd, Int.reduceSub, Int.reduceMul, Int.reduceEq, q5, q6, q7, q8]
          refine call_of (right_ok (A := C) (Nat.le_refl _) (by omega) (by omega) (by omega) hC1' (by omega) (by omega)) ?_
          generalize hE2 : Hp.put C i2 _ = E
          have hEx : Xt A.next A E := by rw [← hE2]; exact hCx.put (by omega) _
          have hEn : E.next = A.next + 2 := by rw [← hE2]; exact hCn
          have hE1 : E.blk i2 = some (.row (qc (l2 ++ ql (Y - X) (v2 (Y - X) / 64) ++ (ql (oddp (Y - X)) (nq (Y - X) - v2 (Y - X) / 64) ++ (List.replicate (nq Y - nq (Y - X)) 0 ++ h2)))) 0 1) := by rw [← hE2, Hp.put_blk, if_pos rfl]; rfl
          have hE3 : E.blk i1 = some (.row (qc (l1 ++ (ql X (nq X) ++ h1))) 0 1) := by rw [← hE2, Hp.put_blk, if_neg hne]; exact hC2
          clear hE2
          have hno := nq_oddp hD (Nat.le_refl _)
          have hE1' := regroup hE1 hno
          simp only [↓R1, R2, R3, R4, TY, reduceIte, Nat.reduceEqDiff, Nat.reduceAdd, Nat.reduceMul, Nat.reduceLT, Nat.reduceLeDiff, reduceCtorEq, decide_true, decide_false, Int.reduceLE, Int.reduceLT, Int.reduceToNat, Int.reduceAdd, Int.reduceSub, Int.reduceMul, Int.reduceEq, q5, q6, q7, q8]
          have hod := oddp_le (Y - X)
          have hll : (l2 ++ ql (Y - X) (v2 (Y - X) / 64)).length = l2.length + v2 (Y - X) / 64 := by rw [List.length_append, ql_length]
          refine hN _ _ _ (show oddp (Y - X) + X < X + Y by omega) ⟨oddp (Y - X), X, i2, i1, _, _, c2 - v2 (Y - X) / 64, c1, _, _, l1, h1, hll, rfl, rfl, (oddp_spec hD).2, oX, by rw [gcd_oddp hD oX]; exact gD, hEx, hEn, (Ne.symm hne), p3, p4, p1, p2, hE1', hE3, by rw [hll]; omega, s1, by omega, k1, rfl, rfl, q7, q8⟩
      · have hYX : Y ≤ X := by omega
        have hY0 : Y ≠ 0 := by omega
        have hnYX := nq_mono hYX
        have gD : Nat.gcd (X - Y) Y = g := by rw [gcd_minus hYX]; exact hg
        simp only [↓R1, R2, R3, R4, TY, reduceIte, Nat.reduceEqDiff, Nat.reduceAdd, Nat.reduceMul, Nat.reduceLT, Nat.reduceLeDiff, reduceCtorEq, decide_true, decide_false, Int.reduceLE, Int.reduceLT, Int.reduceToNat, Int.reduceAdd, Int.reduceSub, Int.reduceMul, Int.reduceEq, q5, q6, q7, q8, hlt, decide_true, decide_false, brI_true, brI_false]
        refine call_of (minus_ok (A := B) hYX (Nat.le_refl _) (Nat.le_refl _) hnYX k1 (by omega) (by omega) (by omega) (Ne.symm hne) hb1 hb2) ?_
        generalize hC : Hp.put B i1 _ = C
        have hCx : Xt A.next A C := by rw [← hC]; exact hx.put (by omega) _
        have hCn : C.next = A.next + 2 := by rw [← hC]; exact hBn
        have hC1 : C.blk i1 = some (.row (qc (l1 ++ (ql (X - Y) (nq X) ++ h1))) 0 1) := by rw [← hC, Hp.put_blk, if_pos rfl]
        have hC2 : C.blk i2 = some (.row (qc (l2 ++ (ql Y (nq Y) ++ h2))) 0 1) := by rw [← hC, Hp.put_blk, if_neg (Ne.symm hne)]; exact hb2
        clear hC
        have hC1' := regroup hC1 (nq_mono (Nat.sub_le X Y))
        have hnD := nq_mono (Nat.sub_le X Y)
        have hz : (((nq (X - Y) : Nat) : Int) = 0) = (X - Y = 0) := by
          rw [← nq_eq_zero (n := X - Y)]; exact propext (by omega)
        by_cases hD : X - Y = 0
        · have hz0 := hz.trans (eq_true hD)
          simp only [↓R1, R2, R3, R4, TY, reduceIte, Nat.reduceEqDiff, Nat.reduceAdd, Nat.reduceMul, Nat.reduceLT, Nat.reduceLeDiff, reduceCtorEq, decide_true, decide_false, Int.reduceLE, Int.reduceLT, Int.reduceToNat, Int.reduceAdd, Int.reduceSub, Int.reduceMul, Int.reduceEq, q5, q6, q7, q8, hlt, decide_true, decide_false, brI_true, brI_false, hz0]
          rw [hD, Nat.gcd_zero_left] at gD
          refine hE _ _ _ (by simp) (hK0 _ _ ⟨X - Y, Y, i1, i2, _, _, c1, c2, l1, _, l2, h2, rfl, rfl, hCx, hCn, hne, p1, p2, p3, p4, hC1', hC2, by omega, s2, by omega, k2, rfl, q6, q7, q8, hY0, .inr ⟨hD, gD⟩⟩)
        · have vD := v2_nq hD
          have hz0 := hz.trans (eq_false hD)
          simp only [↓R1, R2, R3, R4, TY, reduceIte, Nat.reduceEqDiff, Nat.reduceAdd, Nat.reduceMul, Nat.reduceLT, Nat.reduceLeDiff, reduceCtorEq, decide_true, decide_false, Int.reduceLE, Int.reduceLT, Int.reduceToNat, Int.reduceAdd, Int.reduceSub, Int.reduceMul, Int.reduceEq, q5, q6, q7, q8, hlt, decide_true, decide_false, brI_true, brI_false, hz0]
          refine call_of (evens_ok (A := C) hG hD (Nat.le_refl _) (by omega) hC1') ?_
          simp only [↓R1, R2, R3, R4, TY, reduceIte, Nat.reduceEqDiff, Nat.reduceAdd, Nat.reduceMul, Nat.reduceLT, Nat.reduceLeDiff, reduceCtorEq, decide_true, decide_false, Int.reduceLE, Int.reduceLT, Int.reduceToNat, Int.reduceAdd, Int.reduceSub, Int.reduceMul, Int.reduceEq, q5, q6, q7, q8]
          refine call_of (right_ok (A := C) (Nat.le_refl _) (by omega) (by omega) (by omega) hC1' (by omega) (by omega)) ?_
          generalize hE2 : Hp.put C i1 _ = E
          have hEx : Xt A.next A E := by rw [← hE2]; exact hCx.put (by omega) _
          have hEn : E.next = A.next + 2 := by rw [← hE2]; exact hCn
          have hE1 : E.blk i1 = some (.row (qc (l1 ++ ql (X - Y) (v2 (X - Y) / 64) ++ (ql (oddp (X - Y)) (nq (X - Y) - v2 (X - Y) / 64) ++ (List.replicate (nq X - nq (X - Y)) 0 ++ h1)))) 0 1) := by rw [← hE2, Hp.put_blk, if_pos rfl]; rfl
          have hE3 : E.blk i2 = some (.row (qc (l2 ++ (ql Y (nq Y) ++ h2))) 0 1) := by rw [← hE2, Hp.put_blk, if_neg (Ne.symm hne)]; exact hC2
          clear hE2
          have hno := nq_oddp hD (Nat.le_refl _)
          have hE1' := regroup hE1 hno
          simp only [↓R1, R2, R3, R4, TY, reduceIte, Nat.reduceEqDiff, Nat.reduceAdd, Nat.reduceMul, Nat.reduceLT, Nat.reduceLeDiff, reduceCtorEq, decide_true, decide_false, Int.reduceLE, Int.reduceLT, Int.reduceToNat, Int.reduceAdd, Int.reduceSub, Int.reduceMul, Int.reduceEq, q5, q6, q7, q8]
          have hod := oddp_le (X - Y)
          have hll : (l1 ++ ql (X - Y) (v2 (X - Y) / 64)).length = l1.length + v2 (X - Y) / 64 := by rw [List.length_append, ql_length]
          refine hN _ _ _ (show oddp (X - Y) + Y < X + Y by omega) ⟨oddp (X - Y), Y, i1, i2, _, _, c1 - v2 (X - Y) / 64, c2, _, _, l2, h2, hll, rfl, rfl, (oddp_spec hD).2, oY, by rw [gcd_oddp hD oY]; exact gD, hEx, hEn, hne, p1, p2, p3, p4, hE1', hE3, by rw [hll]; omega, s2, by omega, k2, rfl, q6, q7, q8⟩
    · simp only [↓R1, R2, R3, R4, TY, reduceIte, Nat.reduceEqDiff, Nat.reduceAdd, Nat.reduceMul, Nat.reduceLT, Nat.reduceLeDiff, reduceCtorEq, decide_true, decide_false, Int.reduceLE, Int.reduceLT, Int.reduceToNat, Int.reduceAdd, Int.reduceSub, Int.reduceMul, Int.reduceEq, q5, q6, q7, q8, g1, g2, hnx, hny]
      refine call_of hbel ?_
      by_cases hlt : X < Y
      · have hYX : X ≤ Y := by omega
        have hY0 : X ≠ 0 := by omega
        have hnYX := nq_mono hYX
        have gD : Nat.gcd (Y - X) X = g := by rw [gcd_minus hYX]; exact (by rw [Nat.gcd_comm]; exact hg)
        simp only [↓R1, R2, R3, R4, TY, reduceIte, Nat.reduceEqDiff, Nat.reduceAdd, Nat.reduceMul, Nat.reduceLT, Nat.reduceLeDiff, reduceCtorEq, decide_true, decide_false, Int.reduceLE, Int.reduceLT, Int.reduceToNat, Int.reduceAdd, Int.reduceSub, Int.reduceMul, Int.reduceEq, q5, q6, q7, q8, hlt, decide_true, decide_false, brI_true, brI_false]
        refine call_of (minus_ok (A := B) hYX (Nat.le_refl _) (Nat.le_refl _) hnYX k2 (by omega) (by omega) (by omega) hne hb2 hb1) ?_
        generalize hC : Hp.put B i2 _ = C
        have hCx : Xt A.next A C := by rw [← hC]; exact hx.put (by omega) _
        have hCn : C.next = A.next + 2 := by rw [← hC]; exact hBn
        have hC1 : C.blk i2 = some (.row (qc (l2 ++ (ql (Y - X) (nq Y) ++ h2))) 0 1) := by rw [← hC, Hp.put_blk, if_pos rfl]
        have hC2 : C.blk i1 = some (.row (qc (l1 ++ (ql X (nq X) ++ h1))) 0 1) := by rw [← hC, Hp.put_blk, if_neg hne]; exact hb1
        clear hC
        have hC1' := regroup hC1 (nq_mono (Nat.sub_le Y X))
        have hnD := nq_mono (Nat.sub_le Y X)
        have hz : (((nq (Y - X) : Nat) : Int) = 0) = (Y - X = 0) := by
          rw [← nq_eq_zero (n := Y - X)]; exact propext (by omega)
        by_cases hD : Y - X = 0
        · have hz0 := hz.trans (eq_true hD)
          simp only [↓R1, R2, R3, R4, TY, reduceIte, Nat.reduceEqDiff, Nat.reduceAdd, Nat.reduceMul, Nat.reduceLT, Nat.reduceLeDiff, reduceCtorEq, decide_true, decide_false, Int.reduceLE, Int.reduceLT, Int.reduceToNat, Int.reduceAdd, Int.reduceSub, Int.reduceMul, Int.reduceEq, q5, q6, q7, q8, hlt, decide_true, decide_false, brI_true, brI_false, hz0]
          rw [hD, Nat.gcd_zero_left] at gD
          refine hE _ _ _ (by simp) (hK0 _ _ ⟨Y - X, X, i2, i1, _, _, c2, c1, l2, _, l1, h1, rfl, rfl, hCx, hCn, (Ne.symm hne), p3, p4, p1, p2, hC1', hC2, by omega, s1, by omega, k1, rfl, rfl, q7, q8, hY0, .inr ⟨hD, gD⟩⟩)
        · have vD := v2_nq hD
          have hz0 := hz.trans (eq_false hD)
          simp only [↓R1, R2, R3, R4, TY, reduceIte, Nat.reduceEqDiff, Nat.reduceAdd, Nat.reduceMul, Nat.reduceLT, Nat.reduceLeDiff, reduceCtorEq, decide_true, decide_false, Int.reduceLE, Int.reduceLT, Int.reduceToNat, Int.reduceAdd, Int.reduceSub, Int.reduceMul, Int.reduceEq, q5, q6, q7, q8, hlt, decide_true, decide_false, brI_true, brI_false, hz0]
          refine call_of (evens_ok (A := C) hG hD (Nat.le_refl _) (by omega) hC1') ?_
          simp only [↓R1, R2, R3, R4, TY, reduceIte, Nat.reduceEqDiff, Nat.reduceAdd, Nat.reduceMul, Nat.reduceLT, Nat.reduceLeDiff, reduceCtorEq, decide_true, decide_false, Int.reduceLE, Int.reduceLT, Int.reduceToNat, Int.reduceAdd, Int.reduceSub, Int.reduceMul, Int.reduceEq, q5, q6, q7, q8]
          refine call_of (right_ok (A := C) (Nat.le_refl _) (by omega) (by omega) (by omega) hC1' (by omega) (by omega)) ?_
          generalize hE2 : Hp.put C i2 _ = E
          have hEx : Xt A.next A E := by rw [← hE2]; exact hCx.put (by omega) _
          have hEn : E.next = A.next + 2 := by rw [← hE2]; exact hCn
          have hE1 : E.blk i2 = some (.row (qc (l2 ++ ql (Y - X) (v2 (Y - X) / 64) ++ (ql (oddp (Y - X)) (nq (Y - X) - v2 (Y - X) / 64) ++ (List.replicate (nq Y - nq (Y - X)) 0 ++ h2)))) 0 1) := by rw [← hE2, Hp.put_blk, if_pos rfl]; rfl
          have hE3 : E.blk i1 = some (.row (qc (l1 ++ (ql X (nq X) ++ h1))) 0 1) := by rw [← hE2, Hp.put_blk, if_neg hne]; exact hC2
          clear hE2
          have hno := nq_oddp hD (Nat.le_refl _)
          have hE1' := regroup hE1 hno
          simp only [↓R1, R2, R3, R4, TY, reduceIte, Nat.reduceEqDiff, Nat.reduceAdd, Nat.reduceMul, Nat.reduceLT, Nat.reduceLeDiff, reduceCtorEq, decide_true, decide_false, Int.reduceLE, Int.reduceLT, Int.reduceToNat, Int.reduceAdd, Int.reduceSub, Int.reduceMul, Int.reduceEq, q5, q6, q7, q8]
          have hod := oddp_le (Y - X)
          have hll : (l2 ++ ql (Y - X) (v2 (Y - X) / 64)).length = l2.length + v2 (Y - X) / 64 := by rw [List.length_append, ql_length]
          refine hN _ _ _ (show oddp (Y - X) + X < X + Y by omega) ⟨oddp (Y - X), X, i2, i1, _, _, c2 - v2 (Y - X) / 64, c1, _, _, l1, h1, hll, rfl, rfl, (oddp_spec hD).2, oX, by rw [gcd_oddp hD oX]; exact gD, hEx, hEn, (Ne.symm hne), p3, p4, p1, p2, hE1', hE3, by rw [hll]; omega, s1, by omega, k1, rfl, rfl, q7, q8⟩
      · have hYX : Y ≤ X := by omega
        have hY0 : Y ≠ 0 := by omega
        have hnYX := nq_mono hYX
        have gD : Nat.gcd (X - Y) Y = g := by rw [gcd_minus hYX]; exact hg
        simp only [↓R1, R2, R3, R4, TY, reduceIte, Nat.reduceEqDiff, Nat.reduceAdd, Nat.reduceMul, Nat.reduceLT, Nat.reduceLeDiff, reduceCtorEq, decide_true, decide_false, Int.reduceLE, Int.reduceLT, Int.reduceToNat, Int.reduceAdd, Int.reduceSub, Int.reduceMul, Int.reduceEq, q5, q6, q7, q8, hlt, decide_true, decide_false, brI_true, brI_false]
        refine call_of (minus_ok (A := B) hYX (Nat.le_refl _) (Nat.le_refl _) hnYX k1 (by omega) (by omega) (by omega) (Ne.symm hne) hb1 hb2) ?_
        generalize hC : Hp.put B i1 _ = C
        have hCx : Xt A.next A C := by rw [← hC]; exact hx.put (by omega) _
        have hCn : C.next = A.next + 2 := by rw [← hC]; exact hBn
        have hC1 : C.blk i1 = some (.row (qc (l1 ++ (ql (X - Y) (nq X) ++ h1))) 0 1) := by rw [← hC, Hp.put_blk, if_pos rfl]
        have hC2 : C.blk i2 = some (.row (qc (l2 ++ (ql Y (nq Y) ++ h2))) 0 1) := by rw [← hC, Hp.put_blk, if_neg (Ne.symm hne)]; exact hb2
        clear hC
        have hC1' := regroup hC1 (nq_mono (Nat.sub_le X Y))
        have hnD := nq_mono (Nat.sub_le X Y)
        have hz : (((nq (X - Y) : Nat) : Int) = 0) = (X - Y = 0) := by
          rw [← nq_eq_zero (n := X - Y)]; exact propext (by omega)
        by_cases hD : X - Y = 0
        · have hz0 := hz.trans (eq_true hD)
          simp only [↓R1, R2, R3, R4, TY, reduceIte, Nat.reduceEqDiff, Nat.reduceAdd, Nat.reduceMul, Nat.reduceLT, Nat.reduceLeDiff, reduceCtorEq, decide_true, decide_false, Int.reduceLE, Int.reduceLT, Int.reduceToNat, Int.reduceAdd, Int.reduceSub, Int.reduceMul, Int.reduceEq, q5, q6, q7, q8, hlt, decide_true, decide_false, brI_true, brI_false, hz0]
          rw [hD, Nat.gcd_zero_left] at gD
          refine hE _ _ _ (by simp) (hK0 _ _ ⟨X - Y, Y, i1, i2, _, _, c1, c2, l1, _, l2, h2, rfl, rfl, hCx, hCn, hne, p1, p2, p3, p4, hC1', hC2, by omega, s2, by omega, k2, rfl, q6, q7, q8, hY0, .inr ⟨hD, gD⟩⟩)
        · have vD := v2_nq hD
          have hz0 := hz.trans (eq_false hD)
          simp only [↓R1, R2, R3, R4, TY, reduceIte, Nat.reduceEqDiff, Nat.reduceAdd, Nat.reduceMul, Nat.reduceLT, Nat.reduceLeDiff, reduceCtorEq, decide_true, decide_false, Int.reduceLE, Int.reduceLT, Int.reduceToNat, Int.reduceAdd, Int.reduceSub, Int.reduceMul, Int.reduceEq, q5, q6, q7, q8, hlt, decide_true, decide_false, brI_true, brI_false, hz0]
          refine call_of (evens_ok (A := C) hG hD (Nat.le_refl _) (by omega) hC1') ?_
          simp only [↓R1, R2, R3, R4, TY, reduceIte, Nat.reduceEqDiff, Nat.reduceAdd, Nat.reduceMul, Nat.reduceLT, Nat.reduceLeDiff, reduceCtorEq, decide_true, decide_false, Int.reduceLE, Int.reduceLT, Int.reduceToNat, Int.reduceAdd, Int.reduceSub, Int.reduceMul, Int.reduceEq, q5, q6, q7, q8]
          refine call_of (right_ok (A := C) (Nat.le_refl _) (by omega) (by omega) (by omega) hC1' (by omega) (by omega)) ?_
          generalize hE2 : Hp.put C i1 _ = E
          have hEx : Xt A.next A E := by rw [← hE2]; exact hCx.put (by omega) _
          have hEn : E.next = A.next + 2 := by rw [← hE2]; exact hCn
          have hE1 : E.blk i1 = some (.row (qc (l1 ++ ql (X - Y) (v2 (X - Y) / 64) ++ (ql (oddp (X - Y)) (nq (X - Y) - v2 (X - Y) / 64) ++ (List.replicate (nq X - nq (X - Y)) 0 ++ h1)))) 0 1) := by rw [← hE2, Hp.put_blk, if_pos rfl]; rfl
          have hE3 : E.blk i2 = some (.row (qc (l2 ++ (ql Y (nq Y) ++ h2))) 0 1) := by rw [← hE2, Hp.put_blk, if_neg (Ne.symm hne)]; exact hC2
          clear hE2
          have hno := nq_oddp hD (Nat.le_refl _)
          have hE1' := regroup hE1 hno
          simp only [↓R1, R2, R3, R4, TY, reduceIte, Nat.reduceEqDiff, Nat.reduceAdd, Nat.reduceMul, Nat.reduceLT, Nat.reduceLeDiff, reduceCtorEq, decide_true, decide_false, Int.reduceLE, Int.reduceLT, Int.reduceToNat, Int.reduceAdd, Int.reduceSub, Int.reduceMul, Int.reduceEq, q5, q6, q7, q8]
          have hod := oddp_le (X - Y)
          have hll : (l1 ++ ql (X - Y) (v2 (X - Y) / 64)).length = l1.length + v2 (X - Y) / 64 := by rw [List.length_append, ql_length]
          refine hN _ _ _ (show oddp (X - Y) + Y < X + Y by omega) ⟨oddp (X - Y), Y, i1, i2, _, _, c1 - v2 (X - Y) / 64, c2, _, _, l2, h2, hll, rfl, rfl, (oddp_spec hD).2, oY, by rw [gcd_oddp hD oY]; exact gD, hEx, hEn, hne, p1, p2, p3, p4, hE1', hE3, by rw [hll]; omega, s2, by omega, k2, rfl, q6, q7, q8⟩
  clear hg hb2 hC1 hC2 hC1' hC2' hH1 hH2 hCx hCn
  rintro τ B ⟨X, Y, i1, i2, o1, o2, c1, c2, l1, r1, l2, r2, rfl, rfl, hx, hBn, hne, p1, p2, p3, p4, hb1, hb2, s1, s2, k1, k2, q5, q6, q7, q8, hY0, hcase⟩
  have g0 : g ≠ 0 := by
    intro h
    rw [h, Nat.zero_mul] at hgg
    exact h0 (Nat.gcd_eq_zero_iff.1 hgg).1
  have hgl : (nb g).length ≤ 40000000000 := by
    refine nb_len_le' (Nat.le_trans ?_ (Nat.gcd_le_left Y0 (Nat.pos_of_ne_zero h0))) xlt
    rw [hgg]; exact Nat.le_mul_of_pos_right _ (Nat.pow_pos (by omega))
  have e1 : (((nq X : Nat) : Int) = 1) = (nq X = 1) := propext (by omega)
  have e2 : (((nq Y : Nat) : Int) = 1) = (nq Y = 1) := propext (by omega)
  rcases hcase with ⟨nX, nY, hX0, hg⟩ | ⟨hX0, hYg⟩
  · have xq : X < 18446744073709551616 := by have := lt_nq X; rw [nX] at this; simpa using this
    have yq : Y < 18446744073709551616 := by have := lt_nq Y; rw [nY] at this; simpa using this
    have xg : B.get G ⟨i1, l1.length, some 0⟩ = some (.int .u64 (X : Nat)) := by
      simp only [Hp.get, hb1, if_true]
      have := mid_get (lo := l1) (hi := r1) (X := X) (n := nq X) (j := 0) (by omega)
      rw [Nat.add_zero, Nat.pow_zero, Nat.div_one, Nat.mod_eq_of_lt xq] at this; exact this
    have yg : B.get G ⟨i2, l2.length, some 0⟩ = some (.int .u64 (Y : Nat)) := by
      simp only [Hp.get, hb2, if_true]
      have := mid_get (lo := l2) (hi := r2) (X := Y) (n := nq Y) (j := 0) (by omega)
      rw [Nat.add_zero, Nat.pow_zero, Nat.div_one, Nat.mod_eq_of_lt yq] at this; exact this
    have gY : g < 18446744073709551616 := by rw [← hg]; exact Nat.lt_of_le_of_lt (Nat.gcd_le_right _ (by omega)) yq
    have ng : nq g = 1 := nq_one g0 gY
    have j1 : (0 : Int) < ((nq X : Nat) : Int) := by omega
    have j2 : (0 : Int) < ((nq Y : Nat) : Int) := by omega
    have cm := fun fl' => common_ok (G := G) (fl := fl') (A := B) xq yq
    rw [hg] at cm
    have e1t := e1.trans (eq_true nX)
    have e2t := e2.trans (eq_true nY)
    have hset : (qc (l2 ++ (ql Y (nq Y) ++ r2))).set l2.length (.int .u64 (g : Nat)) = qc (l2 ++ (ql g (nq g) ++ r2)) := by
      rw [qc_set, List.set_append_right _ _ (Nat.le_refl _), Nat.sub_self, nY, ng]
      have h1 : ∀ z, z < 18446744073709551616 → ql z 1 = [z] := fun z hz => by rw [ql_succ, Nat.pow_zero, Nat.div_one, Nat.mod_eq_of_lt hz]; rfl
      rw [h1 _ yq, h1 _ gY]; rfl
    have hlx : l2.length + 1 ≤ (qc (l2 ++ (ql Y (nq Y) ++ r2))).length := by
      rw [qc_length, List.length_append, List.length_append, ql_length]; omega
    have hfi : fl ≤ i2 := by omega
    simp only [↓R1, R2, R3, R4, TY, reduceIte, Nat.reduceEqDiff, Nat.reduceAdd, Nat.reduceMul, Nat.reduceLT, Nat.reduceLeDiff, reduceCtorEq, decide_true, decide_false, Int.reduceLE, Int.reduceLT, Int.reduceToNat, Int.reduceAdd, Int.reduceSub, Int.reduceMul, Int.reduceEq, q5, q6, q7, q8, e1t, e2t, j1, j2, xg, yg]
    refine call_of (cm _) ?_
    simp only [↓R1, R2, R3, R4, TY, reduceIte, Nat.reduceEqDiff, Nat.reduceAdd, Nat.reduceMul, Nat.reduceLT, Nat.reduceLeDiff, reduceCtorEq, decide_true, decide_false, Int.reduceLE, Int.reduceLT, Int.reduceToNat, Int.reduceAdd, Int.reduceSub, Int.reduceMul, Int.reduceEq, q5, q6, q7, q8, e1t, e2t, j1, j2, xg, yg, hb2, hset, hlx, hfi]
    rw [floOf_wr (by kernel_rfl)]
    simp only [↓R1, R2, R3, R4, TY, reduceIte, Nat.reduceEqDiff, Nat.reduceAdd, Nat.reduceMul, Nat.reduceLT, Nat.reduceLeDiff, reduceCtorEq, decide_true, decide_false, Int.reduceLE, Int.reduceLT, Int.reduceToNat, Int.reduceAdd, Int.reduceSub, Int.reduceMul, Int.reduceEq, q5, q6, q7, q8, e1t, e2t, j1, j2, xg, yg, hb2, hset, hlx, hfi]
    generalize hC : Hp.put B i2 _ = C
    have hCx : Xt A.next A C := by rw [← hC]; exact hx.put (by omega) _
    have hCn : C.next = A.next + 2 := by rw [← hC]; exact hBn
    have hCb : C.blk i2 = some (.row (qc (l2 ++ (ql g (nq g) ++ r2))) 0 1) := by rw [← hC, Hp.put_blk, if_pos rfl]; exact congrArg (fun c => some (Blk.row c 0 1)) hset
    clear hC hx hBn hb1 hb2 hset hlx
    have hNN : nq g = nq Y := by omega
    rw [hNN] at hCb
    have hgN : g < 18446744073709551616 ^ nq Y := by rw [← hNN]; exact lt_nq g
    clear e1 e2 e1t e2t nX nY j1 j2
    generalize nq Y = N at *
    have w1 : IntKind.i64.wrap (8 * ((N : Nat) : Int)) = ((8 * N : Nat) : Int) := by rw [wrapI (by omega)]; omega
    have w4 : ((1 : Nat) : Int) * ((8 * N : Nat) : Int) ≤ 281474976710656 := by omega
    have w4' : ((8 * N : Nat) : Int) ≤ 281474976710656 := by omega
    have w5 : ((8 * N : Nat) : Int) ≤ 9223372036854775807 := by omega
    simp only [↓R1, R2, R3, R4, TY, reduceIte, Nat.reduceEqDiff, Nat.reduceAdd, Nat.reduceMul, Nat.reduceLT, Nat.reduceLeDiff, reduceCtorEq, decide_true, decide_false, Int.reduceLE, Int.reduceLT, Int.reduceToNat, Int.reduceAdd, Int.reduceSub, Int.reduceMul, Int.reduceEq, q6, q7, q8, w1, w4, w4', w5]
    refine range_of 74 N (fun i τ D => ∃ low : List UInt8, low.length = 8 * i ∧ nv low = g % 18446744073709551616 ^ i ∧ Xt A.next A D ∧ D.next = A.next + 3 ∧ D.blk i2 = some (.row (qc (l2 ++ (ql g N ++ r2))) 0 1) ∧ D.blk (A.next + 2) = some (.row (bl (List.replicate (8 * (N - i)) 0 ++ low)) 0 1) ∧
      τ 6 = some (.slice (some ⟨i2, l2.length, some 0⟩) N c2) ∧ τ 7 = some (.int .i64 (v2 X0 : Nat)) ∧ τ 8 = some (.int .i64 (v2 Y0 : Nat)) ∧ τ 9 = some (.slice (some ⟨A.next + 2, 0, some 0⟩) (8 * N) (8 * N)) ∧ τ 72 = some (.slice (some ⟨i2, l2.length, some 0⟩) N c2) ∧ τ 73 = some (.int .i64 N) ∧ τ 74 = some (.int .i64 i)) ?_ ?_
    · refine ⟨[], rfl, by simp [nv_nil, Nat.mod_one], hCx.push _, by rw [Hp.push_next, hCn], by rw [Hp.push_blk, if_neg (by omega)]; exact hCb, ?_, q6, q7, q8, by simp [upd, hCn], rfl, rfl, rfl⟩
      rw [Hp.push_blk, if_pos hCn.symm, zl_one, bl_zeros]; simp
    rintro i τ D hi ⟨low, hll, hlv, hDx, hDn, hD2, hDb, q6, q7, q8, q9, q72, q73, q74⟩
    simp only [↓R1, R2, R3, R4, TY, reduceIte, Nat.reduceEqDiff, Nat.reduceAdd, Nat.reduceMul, Nat.reduceLT, Nat.reduceLeDiff, reduceCtorEq, decide_true, decide_false, Int.reduceLE, Int.reduceLT, Int.reduceToNat, Int.reduceAdd, Int.reduceSub, Int.reduceMul, Int.reduceEq, q6, q7, q8, q9, q72, q73, q74]
    refine ⟨fun hlt => ?_, fun hlt => ?_⟩
    · have hgw : D.get G ⟨i2, l2.length + i, some 0⟩ = some (.int .u64 ((g / 18446744073709551616 ^ i % 18446744073709551616 : Nat) : Int)) := by
        simp only [Hp.get, hD2, if_true]; exact mid_get hlt
      have hw64 : g / 18446744073709551616 ^ i % 18446744073709551616 < 18446744073709551616 := Nat.mod_lt _ (by omega)
      have hnew : g % 18446744073709551616 ^ (i + 1) = (g / 18446744073709551616 ^ i % 18446744073709551616) * 256 ^ (8 * i) + g % 18446744073709551616 ^ i := by
        rw [Nat.pow_succ, Nat.mod_mul, pow256_8, Nat.mul_comm (18446744073709551616 ^ i)]; omega
      generalize g / 18446744073709551616 ^ i % 18446744073709551616 = w at *
      have hi63 : i < 9223372036854775807 := by omega
      have q74' := q74
      have wi : IntKind.i64.wrap ((i : Int) + 1) = ((i + 1 : Nat) : Int) := by rw [wrapI (by omega)]; omega
      simp only [↓R1, R2, R3, R4, TY, reduceIte, Nat.reduceEqDiff, Nat.reduceAdd, Nat.reduceMul, Nat.reduceLT, Nat.reduceLeDiff, reduceCtorEq, decide_true, decide_false, Int.reduceLE, Int.reduceLT, Int.reduceToNat, Int.reduceAdd, Int.reduceSub, Int.reduceMul, Int.reduceEq, q6, q7, q8, q9, q72, q73, q74, hlt, hgw, hi63]
      refine range_of 79 8 (fun k τ E => Xt A.next A E ∧ E.next = A.next + 3 ∧ E.blk i2 = some (.row (qc (l2 ++ (ql g N ++ r2))) 0 1) ∧ E.blk (A.next + 2) = some (.row (bl (List.replicate (8 * (N - 1 - i)) 0 ++ (fs w k ++ (List.replicate (8 - k) 0 ++ low)))) 0 1) ∧
        τ 6 = some (.slice (some ⟨i2, l2.length, some 0⟩) N c2) ∧ τ 7 = some (.int .i64 (v2 X0 : Nat)) ∧ τ 8 = some (.int .i64 (v2 Y0 : Nat)) ∧ τ 9 = some (.slice (some ⟨A.next + 2, 0, some 0⟩) (8 * N) (8 * N)) ∧ τ 10 = some (.int .i64 i) ∧ τ 11 = some (.int .u64 (w : Nat)) ∧ τ 72 = some (.slice (some ⟨i2, l2.length, some 0⟩) N c2) ∧ τ 73 = some (.int .i64 N) ∧ τ 74 = some (.int .i64 i) ∧ τ 79 = some (.int .i64 k)) ?_ ?_
      · refine ⟨hDx, hDn, hD2, ?_, q6, q7, q8, q9, rfl, rfl, q72, q73, q74, rfl⟩
        rw [hDb, show 8 * (N - i) = 8 * (N - 1 - i) + 8 by omega, ← List.replicate_append_replicate, List.append_assoc]; rfl
      rintro k τ E hk ⟨hEx, hEn, hE2, hEb, q6, q7, q8, q9, q10, q11, q72, q73, q74, q79⟩
      simp only [↓R1, R2, R3, R4, TY, reduceIte, Nat.reduceEqDiff, Nat.reduceAdd, Nat.reduceMul, Nat.reduceLT, Nat.reduceLeDiff, reduceCtorEq, decide_true, decide_false, Int.reduceLE, Int.reduceLT, Int.reduceToNat, Int.reduceAdd, Int.reduceSub, Int.reduceMul, Int.reduceEq, q6, q7, q8, q9, q10, q11, q72, q73, q74, q79]
      refine ⟨fun hlk => ?_, fun hlk => ?_⟩
      · have v1 : IntKind.i64.wrap ((N : Int) - 1) = ((N - 1 : Nat) : Int) := by rw [wrapI (by omega)]; omega
        have v2' : IntKind.i64.wrap (((N - 1 : Nat) : Int) - (i : Int)) = ((N - 1 - i : Nat) : Int) := by rw [wrapI (by omega)]; omega
        have v3 : IntKind.i64.wrap (8 * ((N - 1 - i : Nat) : Int)) = ((8 * (N - 1 - i) : Nat) : Int) := by rw [wrapI (by omega)]; omega
        have v4 : IntKind.i64.wrap ((8 * (N - 1 - i) + k : Nat) : Int) = ((8 * (N - 1 - i) + k : Nat) : Int) := wrapI (by omega)
        have v5 : IntKind.i64.wrap (8 * (k : Int)) = ((8 * k : Nat) : Int) := by rw [wrapI (by omega)]; omega
        have v6 : IntKind.i64.wrap (56 - ((8 * k : Nat) : Int)) = ((56 - 8 * k : Nat) : Int) := by rw [wrapI (by omega)]; omega
        have v7 : min (56 - 8 * k) 64 = 56 - 8 * k := by omega
        have v8 : 8 * (N - 1 - i) + k < 8 * N := by omega
        have hk63 : k < 9223372036854775807 := by omega
        have hlen : (bl (List.replicate (8 * (N - 1 - i)) 0 ++ (fs w k ++ (List.replicate (8 - k) 0 ++ low)))).length = 8 * N := by
          rw [bl_length, List.length_append, List.length_append, List.length_append, fs_length, List.length_replicate, List.length_replicate, hll]; omega
        have v9 : 8 * (N - 1 - i) + k + 1 ≤ 8 * N := by omega
        have hf2 : fl ≤ A.next + 2 := by omega
        simp only [↓R1, R2, R3, R4, TY, reduceIte, Nat.reduceEqDiff, Nat.reduceAdd, Nat.reduceMul, Nat.reduceLT, Nat.reduceLeDiff, reduceCtorEq, decide_true, decide_false, Int.reduceLE, Int.reduceLT, Int.reduceToNat, Int.reduceAdd, Int.reduceSub, Int.reduceMul, Int.reduceEq, q6, q7, q8, q9, q10, q11, q72, q73, q74, q79, v1, v2', v3, v4, v5, v6, v7, v8, v9, hlk, hEb, hlen, hk63, hf2, UN]
        refine range_on q79 (by omega) rfl ⟨hEx.put (by omega) _, hEn, by rw [Hp.put_blk, if_neg (by omega)]; exact hE2, ?_, q6, q7, q8, q9, q10, q11, q72, q73, q74, rfl⟩
        rw [Hp.put_blk, if_pos rfl]
        have f1 : w / 2 ^ (56 - 8 * k) = w / 256 ^ (7 - k) := by rw [show 56 - 8 * k = 8 * (7 - k) by omega, Nat.pow_mul]
        have f2 : Value.int .u8 ((w / 256 ^ (7 - k) % 256 : Nat) : Int) = .int .u8 (((UInt8.ofNat (w / 256 ^ (7 - k) % 256)).toNat : Nat) : Int) := by rw [ofNat_toNat8 (Nat.mod_lt _ (by omega))]
        refine congrArg (fun c => some (Blk.row c 0 1)) ?_
        rw [f1]
        show (bl _).set _ (Value.int .u8 _) = _
        rw [f2, bl_set, List.set_append_right _ _ (by rw [List.length_replicate]; omega), List.length_replicate, Nat.add_sub_cancel_left, show 8 - k = (8 - (k + 1)) + 1 by omega, List.replicate_succ, List.cons_append, set_snoc (fs_length w k), fs_succ]
      · obtain rfl : k = 8 := by omega
        have hb' : E.blk (A.next + 2) = some (.row (bl (List.replicate (8 * (N - 1 - i)) 0 ++ (fs w 8 ++ low))) 0 1) := by simpa using hEb
        simp only [↓R1, R2, R3, R4, TY, reduceIte, Nat.reduceEqDiff, Nat.reduceAdd, Nat.reduceMul, Nat.reduceLT, Nat.reduceLeDiff, reduceCtorEq, decide_true, decide_false, Int.reduceLE, Int.reduceLT, Int.reduceToNat, Int.reduceAdd, Int.reduceSub, Int.reduceMul, Int.reduceEq, q6, q7, q8, q9, q10, q11, q72, q73, q74, q79, wi]
        refine range_on q74' hlt rfl ⟨fs w 8 ++ low, by rw [List.length_append, fs_length, hll]; omega, ?_, hEx, hEn, hE2, ?_, q6, q7, q8, q9, q72, q73, rfl⟩
        · rw [nv_append, nv_fs hw64 8 (by omega), hll, hlv, hnew]; simp
        · rw [hb', show 8 * (N - (i + 1)) = 8 * (N - 1 - i) by omega]
    · obtain rfl : i = N := by omega
      rw [Nat.sub_self, Nat.mul_zero, List.replicate_zero, List.nil_append] at hDb
      rw [Nat.mod_eq_of_lt hgN] at hlv
      have hmin : (if v2 Y0 < v2 X0 then ((v2 Y0 : Nat) : Int) else ((v2 X0 : Nat) : Int)) = ((min (v2 X0) (v2 Y0) : Nat) : Int) := by
        split <;> omega
      have hP : min (v2 X0) (v2 Y0) < 8 * 40000000000 := by have := v2_lt h0 xlt; omega
      generalize min (v2 X0) (v2 Y0) = P at *
      have d1 : ((P : Nat) : Int).tdiv 8 = ((P / 8 : Nat) : Int) := by rw [show (8 : Int) = ((8 : Nat) : Int) from rfl, div_n]
      have d2 : ((P : Nat) : Int).tmod 8 = ((P % 8 : Nat) : Int) := by rw [show (8 : Int) = ((8 : Nat) : Int) from rfl, mod_n]
      have x1 : IntKind.i64.wrap ((P / 8 : Nat) : Int) = ((P / 8 : Nat) : Int) := wrapI (by omega)
      have x2 : IntKind.i64.wrap (((P / 8 : Nat) : Int) + 1) = ((P / 8 + 1 : Nat) : Int) := by rw [wrapI (by omega)]; omega
      have x3 : IntKind.i64.wrap ((P % 8 : Nat) : Int) = ((P % 8 : Nat) : Int) := wrapI (by omega)
      have x4 : ((1 : Nat) : Int) * ((P / 8 + 1 : Nat) : Int) ≤ 281474976710656 := by omega
      have x4' : ((P / 8 + 1 : Nat) : Int) ≤ 281474976710656 := by omega
      have x5 : ((P / 8 + 1 : Nat) : Int) ≤ 9223372036854775807 := by omega
      have x6 : min (P % 8) 8 = P % 8 := by omega
      have x9 : ((1 * (P / 8 + 1) : Nat) : Int) ≤ 281474976710656 := by omega
      have x7 : (0 : Int) < ((P / 8 + 1 : Nat) : Int) := by omega
      have x8 : 0 < P / 8 + 1 := by omega
      have hz8 : zl [Value.int .u8 0] (P / 8 + 1) = bl (List.replicate (P / 8 + 1) 0) := by rw [zl_one, bl_zeros]
      have hfd : fl ≤ D.next := by omega
      have x10 : 1 ≤ (bl (List.replicate (P / 8 + 1) 0)).length := by rw [bl_length, List.length_replicate]; omega
      simp only [↓R1, R2, R3, R4, TY, reduceIte, Nat.reduceEqDiff, Nat.reduceAdd, Nat.reduceMul, Nat.reduceLT, Nat.reduceLeDiff, reduceCtorEq, decide_true, decide_false, Int.reduceLE, Int.reduceLT, Int.reduceToNat, Int.reduceAdd, Int.reduceSub, Int.reduceMul, Int.reduceEq, hz8, x10, q6, q7, q8, q9, hmin, d1, d2, x1, x2, x3, x4, x4', x5, x6, x7, x8, x9, hfd, UN]
      have hpl : (bl (List.replicate (P / 8 + 1) 0)).set 0 (Value.int .u8 (IntKind.u8.wrap (1 * 2 ^ (P % 8)))) = bl (UInt8.ofNat (2 ^ (P % 8)) :: List.replicate (P / 8) 0) := by
        have f0 : 2 ^ (P % 8) < 256 := Nat.lt_of_le_of_lt (Nat.pow_le_pow_right (by omega) (show P % 8 ≤ 7 by omega)) (by decide)
        have f1 : IntKind.u8.wrap (1 * 2 ^ (P % 8)) = (((UInt8.ofNat (2 ^ (P % 8))).toNat : Nat) : Int) := by
          rw [ofNat_toNat8 f0, Int.one_mul, show (2 : Int) ^ (P % 8) = ((2 ^ (P % 8) : Nat) : Int) by simp, u8_n, Nat.mod_eq_of_lt f0]
        rw [f1, bl_set]; rfl
      rw [hpl]
      have hpv : nv (UInt8.ofNat (2 ^ (P % 8)) :: List.replicate (P / 8) 0) = 2 ^ P := by
        have f0 : 2 ^ (P % 8) < 256 := Nat.lt_of_le_of_lt (Nat.pow_le_pow_right (by omega) (show P % 8 ≤ 7 by omega)) (by decide)
        have f1 := nv_zeros (P / 8) []
        rw [List.append_nil, nv_nil] at f1
        rw [nv_cons, ofNat_toNat8 f0, f1, List.length_replicate, Nat.add_zero, show (256 : Nat) ^ (P / 8) = 2 ^ (8 * (P / 8)) by rw [Nat.pow_mul], ← Nat.pow_add]
        congr 1; omega
      have hpln : (UInt8.ofNat (2 ^ (P % 8)) :: List.replicate (P / 8) 0).length = P / 8 + 1 := by simp
      have hplen := nb_len_nv (UInt8.ofNat (2 ^ (P % 8)) :: List.replicate (P / 8) 0)
      rw [hpln, hpv] at hplen
      generalize UInt8.ofNat (2 ^ (P % 8)) :: List.replicate (P / 8) 0 = pw at *
      generalize hF : Hp.put (Hp.push D _) D.next _ = F
      have hFx : Xt A.next A F := by rw [← hF]; exact (hDx.push _).put (by omega) _
      have hF1 : F.blk (A.next + 2) = some (.row (bl low) 0 1) := by rw [← hF, Hp.put_blk, if_neg (by omega), Hp.push_blk, if_neg (by omega)]; exact hDb
      have hF2 : F.blk D.next = some (.row (bl pw) 0 1) := by rw [← hF, Hp.put_blk, if_pos rfl]
      refine cnv_of low ty5 rfl rfl (by simp) hll (fun j u hj => ?_) ?_
      · simp only [Hp.get, aadd, hF1, Nat.zero_add, if_true]
        simp [bl, hj]
      simp only [↓R1, R2, R3, R4, TY, reduceIte, Nat.reduceEqDiff, Nat.reduceAdd, Nat.reduceMul, Nat.reduceLT, Nat.reduceLeDiff, reduceCtorEq, decide_true, decide_false, Int.reduceLE, Int.reduceLT, Int.reduceToNat, Int.reduceAdd, Int.reduceSub, Int.reduceMul, Int.reduceEq]
      refine cnv_of pw ty5 rfl rfl (by simp) hpln (fun j u hj => ?_) ?_
      · simp only [Hp.get, aadd, hF2, Nat.zero_add, if_true]
        simp [bl, hj]
      simp only [↓R1, R2, R3, R4, TY, reduceIte, Nat.reduceEqDiff, Nat.reduceAdd, Nat.reduceMul, Nat.reduceLT, Nat.reduceLeDiff, reduceCtorEq, decide_true, decide_false, Int.reduceLE, Int.reduceLT, Int.reduceToNat, Int.reduceAdd, Int.reduceSub, Int.reduceMul, Int.reduceEq]
      refine call_of (mul_ok (by rw [hlv]; exact hgl) (by rw [hpv]; omega)) ?_
      simp only [↓R1, R2, R3, R4, TY, reduceIte, Nat.reduceEqDiff, Nat.reduceAdd, Nat.reduceMul, Nat.reduceLT, Nat.reduceLeDiff, reduceCtorEq, decide_true, decide_false, Int.reduceLE, Int.reduceLT, Int.reduceToNat, Int.reduceAdd, Int.reduceSub, Int.reduceMul, Int.reduceEq]
      refine Ended.back hA hFx ?_ (RB.string _)
      rw [hlv, hpv, hgg]
  · have e1' := e1.trans (eq_false (show ¬ nq X = 1 by rw [hX0, nq_zero]; omega))
    rw [hYg] at hb2 q6 s2 k2
    simp only [↓R1, R2, R3, R4, TY, reduceIte, Nat.reduceEqDiff, Nat.reduceAdd, Nat.reduceMul, Nat.reduceLT, Nat.reduceLeDiff, reduceCtorEq, decide_true, decide_false, Int.reduceLE, Int.reduceLT, Int.reduceToNat, Int.reduceAdd, Int.reduceSub, Int.reduceMul, Int.reduceEq, q5, q6, q7, q8, e1']
    have hb2 := hb2
    have hCx := hx
    have hCn := hBn
    have hCb := hb2
    clear hx hBn hb1 hb2
    have hgN := lt_nq g
    clear e1 e2 e1'
    obtain ⟨N, hN⟩ : ∃ N, nq g = N := ⟨_, rfl⟩
    rw [hN] at hCb q6 s2 k2 hgN ⊢
    obtain ⟨C, hBC⟩ : ∃ C, B = C := ⟨_, rfl⟩
    rw [hBC] at hCx hCn hCb ⊢
    have w1 : IntKind.i64.wrap (8 * ((N : Nat) : Int)) = ((8 * N : Nat) : Int) := by rw [wrapI (by omega)]; omega
    have w4 : ((1 : Nat) : Int) * ((8 * N : Nat) : Int) ≤ 281474976710656 := by omega
    have w4' : ((8 * N : Nat) : Int) ≤ 281474976710656 := by omega
    have w5 : ((8 * N : Nat) : Int) ≤ 9223372036854775807 := by omega
    simp only [↓R1, R2, R3, R4, TY, reduceIte, Nat.reduceEqDiff, Nat.reduceAdd, Nat.reduceMul, Nat.reduceLT, Nat.reduceLeDiff, reduceCtorEq, decide_true, decide_false, Int.reduceLE, Int.reduceLT, Int.reduceToNat, Int.reduceAdd, Int.reduceSub, Int.reduceMul, Int.reduceEq, q6, q7, q8, w1, w4, w4', w5]
    refine range_of 74 N (fun i τ D => ∃ low : List UInt8, low.length = 8 * i ∧ nv low = g % 18446744073709551616 ^ i ∧ Xt A.next A D ∧ D.next = A.next + 3 ∧ D.blk i2 = some (.row (qc (l2 ++ (ql g N ++ r2))) 0 1) ∧ D.blk (A.next + 2) = some (.row (bl (List.replicate (8 * (N - i)) 0 ++ low)) 0 1) ∧
      τ 6 = some (.slice (some ⟨i2, l2.length, some 0⟩) N c2) ∧ τ 7 = some (.int .i64 (v2 X0 : Nat)) ∧ τ 8 = some (.int .i64 (v2 Y0 : Nat)) ∧ τ 9 = some (.slice (some ⟨A.next + 2, 0, some 0⟩) (8 * N) (8 * N)) ∧ τ 72 = some (.slice (some ⟨i2, l2.length, some 0⟩) N c2) ∧ τ 73 = some (.int .i64 N) ∧ τ 74 = some (.int .i64 i)) ?_ ?_
    · refine ⟨[], rfl, by simp [nv_nil, Nat.mod_one], hCx.push _, by rw [Hp.push_next, hCn], by rw [Hp.push_blk, if_neg (by omega)]; exact hCb, ?_, q6, q7, q8, by simp [upd, hCn], rfl, rfl, rfl⟩
      rw [Hp.push_blk, if_pos hCn.symm, zl_one, bl_zeros]; simp
    rintro i τ D hi ⟨low, hll, hlv, hDx, hDn, hD2, hDb, q6, q7, q8, q9, q72, q73, q74⟩
    simp only [↓R1, R2, R3, R4, TY, reduceIte, Nat.reduceEqDiff, Nat.reduceAdd, Nat.reduceMul, Nat.reduceLT, Nat.reduceLeDiff, reduceCtorEq, decide_true, decide_false, Int.reduceLE, Int.reduceLT, Int.reduceToNat, Int.reduceAdd, Int.reduceSub, Int.reduceMul, Int.reduceEq, q6, q7, q8, q9, q72, q73, q74]
    refine ⟨fun hlt => ?_, fun hlt => ?_⟩
    · have hgw : D.get G ⟨i2, l2.length + i, some 0⟩ = some (.int .u64 ((g / 18446744073709551616 ^ i % 18446744073709551616 : Nat) : Int)) := by
        simp only [Hp.get, hD2, if_true]; exact mid_get hlt
      have hw64 : g / 18446744073709551616 ^ i % 18446744073709551616 < 18446744073709551616 := Nat.mod_lt _ (by omega)
      have hnew : g % 18446744073709551616 ^ (i + 1) = (g / 18446744073709551616 ^ i % 18446744073709551616) * 256 ^ (8 * i) + g % 18446744073709551616 ^ i := by
        rw [Nat.pow_succ, Nat.mod_mul, pow256_8, Nat.mul_comm (18446744073709551616 ^ i)]; omega
      generalize g / 18446744073709551616 ^ i % 18446744073709551616 = w at *
      have hi63 : i < 9223372036854775807 := by omega
      have q74' := q74
      have wi : IntKind.i64.wrap ((i : Int) + 1) = ((i + 1 : Nat) : Int) := by rw [wrapI (by omega)]; omega
      simp only [↓R1, R2, R3, R4, TY, reduceIte, Nat.reduceEqDiff, Nat.reduceAdd, Nat.reduceMul, Nat.reduceLT, Nat.reduceLeDiff, reduceCtorEq, decide_true, decide_false, Int.reduceLE, Int.reduceLT, Int.reduceToNat, Int.reduceAdd, Int.reduceSub, Int.reduceMul, Int.reduceEq, q6, q7, q8, q9, q72, q73, q74, hlt, hgw, hi63]
      refine range_of 79 8 (fun k τ E => Xt A.next A E ∧ E.next = A.next + 3 ∧ E.blk i2 = some (.row (qc (l2 ++ (ql g N ++ r2))) 0 1) ∧ E.blk (A.next + 2) = some (.row (bl (List.replicate (8 * (N - 1 - i)) 0 ++ (fs w k ++ (List.replicate (8 - k) 0 ++ low)))) 0 1) ∧
        τ 6 = some (.slice (some ⟨i2, l2.length, some 0⟩) N c2) ∧ τ 7 = some (.int .i64 (v2 X0 : Nat)) ∧ τ 8 = some (.int .i64 (v2 Y0 : Nat)) ∧ τ 9 = some (.slice (some ⟨A.next + 2, 0, some 0⟩) (8 * N) (8 * N)) ∧ τ 10 = some (.int .i64 i) ∧ τ 11 = some (.int .u64 (w : Nat)) ∧ τ 72 = some (.slice (some ⟨i2, l2.length, some 0⟩) N c2) ∧ τ 73 = some (.int .i64 N) ∧ τ 74 = some (.int .i64 i) ∧ τ 79 = some (.int .i64 k)) ?_ ?_
      · refine ⟨hDx, hDn, hD2, ?_, q6, q7, q8, q9, rfl, rfl, q72, q73, q74, rfl⟩
        rw [hDb, show 8 * (N - i) = 8 * (N - 1 - i) + 8 by omega, ← List.replicate_append_replicate, List.append_assoc]; rfl
      rintro k τ E hk ⟨hEx, hEn, hE2, hEb, q6, q7, q8, q9, q10, q11, q72, q73, q74, q79⟩
      simp only [↓R1, R2, R3, R4, TY, reduceIte, Nat.reduceEqDiff, Nat.reduceAdd, Nat.reduceMul, Nat.reduceLT, Nat.reduceLeDiff, reduceCtorEq, decide_true, decide_false, Int.reduceLE, Int.reduceLT, Int.reduceToNat, Int.reduceAdd, Int.reduceSub, Int.reduceMul, Int.reduceEq, q6, q7, q8, q9, q10, q11, q72, q73, q74, q79]
      refine ⟨fun hlk => ?_, fun hlk => ?_⟩
      · have v1 : IntKind.i64.wrap ((N : Int) - 1) = ((N - 1 : Nat) : Int) := by rw [wrapI (by omega)]; omega
        have v2' : IntKind.i64.wrap (((N - 1 : Nat) : Int) - (i : Int)) = ((N - 1 - i : Nat) : Int) := by rw [wrapI (by omega)]; omega
        have v3 : IntKind.i64.wrap (8 * ((N - 1 - i : Nat) : Int)) = ((8 * (N - 1 - i) : Nat) : Int) := by rw [wrapI (by omega)]; omega
        have v4 : IntKind.i64.wrap ((8 * (N - 1 - i) + k : Nat) : Int) = ((8 * (N - 1 - i) + k : Nat) : Int) := wrapI (by omega)
        have v5 : IntKind.i64.wrap (8 * (k : Int)) = ((8 * k : Nat) : Int) := by rw [wrapI (by omega)]; omega
        have v6 : IntKind.i64.wrap (56 - ((8 * k : Nat) : Int)) = ((56 - 8 * k : Nat) : Int) := by rw [wrapI (by omega)]; omega
        have v7 : min (56 - 8 * k) 64 = 56 - 8 * k := by omega
        have v8 : 8 * (N - 1 - i) + k < 8 * N := by omega
        have hk63 : k < 9223372036854775807 := by omega
        have hlen : (bl (List.replicate (8 * (N - 1 - i)) 0 ++ (fs w k ++ (List.replicate (8 - k) 0 ++ low)))).length = 8 * N := by
          rw [bl_length, List.length_append, List.length_append, List.length_append, fs_length, List.length_replicate, List.length_replicate, hll]; omega
        have v9 : 8 * (N - 1 - i) + k + 1 ≤ 8 * N := by omega
        have hf2 : fl ≤ A.next + 2 := by omega
        simp only [↓R1, R2, R3, R4, TY, reduceIte, Nat.reduceEqDiff, Nat.reduceAdd, Nat.reduceMul, Nat.reduceLT, Nat.reduceLeDiff, reduceCtorEq, decide_true, decide_false, Int.reduceLE, Int.reduceLT, Int.reduceToNat, Int.reduceAdd, Int.reduceSub, Int.reduceMul, Int.reduceEq, q6, q7, q8, q9, q10, q11, q72, q73, q74, q79, v1, v2', v3, v4, v5, v6, v7, v8, v9, hlk, hEb, hlen, hk63, hf2, UN]
        refine range_on q79 (by omega) rfl ⟨hEx.put (by omega) _, hEn, by rw [Hp.put_blk, if_neg (by omega)]; exact hE2, ?_, q6, q7, q8, q9, q10, q11, q72, q73, q74, rfl⟩
        rw [Hp.put_blk, if_pos rfl]
        have f1 : w / 2 ^ (56 - 8 * k) = w / 256 ^ (7 - k) := by rw [show 56 - 8 * k = 8 * (7 - k) by omega, Nat.pow_mul]
        have f2 : Value.int .u8 ((w / 256 ^ (7 - k) % 256 : Nat) : Int) = .int .u8 (((UInt8.ofNat (w / 256 ^ (7 - k) % 256)).toNat : Nat) : Int) := by rw [ofNat_toNat8 (Nat.mod_lt _ (by omega))]
        refine congrArg (fun c => some (Blk.row c 0 1)) ?_
        rw [f1]
        show (bl _).set _ (Value.int .u8 _) = _
        rw [f2, bl_set, List.set_append_right _ _ (by rw [List.length_replicate]; omega), List.length_replicate, Nat.add_sub_cancel_left, show 8 - k = (8 - (k + 1)) + 1 by omega, List.replicate_succ, List.cons_append, set_snoc (fs_length w k), fs_succ]
      · obtain rfl : k = 8 := by omega
        have hb' : E.blk (A.next + 2) = some (.row (bl (List.replicate (8 * (N - 1 - i)) 0 ++ (fs w 8 ++ low))) 0 1) := by simpa using hEb
        simp only [↓R1, R2, R3, R4, TY, reduceIte, Nat.reduceEqDiff, Nat.reduceAdd, Nat.reduceMul, Nat.reduceLT, Nat.reduceLeDiff, reduceCtorEq, decide_true, decide_false, Int.reduceLE, Int.reduceLT, Int.reduceToNat, Int.reduceAdd, Int.reduceSub, Int.reduceMul, Int.reduceEq, q6, q7, q8, q9, q10, q11, q72, q73, q74, q79, wi]
        refine range_on q74' hlt rfl ⟨fs w 8 ++ low, by rw [List.length_append, fs_length, hll]; omega, ?_, hEx, hEn, hE2, ?_, q6, q7, q8, q9, q72, q73, rfl⟩
        · rw [nv_append, nv_fs hw64 8 (by omega), hll, hlv, hnew]; simp
        · rw [hb', show 8 * (N - (i + 1)) = 8 * (N - 1 - i) by omega]
    · obtain rfl : i = N := by omega
      rw [Nat.sub_self, Nat.mul_zero, List.replicate_zero, List.nil_append] at hDb
      rw [Nat.mod_eq_of_lt hgN] at hlv
      have hmin : (if v2 Y0 < v2 X0 then ((v2 Y0 : Nat) : Int) else ((v2 X0 : Nat) : Int)) = ((min (v2 X0) (v2 Y0) : Nat) : Int) := by
        split <;> omega
      have hP : min (v2 X0) (v2 Y0) < 8 * 40000000000 := by have := v2_lt h0 xlt; omega
      generalize min (v2 X0) (v2 Y0) = P at *
      have d1 : ((P : Nat) : Int).tdiv 8 = ((P / 8 : Nat) : Int) := by rw [show (8 : Int) = ((8 : Nat) : Int) from rfl, div_n]
      have d2 : ((P : Nat) : Int).tmod 8 = ((P % 8 : Nat) : Int) := by rw [show (8 : Int) = ((8 : Nat) : Int) from rfl, mod_n]
      have x1 : IntKind.i64.wrap ((P / 8 : Nat) : Int) = ((P / 8 : Nat) : Int) := wrapI (by omega)
      have x2 : IntKind.i64.wrap (((P / 8 : Nat) : Int) + 1) = ((P / 8 + 1 : Nat) : Int) := by rw [wrapI (by omega)]; omega
      have x3 : IntKind.i64.wrap ((P % 8 : Nat) : Int) = ((P % 8 : Nat) : Int) := wrapI (by omega)
      have x4 : ((1 : Nat) : Int) * ((P / 8 + 1 : Nat) : Int) ≤ 281474976710656 := by omega
      have x4' : ((P / 8 + 1 : Nat) : Int) ≤ 281474976710656 := by omega
      have x5 : ((P / 8 + 1 : Nat) : Int) ≤ 9223372036854775807 := by omega
      have x6 : min (P % 8) 8 = P % 8 := by omega
      have x9 : ((1 * (P / 8 + 1) : Nat) : Int) ≤ 281474976710656 := by omega
      have x7 : (0 : Int) < ((P / 8 + 1 : Nat) : Int) := by omega
      have x8 : 0 < P / 8 + 1 := by omega
      have hz8 : zl [Value.int .u8 0] (P / 8 + 1) = bl (List.replicate (P / 8 + 1) 0) := by rw [zl_one, bl_zeros]
      have hfd : fl ≤ D.next := by omega
      have x10 : 1 ≤ (bl (List.replicate (P / 8 + 1) 0)).length := by rw [bl_length, List.length_replicate]; omega
      simp only [↓R1, R2, R3, R4, TY, reduceIte, Nat.reduceEqDiff, Nat.reduceAdd, Nat.reduceMul, Nat.reduceLT, Nat.reduceLeDiff, reduceCtorEq, decide_true, decide_false, Int.reduceLE, Int.reduceLT, Int.reduceToNat, Int.reduceAdd, Int.reduceSub, Int.reduceMul, Int.reduceEq, hz8, x10, q6, q7, q8, q9, hmin, d1, d2, x1, x2, x3, x4, x4', x5, x6, x7, x8, x9, hfd, UN]
      have hpl : (bl (List.replicate (P / 8 + 1) 0)).set 0 (Value.int .u8 (IntKind.u8.wrap (1 * 2 ^ (P % 8)))) = bl (UInt8.ofNat (2 ^ (P % 8)) :: List.replicate (P / 8) 0) := by
        have f0 : 2 ^ (P % 8) < 256 := Nat.lt_of_le_of_lt (Nat.pow_le_pow_right (by omega) (show P % 8 ≤ 7 by omega)) (by decide)
        have f1 : IntKind.u8.wrap (1 * 2 ^ (P % 8)) = (((UInt8.ofNat (2 ^ (P % 8))).toNat : Nat) : Int) := by
          rw [ofNat_toNat8 f0, Int.one_mul, show (2 : Int) ^ (P % 8) = ((2 ^ (P % 8) : Nat) : Int) by simp, u8_n, Nat.mod_eq_of_lt f0]
        rw [f1, bl_set]; rfl
      rw [hpl]
      have hpv : nv (UInt8.ofNat (2 ^ (P % 8)) :: List.replicate (P / 8) 0) = 2 ^ P := by
        have f0 : 2 ^ (P % 8) < 256 := Nat.lt_of_le_of_lt (Nat.pow_le_pow_right (by omega) (show P % 8 ≤ 7 by omega)) (by decide)
        have f1 := nv_zeros (P / 8) []
        rw [List.append_nil, nv_nil] at f1
        rw [nv_cons, ofNat_toNat8 f0, f1, List.length_replicate, Nat.add_zero, show (256 : Nat) ^ (P / 8) = 2 ^ (8 * (P / 8)) by rw [Nat.pow_mul], ← Nat.pow_add]
        congr 1; omega
      have hpln : (UInt8.ofNat (2 ^ (P % 8)) :: List.replicate (P / 8) 0).length = P / 8 + 1 := by simp
      have hplen := nb_len_nv (UInt8.ofNat (2 ^ (P % 8)) :: List.replicate (P / 8) 0)
      rw [hpln, hpv] at hplen
      generalize UInt8.ofNat (2 ^ (P % 8)) :: List.replicate (P / 8) 0 = pw at *
      generalize hF : Hp.put (Hp.push D _) D.next _ = F
      have hFx : Xt A.next A F := by rw [← hF]; exact (hDx.push _).put (by omega) _
      have hF1 : F.blk (A.next + 2) = some (.row (bl low) 0 1) := by rw [← hF, Hp.put_blk, if_neg (by omega), Hp.push_blk, if_neg (by omega)]; exact hDb
      have hF2 : F.blk D.next = some (.row (bl pw) 0 1) := by rw [← hF, Hp.put_blk, if_pos rfl]
      refine cnv_of low ty5 rfl rfl (by simp) hll (fun j u hj => ?_) ?_
      · simp only [Hp.get, aadd, hF1, Nat.zero_add, if_true]
        simp [bl, hj]
      simp only [↓R1, R2, R3, R4, TY, reduceIte, Nat.reduceEqDiff, Nat.reduceAdd, Nat.reduceMul, Nat.reduceLT, Nat.reduceLeDiff, reduceCtorEq, decide_true, decide_false, Int.reduceLE, Int.reduceLT, Int.reduceToNat, Int.reduceAdd, Int.reduceSub, Int.reduceMul, Int.reduceEq]
      refine cnv_of pw ty5 rfl rfl (by simp) hpln (fun j u hj => ?_) ?_
      · simp only [Hp.get, aadd, hF2, Nat.zero_add, if_true]
        simp [bl, hj]
      simp only [↓R1, R2, R3, R4, TY, reduceIte, Nat.reduceEqDiff, Nat.reduceAdd, Nat.reduceMul, Nat.reduceLT, Nat.reduceLeDiff, reduceCtorEq, decide_true, decide_false, Int.reduceLE, Int.reduceLT, Int.reduceToNat, Int.reduceAdd, Int.reduceSub, Int.reduceMul, Int.reduceEq]
      refine call_of (mul_ok (by rw [hlv]; exact hgl) (by rw [hpv]; omega)) ?_
      simp only [↓R1, R2, R3, R4, TY, reduceIte, Nat.reduceEqDiff, Nat.reduceAdd, Nat.reduceMul, Nat.reduceLT, Nat.reduceLeDiff, reduceCtorEq, decide_true, decide_false, Int.reduceLE, Int.reduceLT, Int.reduceToNat, Int.reduceAdd, Int.reduceSub, Int.reduceMul, Int.reduceEq]
      refine Ended.back hA hFx ?_ (RB.string _)
      rw [hlv, hpv, hgg]
end
end Go.Proofs.YtjkimjmocfjjnaaDoor.Ab

/- The greatest common divisor of numbers of any length. -/
namespace Go.Proofs.YtjkimjmocfjjnaaDoor.Ab
open Go.RowKit
set_option linter.unusedVariables false
set_option linter.unusedSimpArgs false
set_option maxRecDepth 100000

section
variable {G : Gl} {fl : Nat} {A : Hp}

set_option maxHeartbeats 2000000 in
theorem gcdG {m n : Nat} (hG : G 1 = some tabV) (hm : (nb m).length ≤ 40000000000) (hn : (nb n).length ≤ 40000000000) : Sound Tryd.prog G 95 [.string (S (nb m)), .string (S (nb n))] fl A (.string (S (nb (Nat.gcd m n)))) A := by
  refine Sound.of mixed Tryd.func95 Tryd.ntmps95 Tryd.results95 (by kernel_rfl) rfl (by kernel_rfl) (by kernel_rfl) fun hA => ?_
  simp only [↓R1, R2, R3, R4, TY, reduceIte, Nat.reduceEqDiff, Nat.reduceAdd, Nat.reduceMul, Nat.reduceLT, Nat.reduceLeDiff, reduceCtorEq, decide_true, decide_false, Int.reduceLE, Int.reduceLT, Int.reduceToNat, Int.reduceAdd, Int.reduceSub, Int.reduceMul, Int.reduceEq]
  refine call_of (trim_ok _) ?_
  simp only [↓R1, R2, R3, R4, TY, reduceIte, Nat.reduceEqDiff, Nat.reduceAdd, Nat.reduceMul, Nat.reduceLT, Nat.reduceLeDiff, reduceCtorEq, decide_true, decide_false, Int.reduceLE, Int.reduceLT, Int.reduceToNat, Int.reduceAdd, Int.reduceSub, Int.reduceMul, Int.reduceEq, nv_nb]
  refine call_of (trim_ok _) ?_
  simp only [↓R1, R2, R3, R4, TY, reduceIte, Nat.reduceEqDiff, Nat.reduceAdd, Nat.reduceMul, Nat.reduceLT, Nat.reduceLeDiff, reduceCtorEq, decide_true, decide_false, Int.reduceLE, Int.reduceLT, Int.reduceToNat, Int.reduceAdd, Int.reduceSub, Int.reduceMul, Int.reduceEq, nv_nb]
  refine loop_rank (fun r τ B => B = A ∧ ∃ x y : Nat, x + y = r ∧ Nat.gcd x y = Nat.gcd m n ∧ (nb x).length ≤ 40000000000 ∧ (nb y).length ≤ 40000000000 ∧ τ 0 = some (.string (S (nb x))) ∧ τ 1 = some (.string (S (nb y)))) (m + n) ⟨rfl, m, n, rfl, rfl, hm, hn, rfl, rfl⟩ ?_
  rintro r τ B ⟨rfl, x, y, rfl, hg, lx, ly, q0, q1⟩ K' hN hE
  have hcat : (nb x).length + (nb y).length ≤ 9223372036854775807 := by omega
  by_cases hx0 : x = 0
  · have e0 : (x = 0) = True := eq_true hx0
    simp only [↓R1, R2, R3, R4, TY, reduceIte, Nat.reduceEqDiff, Nat.reduceAdd, Nat.reduceMul, Nat.reduceLT, Nat.reduceLeDiff, reduceCtorEq, decide_true, decide_false, Int.reduceLE, Int.reduceLT, Int.reduceToNat, Int.reduceAdd, Int.reduceSub, Int.reduceMul, Int.reduceEq, q0, q1, S_inj, nb_nil_eq, e0, ne_eq, not_true_eq_false]
    refine hE _ _ _ (by simp) ?_
    simp only [↓R1, R2, R3, R4, TY, reduceIte, Nat.reduceEqDiff, Nat.reduceAdd, Nat.reduceMul, Nat.reduceLT, Nat.reduceLeDiff, reduceCtorEq, decide_true, decide_false, Int.reduceLE, Int.reduceLT, Int.reduceToNat, Int.reduceAdd, Int.reduceSub, Int.reduceMul, Int.reduceEq, q0, q1, hcat, S_append, S_size]
    refine Ended.back hA (Xt.refl _) ?_ (RB.string _)
    rw [← hg, hx0, nb_zero, Nat.gcd_zero_left]; rfl
  by_cases hy0 : y = 0
  · have e0 : (x = 0) = False := eq_false hx0
    have e1 : (y = 0) = True := eq_true hy0
    simp only [↓R1, R2, R3, R4, TY, reduceIte, Nat.reduceEqDiff, Nat.reduceAdd, Nat.reduceMul, Nat.reduceLT, Nat.reduceLeDiff, reduceCtorEq, decide_true, decide_false, Int.reduceLE, Int.reduceLT, Int.reduceToNat, Int.reduceAdd, Int.reduceSub, Int.reduceMul, Int.reduceEq, q0, q1, S_inj, nb_nil_eq, e0, e1, ne_eq, not_true_eq_false, not_false_eq_true]
    refine hE _ _ _ (by simp) ?_
    simp only [↓R1, R2, R3, R4, TY, reduceIte, Nat.reduceEqDiff, Nat.reduceAdd, Nat.reduceMul, Nat.reduceLT, Nat.reduceLeDiff, reduceCtorEq, decide_true, decide_false, Int.reduceLE, Int.reduceLT, Int.reduceToNat, Int.reduceAdd, Int.reduceSub, Int.reduceMul, Int.reduceEq, q0, q1, hcat, S_append, S_size]
    refine Ended.back hA (Xt.refl _) ?_ (RB.string _)
    rw [← hg, hy0, nb_zero, Nat.gcd_zero_right, List.append_nil]
  have e0 : (x = 0) = False := eq_false hx0
  have e1 : (y = 0) = False := eq_false hy0
  by_cases hlt : (nb x).length < (nb y).length
  · have c0 : (y = 0) = False := eq_false hy0
    have gg : Nat.gcd y x = Nat.gcd m n := (by rw [Nat.gcd_comm]; exact hg)
    by_cases h8 : (nb y).length ≤ 8
    · simp only [↓R1, R2, R3, R4, TY, reduceIte, Nat.reduceEqDiff, Nat.reduceAdd, Nat.reduceMul, Nat.reduceLT, Nat.reduceLeDiff, reduceCtorEq, decide_true, decide_false, Int.reduceLE, Int.reduceLT, Int.reduceToNat, Int.reduceAdd, Int.reduceSub, Int.reduceMul, Int.reduceEq, q0, q1, S_inj, nb_nil_eq, S_size, len_lt_iff, len_le8, e0, e1, hlt, h8, ne_eq, not_false_eq_true]
      have u1 : y < 18446744073709551616 := nb8.1 h8
      have u2 : x < 18446744073709551616 := nb8.1 (by omega)
      refine call_of (shortN u1) ?_
      simp only [↓R1, R2, R3, R4, TY, reduceIte, Nat.reduceEqDiff, Nat.reduceAdd, Nat.reduceMul, Nat.reduceLT, Nat.reduceLeDiff, reduceCtorEq, decide_true, decide_false, Int.reduceLE, Int.reduceLT, Int.reduceToNat, Int.reduceAdd, Int.reduceSub, Int.reduceMul, Int.reduceEq, q0, q1]
      refine call_of (shortN u2) ?_
      simp only [↓R1, R2, R3, R4, TY, reduceIte, Nat.reduceEqDiff, Nat.reduceAdd, Nat.reduceMul, Nat.reduceLT, Nat.reduceLeDiff, reduceCtorEq, decide_true, decide_false, Int.reduceLE, Int.reduceLT, Int.reduceToNat, Int.reduceAdd, Int.reduceSub, Int.reduceMul, Int.reduceEq, q0, q1]
      refine call_of (common_ok u1 u2) ?_
      simp only [↓R1, R2, R3, R4, TY, reduceIte, Nat.reduceEqDiff, Nat.reduceAdd, Nat.reduceMul, Nat.reduceLT, Nat.reduceLeDiff, reduceCtorEq, decide_true, decide_false, Int.reduceLE, Int.reduceLT, Int.reduceToNat, Int.reduceAdd, Int.reduceSub, Int.reduceMul, Int.reduceEq, q0, q1]
      refine call_of (fromShort_ok (Nat.lt_of_le_of_lt (Nat.gcd_le_left _ (by omega)) u1)) ?_
      simp only [↓R1, R2, R3, R4, TY, reduceIte, Nat.reduceEqDiff, Nat.reduceAdd, Nat.reduceMul, Nat.reduceLT, Nat.reduceLeDiff, reduceCtorEq, decide_true, decide_false, Int.reduceLE, Int.reduceLT, Int.reduceToNat, Int.reduceAdd, Int.reduceSub, Int.reduceMul, Int.reduceEq, q0, q1]
      refine hE _ _ _ (by simp) ?_
      simp only [↓R1, R2, R3, R4, TY, reduceIte, Nat.reduceEqDiff, Nat.reduceAdd, Nat.reduceMul, Nat.reduceLT, Nat.reduceLeDiff, reduceCtorEq, decide_true, decide_false, Int.reduceLE, Int.reduceLT, Int.reduceToNat, Int.reduceAdd, Int.reduceSub, Int.reduceMul, Int.reduceEq, q0, q1]
      exact Ended.back hA (Xt.refl _) (by rw [gg]) (RB.string _)
    · have w1 : IntKind.i64.wrap (((nb x).length : Int) + 8) = (((nb x).length + 8 : Nat) : Int) := by rw [wrapI (by omega)]; omega
      have w2 : (((nb y).length : Int) ≤ (((nb x).length + 8 : Nat) : Int)) = ((nb y).length ≤ (nb x).length + 8) := propext (by omega)
      by_cases hh : (nb y).length ≤ (nb x).length + 8
      · simp only [↓R1, R2, R3, R4, TY, reduceIte, Nat.reduceEqDiff, Nat.reduceAdd, Nat.reduceMul, Nat.reduceLT, Nat.reduceLeDiff, reduceCtorEq, decide_true, decide_false, Int.reduceLE, Int.reduceLT, Int.reduceToNat, Int.reduceAdd, Int.reduceSub, Int.reduceMul, Int.reduceEq, q0, q1, S_inj, nb_nil_eq, S_size, len_lt_iff, len_le8, e0, e1, hlt, h8, w1, w2, hh, ne_eq, not_false_eq_true]
        have hv := halves_ok (G := G) (fl := fl) (A := B) (a := nb y) (b := nb x) hG ly lx (by rw [nv_nb]; exact hy0) (by rw [nv_nb]; exact hx0)
        rw [nv_nb, nv_nb] at hv
        refine call_of hv ?_
        simp only [↓R1, R2, R3, R4, TY, reduceIte, Nat.reduceEqDiff, Nat.reduceAdd, Nat.reduceMul, Nat.reduceLT, Nat.reduceLeDiff, reduceCtorEq, decide_true, decide_false, Int.reduceLE, Int.reduceLT, Int.reduceToNat, Int.reduceAdd, Int.reduceSub, Int.reduceMul, Int.reduceEq, q0, q1]
        refine hE _ _ _ (by simp) ?_
        simp only [↓R1, R2, R3, R4, TY, reduceIte, Nat.reduceEqDiff, Nat.reduceAdd, Nat.reduceMul, Nat.reduceLT, Nat.reduceLeDiff, reduceCtorEq, decide_true, decide_false, Int.reduceLE, Int.reduceLT, Int.reduceToNat, Int.reduceAdd, Int.reduceSub, Int.reduceMul, Int.reduceEq, q0, q1]
        exact Ended.back hA (Xt.refl _) (by rw [gg]) (RB.string _)
      · simp only [↓R1, R2, R3, R4, TY, reduceIte, Nat.reduceEqDiff, Nat.reduceAdd, Nat.reduceMul, Nat.reduceLT, Nat.reduceLeDiff, reduceCtorEq, decide_true, decide_false, Int.reduceLE, Int.reduceLT, Int.reduceToNat, Int.reduceAdd, Int.reduceSub, Int.reduceMul, Int.reduceEq, q0, q1, S_inj, nb_nil_eq, S_size, len_lt_iff, len_le8, e0, e1, hlt, h8, w1, w2, hh, ne_eq, not_false_eq_true]
        refine call_of (divG ly lx hx0) ?_
        simp only [↓R1, R2, R3, R4, TY, reduceIte, Nat.reduceEqDiff, Nat.reduceAdd, Nat.reduceMul, Nat.reduceLT, Nat.reduceLeDiff, reduceCtorEq, decide_true, decide_false, Int.reduceLE, Int.reduceLT, Int.reduceToNat, Int.reduceAdd, Int.reduceSub, Int.reduceMul, Int.reduceEq, q0, q1]
        have hr : y % x < x := Nat.mod_lt _ (by omega)
        have hlt2 : x < y := lt_of_nb_len (by omega)
        refine hN _ _ (x + y % x) (by omega) ⟨rfl, x, y % x, rfl, ?_, lx, nb_len_le' (Nat.mod_le _ _) ly, rfl, rfl⟩
        rw [← gg, Nat.gcd_comm y, Nat.gcd_rec x y, Nat.gcd_comm]
  · have c0 : (x = 0) = False := eq_false hx0
    have gg : Nat.gcd x y = Nat.gcd m n := hg
    by_cases h8 : (nb x).length ≤ 8
    · simp only [↓R1, R2, R3, R4, TY, reduceIte, Nat.reduceEqDiff, Nat.reduceAdd, Nat.reduceMul, Nat.reduceLT, Nat.reduceLeDiff, reduceCtorEq, decide_true, decide_false, Int.reduceLE, Int.reduceLT, Int.reduceToNat, Int.reduceAdd, Int.reduceSub, Int.reduceMul, Int.reduceEq, q0, q1, S_inj, nb_nil_eq, S_size, len_lt_iff, len_le8, e0, e1, hlt, h8, ne_eq, not_false_eq_true]
      have u1 : x < 18446744073709551616 := nb8.1 h8
      have u2 : y < 18446744073709551616 := nb8.1 (by omega)
      refine call_of (shortN u1) ?_
      simp only [↓R1, R2, R3, R4, TY, reduceIte, Nat.reduceEqDiff, Nat.reduceAdd, Nat.reduceMul, Nat.reduceLT, Nat.reduceLeDiff, reduceCtorEq, decide_true, decide_false, Int.reduceLE, Int.reduceLT, Int.reduceToNat, Int.reduceAdd, Int.reduceSub, Int.reduceMul, Int.reduceEq, q0, q1]
      refine call_of (shortN u2) ?_
      simp only [↓R1, R2, R3, R4, TY, reduceIte, Nat.reduceEqDiff, Nat.reduceAdd, Nat.reduceMul, Nat.reduceLT, Nat.reduceLeDiff, reduceCtorEq, decide_true, decide_false, Int.reduceLE, Int.reduceLT, Int.reduceToNat, Int.reduceAdd, Int.reduceSub, Int.reduceMul, Int.reduceEq, q0, q1]
      refine call_of (common_ok u1 u2) ?_
      simp only [↓R1, R2, R3, R4, TY, reduceIte, Nat.reduceEqDiff, Nat.reduceAdd, Nat.reduceMul, Nat.reduceLT, Nat.reduceLeDiff, reduceCtorEq, decide_true, decide_false, Int.reduceLE, Int.reduceLT, Int.reduceToNat, Int.reduceAdd, Int.reduceSub, Int.reduceMul, Int.reduceEq, q0, q1]
      refine call_of (fromShort_ok (Nat.lt_of_le_of_lt (Nat.gcd_le_left _ (by omega)) u1)) ?_
      simp only [↓R1, R2, R3, R4, TY, reduceIte, Nat.reduceEqDiff, Nat.reduceAdd, Nat.reduceMul, Nat.reduceLT, Nat.reduceLeDiff, reduceCtorEq, decide_true, decide_false, Int.reduceLE, Int.reduceLT, Int.reduceToNat, Int.reduceAdd, Int.reduceSub, Int.reduceMul, Int.reduceEq, q0, q1]
      refine hE _ _ _ (by simp) ?_
      simp only [↓R1, R2, R3, R4, TY, reduceIte, Nat.reduceEqDiff, Nat.reduceAdd, Nat.reduceMul, Nat.reduceLT, Nat.reduceLeDiff, reduceCtorEq, decide_true, decide_false, Int.reduceLE, Int.reduceLT, Int.reduceToNat, Int.reduceAdd, Int.reduceSub, Int.reduceMul, Int.reduceEq, q0, q1]
      exact Ended.back hA (Xt.refl _) (by rw [gg]) (RB.string _)
    · have w1 : IntKind.i64.wrap (((nb y).length : Int) + 8) = (((nb y).length + 8 : Nat) : Int) := by rw [wrapI (by omega)]; omega
      have w2 : (((nb x).length : Int) ≤ (((nb y).length + 8 : Nat) : Int)) = ((nb x).length ≤ (nb y).length + 8) := propext (by omega)
      by_cases hh : (nb x).length ≤ (nb y).length + 8
      · simp only [↓R1, R2, R3, R4, TY, reduceIte, Nat.reduceEqDiff, Nat.reduceAdd, Nat.reduceMul, Nat.reduceLT, Nat.reduceLeDiff, reduceCtorEq, decide_true, decide_false, Int.reduceLE, Int.reduceLT, Int.reduceToNat, Int.reduceAdd, Int.reduceSub, Int.reduceMul, Int.reduceEq, q0, q1, S_inj, nb_nil_eq, S_size, len_lt_iff, len_le8, e0, e1, hlt, h8, w1, w2, hh, ne_eq, not_false_eq_true]
        have hv := halves_ok (G := G) (fl := fl) (A := B) (a := nb x) (b := nb y) hG lx ly (by rw [nv_nb]; exact hx0) (by rw [nv_nb]; exact hy0)
        rw [nv_nb, nv_nb] at hv
        refine call_of hv ?_
        simp only [↓R1, R2, R3, R4, TY, reduceIte, Nat.reduceEqDiff, Nat.reduceAdd, Nat.reduceMul, Nat.reduceLT, Nat.reduceLeDiff, reduceCtorEq, decide_true, decide_false, Int.reduceLE, Int.reduceLT, Int.reduceToNat, Int.reduceAdd, Int.reduceSub, Int.reduceMul, Int.reduceEq, q0, q1]
        refine hE _ _ _ (by simp) ?_
        simp only [↓R1, R2, R3, R4, TY, reduceIte, Nat.reduceEqDiff, Nat.reduceAdd, Nat.reduceMul, Nat.reduceLT, Nat.reduceLeDiff, reduceCtorEq, decide_true, decide_false, Int.reduceLE, Int.reduceLT, Int.reduceToNat, Int.reduceAdd, Int.reduceSub, Int.reduceMul, Int.reduceEq, q0, q1]
        exact Ended.back hA (Xt.refl _) (by rw [gg]) (RB.string _)
      · simp only [↓R1, R2, R3, R4, TY, reduceIte, Nat.reduceEqDiff, Nat.reduceAdd, Nat.reduceMul, Nat.reduceLT, Nat.reduceLeDiff, reduceCtorEq, decide_true, decide_false, Int.reduceLE, Int.reduceLT, Int.reduceToNat, Int.reduceAdd, Int.reduceSub, Int.reduceMul, Int.reduceEq, q0, q1, S_inj, nb_nil_eq, S_size, len_lt_iff, len_le8, e0, e1, hlt, h8, w1, w2, hh, ne_eq, not_false_eq_true]
        refine call_of (divG lx ly hy0) ?_
        simp only [↓R1, R2, R3, R4, TY, reduceIte, Nat.reduceEqDiff, Nat.reduceAdd, Nat.reduceMul, Nat.reduceLT, Nat.reduceLeDiff, reduceCtorEq, decide_true, decide_false, Int.reduceLE, Int.reduceLT, Int.reduceToNat, Int.reduceAdd, Int.reduceSub, Int.reduceMul, Int.reduceEq, q0, q1]
        have hr : x % y < y := Nat.mod_lt _ (by omega)
        have hlt2 : y < x := lt_of_nb_len (by omega)
        refine hN _ _ (y + x % y) (by omega) ⟨rfl, y, x % y, rfl, ?_, ly, nb_len_le' (Nat.mod_le _ _) lx, rfl, rfl⟩
        rw [← gg, Nat.gcd_comm x, Nat.gcd_rec y x, Nat.gcd_comm]
end
end Go.Proofs.YtjkimjmocfjjnaaDoor.Ab
