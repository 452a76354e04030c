/- The root of a number. -/
import Derived.Test.YtincjhklpgfkgaaDoorPg
import Derived.Test.YtincjhklpgfkgaaDoorOg
import Derived.Test.YtincjhklpgfkgaaDoorNk
import Derived.Test.YtincjhklpgfkgaaDoorSh
namespace Go.Proofs.YtincjhklpgfkgaaDoor.Ab
open Go.RowKit
set_option linter.unusedVariables false
set_option linter.unusedSimpArgs false
set_option maxRecDepth 100000

theorem repeatL_zeros (k : Nat) : Lib.repeatL [0] k = List.replicate k 0 := by
  induction k with
  | zero => rfl
  | succ k ih => rw [Lib.repeatL, ih, List.replicate_succ]; rfl
theorem nv_one_zeros (k : Nat) : nv (1 :: List.replicate k 0) = 256 ^ k := by
  have f1 := nv_zeros k []
  rw [List.append_nil, nv_nil] at f1
  rw [nv_cons, f1, List.length_replicate]
  have : (1 : UInt8).toNat = 1 := rfl
  rw [this, Nat.one_mul, Nat.add_zero]
theorem nb_pow (k : Nat) : nb (256 ^ k) = 1 :: List.replicate k 0 := by
  rw [← nv_one_zeros k]
  exact nb_nv _ fun b m h => by cases h; decide
/-- One step towards the root. -/
theorem root_step {n x y q : Nat} (hx : 0 < x) (hq : q = n / x) (hy : y = (x + q) / 2) : n < (y + 1) * (y + 1) := by
  have h1 : n < x * (q + 1) := by rw [hq]; exact Nat.lt_mul_div_succ n hx
  have h2 : x + q ≤ 2 * y + 1 := by omega
  have h3 : 4 * (x * (q + 1)) ≤ (x + q + 1) * (x + q + 1) := by
    rcases Nat.le_total x (q + 1) with h | h
    · obtain ⟨d, hd⟩ := Nat.exists_eq_add_of_le h
      rw [show x + q + 1 = x + (q + 1) by omega, hd]
      have : (x + (x + d)) * (x + (x + d)) = 4 * (x * (x + d)) + d * d := by grind
      omega
    · obtain ⟨d, hd⟩ := Nat.exists_eq_add_of_le h
      rw [show x + q + 1 = x + (q + 1) by omega, hd]
      have : (q + 1 + d + (q + 1)) * (q + 1 + d + (q + 1)) = 4 * ((q + 1 + d) * (q + 1)) + d * d := by grind
      omega
  have h4 : (x + q + 1) * (x + q + 1) ≤ (2 * (y + 1)) * (2 * (y + 1)) := Nat.mul_le_mul (by omega) (by omega)
  have h5 : (2 * (y + 1)) * (2 * (y + 1)) = 4 * ((y + 1) * (y + 1)) := by grind
  omega

section
variable {G : Gl} {fl : Nat} {A : Hp}

theorem repeat_ok {k : Nat} (hk : k ≤ 1000000) : Sound Tryd.prog G 105 [.string (S [0]), .int .i64 (k : Nat)] fl A (.string (S (List.replicate k 0))) A := by
  refine Sound.of_scalar (fun u hu => ?_) rfl fun w => ?_
  · simp only [List.mem_cons, List.not_mem_nil, or_false] at hu
    rcases hu with rfl | rfl
    · exact ⟨rfl, fun μ A u' h => by cases h; rfl⟩
    · exact ⟨rfl, fun μ A u' h => by cases h; rfl⟩
  · have := Tryd.strings_Repeat (S [0]) k w (by omega) (by rw [S_size]; simp; omega)
    refine .inl ⟨⟨_, Tryd.func105, by kernel_rfl, by kernel_rfl⟩, this.mono fun e w' h => ⟨_, h.1, ?_, h.2⟩⟩
    have e : (S [0]).data.toList = [0] := rfl
    rw [e, repeatL_zeros]

set_option maxHeartbeats 2000000 in
theorem root_ok {n : Nat} (hn : (nb n).length ≤ 300000) : ∃ r, r * r ≤ n ∧ n < (r + 1) * (r + 1) ∧ ∀ fl A, Sound Tryd.prog G 87 [.string (S (nb n))] fl A (.string (S (nb r))) A := by
  -- the root is known by its two bounds
  have key : ∀ fl A r, r * r ≤ n → n < (r + 1) * (r + 1) → Sound Tryd.prog G 87 [.string (S (nb n))] fl A (.string (S (nb r))) A := by
    intro fl A r hr1 hr2
    refine Sound.of mixed Tryd.func87 Tryd.ntmps87 Tryd.results87 (by kernel_rfl) rfl (by kernel_rfl) (by simp) fun hA => ?_
    simp only [↓R1, R2, R3, R4, TY, reduceIte, Nat.reduceEqDiff, Nat.reduceAdd, Nat.reduceMul, Nat.reduceLT, Nat.reduceLeDiff, reduceCtorEq, decide_true, decide_false, Int.reduceLE, Int.reduceLT, Int.reduceToNat, Int.reduceAdd, Int.reduceSub, Int.reduceMul, Int.reduceEq]
    refine call_of (trim_ok _) ?_
    by_cases hz : n = 0
    · have e0 : (n = 0) = True := eq_true hz
      simp only [↓R1, R2, R3, R4, TY, reduceIte, Nat.reduceEqDiff, Nat.reduceAdd, Nat.reduceMul, Nat.reduceLT, Nat.reduceLeDiff, reduceCtorEq, decide_true, decide_false, Int.reduceLE, Int.reduceLT, Int.reduceToNat, Int.reduceAdd, Int.reduceSub, Int.reduceMul, Int.reduceEq, nv_nb, S_inj, nb_nil_eq, e0]
      refine Ended.back hA (Xt.refl _) ?_ (RB.string _)
      have : r = 0 := by
        rcases Nat.eq_zero_or_pos r with h | h
        · exact h
        · have := Nat.mul_le_mul h h; omega
      rw [this, nb_zero]
    have e0 : (n = 0) = False := eq_false hz
    have w1 : IntKind.i64.wrap (((nb n).length : Int) + 1) = (((nb n).length + 1 : Nat) : Int) := by rw [wrapI (by omega)]; omega
    have w2 : (((nb n).length + 1 : Nat) : Int).tdiv 2 = ((((nb n).length + 1) / 2 : Nat) : Int) := by rw [show (2 : Int) = ((2 : Nat) : Int) from rfl, div_n]
    have w3 : IntKind.i64.wrap ((((nb n).length + 1) / 2 : Nat) : Int) = ((((nb n).length + 1) / 2 : Nat) : Int) := wrapI (by omega)
    have hx0 : n < (256 ^ (((nb n).length + 1) / 2) + 1) * (256 ^ (((nb n).length + 1) / 2) + 1) := by
      have h1 := nb_len_le.1 (Nat.le_refl (nb n).length)
      have h2 : (256 : Nat) ^ (nb n).length ≤ 256 ^ (((nb n).length + 1) / 2) * 256 ^ (((nb n).length + 1) / 2) := by
        rw [← Nat.pow_add]; exact Nat.pow_le_pow_right (by omega) (by omega)
      have h3 : 256 ^ (((nb n).length + 1) / 2) * 256 ^ (((nb n).length + 1) / 2) ≤ (256 ^ (((nb n).length + 1) / 2) + 1) * (256 ^ (((nb n).length + 1) / 2) + 1) := Nat.mul_le_mul (by omega) (by omega)
      omega
    have hl0 : (nb (256 ^ (((nb n).length + 1) / 2))).length ≤ 300001 := by rw [nb_pow]; simp; omega
    have hp0 : 0 < 256 ^ (((nb n).length + 1) / 2) := Nat.pow_pos (by omega)
    have hnb := nb_pow (((nb n).length + 1) / 2)
    have rp := fun fl A => repeat_ok (G := G) (fl := fl) (A := A) (k := ((nb n).length + 1) / 2) (by omega)
    generalize ((nb n).length + 1) / 2 = k at *
    generalize 256 ^ k = x0 at *
    have hcat : 1 + k ≤ 9223372036854775807 := by
      have := congrArg List.length hnb
      simp at this; omega
    simp only [↓R1, R2, R3, R4, TY, reduceIte, Nat.reduceEqDiff, Nat.reduceAdd, Nat.reduceMul, Nat.reduceLT, Nat.reduceLeDiff, reduceCtorEq, decide_true, decide_false, Int.reduceLE, Int.reduceLT, Int.reduceToNat, Int.reduceAdd, Int.reduceSub, Int.reduceMul, Int.reduceEq, nv_nb, S_inj, nb_nil_eq, S_size, e0, w1, w2, w3]
    refine call_of (rp _ _) ?_
    simp only [↓R1, R2, R3, R4, TY, reduceIte, Nat.reduceEqDiff, Nat.reduceAdd, Nat.reduceMul, Nat.reduceLT, Nat.reduceLeDiff, reduceCtorEq, decide_true, decide_false, Int.reduceLE, Int.reduceLT, Int.reduceToNat, Int.reduceAdd, Int.reduceSub, Int.reduceMul, Int.reduceEq, S_size, List.length_replicate, List.length_cons, List.length_nil, hcat, S_append]
    refine loop_rank (fun x τ B => B = A ∧ 0 < x ∧ n < (x + 1) * (x + 1) ∧ (nb x).length ≤ 300001 ∧ τ 0 = some (.string (S (nb n))) ∧ τ 3 = some (.string (S (nb x)))) x0 ⟨rfl, hp0, hx0, hl0, rfl, by rw [hnb]; rfl⟩ ?_
    rintro x τ B ⟨rfl, hp, hx, hl, q0, q3⟩ K' hN hE
    have hxn : x ≠ 0 := by omega
    have b2 : nb 2 = [2] := nb_small (by omega) (by omega)
    have lq := nb_len_le' (Nat.div_le_self n x) hn
    have la := nb_len_add (k := 300001) hl (show (nb (n / x)).length ≤ 300001 by omega)
    have l2 : (nb 2).length ≤ 400000 := by rw [b2]; decide
    have d1 := divG (G := G) (fl := fl) (A := B) (m := n) (n := x) (by omega) (by omega) hxn
    have a1 := addN (G := G) (fl := fl) (A := B) (m := x) (n := n / x) (by omega) (by omega)
    have d2 := divG (G := G) (fl := fl) (A := B) (m := x + n / x) (n := 2) (by omega) l2 (by omega)
    have c1 := cmpN_ok (G := G) (fl := fl) (A := B) ((x + n / x) / 2) x
    rw [b2] at d2
    have hst := root_step hp rfl rfl (n := n) (y := (x + n / x) / 2) (q := n / x)
    simp only [↓R1, R2, R3, R4, TY, reduceIte, Nat.reduceEqDiff, Nat.reduceAdd, Nat.reduceMul, Nat.reduceLT, Nat.reduceLeDiff, reduceCtorEq, decide_true, decide_false, Int.reduceLE, Int.reduceLT, Int.reduceToNat, Int.reduceAdd, Int.reduceSub, Int.reduceMul, Int.reduceEq, q0, q3]
    refine call_of d1 ?_
    simp only [↓R1, R2, R3, R4, TY, reduceIte, Nat.reduceEqDiff, Nat.reduceAdd, Nat.reduceMul, Nat.reduceLT, Nat.reduceLeDiff, reduceCtorEq, decide_true, decide_false, Int.reduceLE, Int.reduceLT, Int.reduceToNat, Int.reduceAdd, Int.reduceSub, Int.reduceMul, Int.reduceEq, q0, q3]
    refine call_of a1 ?_
    simp only [↓R1, R2, R3, R4, TY, reduceIte, Nat.reduceEqDiff, Nat.reduceAdd, Nat.reduceMul, Nat.reduceLT, Nat.reduceLeDiff, reduceCtorEq, decide_true, decide_false, Int.reduceLE, Int.reduceLT, Int.reduceToNat, Int.reduceAdd, Int.reduceSub, Int.reduceMul, Int.reduceEq, q0, q3]
    refine call_of d2 ?_
    simp only [↓R1, R2, R3, R4, TY, reduceIte, Nat.reduceEqDiff, Nat.reduceAdd, Nat.reduceMul, Nat.reduceLT, Nat.reduceLeDiff, reduceCtorEq, decide_true, decide_false, Int.reduceLE, Int.reduceLT, Int.reduceToNat, Int.reduceAdd, Int.reduceSub, Int.reduceMul, Int.reduceEq, q0, q3]
    refine call_of c1 ?_
    by_cases hge : x ≤ (x + n / x) / 2
    · have hc : (0 ≤ cmpN ((x + n / x) / 2) x) = True := eq_true (by unfold cmpN; rw [if_neg (by omega)]; split <;> omega)
      simp only [↓R1, R2, R3, R4, TY, reduceIte, Nat.reduceEqDiff, Nat.reduceAdd, Nat.reduceMul, Nat.reduceLT, Nat.reduceLeDiff, reduceCtorEq, decide_true, decide_false, Int.reduceLE, Int.reduceLT, Int.reduceToNat, Int.reduceAdd, Int.reduceSub, Int.reduceMul, Int.reduceEq, q0, q3, hc]
      refine hE _ _ _ (by simp) ?_
      simp only [↓R1, R2, R3, R4, TY, reduceIte, Nat.reduceEqDiff, Nat.reduceAdd, Nat.reduceMul, Nat.reduceLT, Nat.reduceLeDiff, reduceCtorEq, decide_true, decide_false, Int.reduceLE, Int.reduceLT, Int.reduceToNat, Int.reduceAdd, Int.reduceSub, Int.reduceMul, Int.reduceEq, q0, q3]
      refine Ended.back hA (Xt.refl _) ?_ (RB.string _)
      have h1 : x * x ≤ n := by
        have h2 : x ≤ n / x := by omega
        exact Nat.le_trans (Nat.mul_le_mul_left x h2) (Nat.mul_div_le n x)
      have h3 : r < x + 1 := Nat.lt_of_not_le fun h => by have := Nat.mul_le_mul h h; omega
      have h4 : x < r + 1 := Nat.lt_of_not_le fun h => by have := Nat.mul_le_mul h h; omega
      rw [show r = x by omega]
    · have hc : (0 ≤ cmpN ((x + n / x) / 2) x) = False := eq_false (by unfold cmpN; rw [if_pos (by omega)]; omega)
      simp only [↓R1, R2, R3, R4, TY, reduceIte, Nat.reduceEqDiff, Nat.reduceAdd, Nat.reduceMul, Nat.reduceLT, Nat.reduceLeDiff, reduceCtorEq, decide_true, decide_false, Int.reduceLE, Int.reduceLT, Int.reduceToNat, Int.reduceAdd, Int.reduceSub, Int.reduceMul, Int.reduceEq, q0, q3, hc]
      have hy0 : 0 < (x + n / x) / 2 := by
        rcases Nat.lt_or_ge x 2 with h | h
        · have h1 : x = 1 := by omega
          have h2 : n / x = n := by rw [h1, Nat.div_one]
          have h3 : 1 ≤ n := Nat.one_le_iff_ne_zero.2 hz
          rw [h2, h1]; exact Nat.div_pos (by omega) (by omega)
        · exact Nat.div_pos (Nat.le_trans h (Nat.le_add_right _ _)) (by omega)
      exact hN _ _ ((x + n / x) / 2) (by omega) ⟨rfl, hy0, hst, nb_len_le' (Nat.le_of_lt (by omega)) hl, q0, rfl⟩
  have hex : ∀ n : Nat, ∃ r, r * r ≤ n ∧ n < (r + 1) * (r + 1) := by
    intro n
    induction n with
    | zero => exact ⟨0, by omega, by omega⟩
    | succ n ih =>
      obtain ⟨r, h1, h2⟩ := ih
      by_cases h : (r + 1) * (r + 1) ≤ n + 1
      · refine ⟨r + 1, h, ?_⟩
        have : (r + 1 + 1) * (r + 1 + 1) = (r + 1) * (r + 1) + 2 * r + 3 := by grind
        omega
      · exact ⟨r, by omega, by omega⟩
  obtain ⟨r, h1, h2⟩ := hex n
  exact ⟨r, h1, h2, fun fl A => key fl A r h1 h2⟩
end
end Go.Proofs.YtincjhklpgfkgaaDoor.Ab
