/- Digits shifted left. -/
import Derived.Test.YtpaffoiiipgkeaaDoorOa
namespace Go.Proofs.YtpaffoiiipgkeaaDoor.Ab
open Go.RowKit
set_option linter.unusedVariables false
set_option linter.unusedSimpArgs false
set_option maxRecDepth 100000

section
variable {G : Gl} {fl : Nat} {A : Hp}

theorem left_ok {id : Nat} {xs : List Nat} {s : Nat} (hs : s ≤ 31) (hb : A.blk id = some (.row (wc xs) 0 1)) (hidn : id < A.next) (hl : xs.length ≤ 1000000) (kx : W32 xs) :
    Sound Tryd.prog G 72 [.slice (some ⟨id, 0, some 0⟩) xs.length xs.length, .int .i64 (s : Nat)] fl A (.slice (some ⟨A.next, 0, some 0⟩) (xs.length + 1) (xs.length + 1)) (A.push (.row (wc (wl (wv xs * 2 ^ s) (xs.length + 1))) 0 1)) := by
  refine Sound.of mixed Tryd.func72 Tryd.ntmps72 Tryd.results72 (by kernel_rfl) rfl (by kernel_rfl) (by simp) fun hA => ?_
  have hfl := hA.floor
  have w1 : IntKind.i64.wrap ((xs.length : Int) + 1) = ((xs.length + 1 : Nat) : Int) := by rw [wrapI (by omega)]; omega
  have w4 : ((4 : Nat) : Int) * ((xs.length + 1 : Nat) : Int) ≤ 281474976710656 := by omega
  have w5 : ((xs.length + 1 : Nat) : Int) ≤ 9223372036854775807 := by omega
  have hc : 2 ^ s * 2 ^ (32 - s) = 4294967296 := by rw [← Nat.pow_add, show s + (32 - s) = 32 by omega]
  have hc' : 2 ^ (32 - s) * 2 ^ s = 4294967296 := by rw [Nat.mul_comm]; exact hc
  have hs0 : 0 < 2 ^ s := Nat.pow_pos (by omega)
  have hs1 : 2 ^ s < 4294967296 := Nat.pow_lt_pow_right (by omega) (show s < 32 by omega)
  have hms : min s 64 = s := by omega
  simp only [↓R1, R2, R3, R4, TY, reduceIte, Nat.reduceEqDiff, Nat.reduceAdd, Nat.reduceMul, Nat.reduceLT, Nat.reduceLeDiff, reduceCtorEq, decide_true, decide_false, Int.reduceLE, Int.reduceLT, Int.reduceToNat, Int.reduceAdd, Int.reduceSub, Int.reduceMul, Int.reduceEq, w1, w4, w5]
  refine range_of 15 xs.length (fun j τ B => ∃ (zs : List Nat) (c : Nat), Xt A.next A B ∧ B.next = A.next + 1 ∧ B.blk A.next = some (.row (wc (zs ++ c :: List.replicate (xs.length - j) 0)) 0 1) ∧ zs.length = j ∧ W32 zs ∧ c < 2 ^ s ∧ wv zs + 4294967296 ^ j * c = wv (xs.take j) * 2 ^ s ∧
    τ 1 = some (.int .i64 (s : Nat)) ∧ τ 5 = some (.slice (some ⟨A.next, 0, some 0⟩) (xs.length + 1) (xs.length + 1)) ∧ τ 13 = some (.slice (some ⟨id, 0, some 0⟩) xs.length xs.length) ∧ τ 14 = some (.int .i64 xs.length) ∧ τ 15 = some (.int .i64 j)) ?_ ?_
  · refine ⟨[], 0, (Xt.refl A).push _, rfl, ?_, rfl, by intro w hw; simp at hw, hs0, by simp [wv], rfl, rfl, rfl, rfl, rfl⟩
    rw [Hp.push_blk, if_pos rfl, zl_one, wc_zeros]; rfl
  rintro j τ B hj ⟨zs, c, hx, hn, hbB, hzl, hzw, hcs, hsum, q1, q5, q13, q14, q15⟩
  simp only [↓R1, R2, R3, R4, TY, reduceIte, Nat.reduceEqDiff, Nat.reduceAdd, Nat.reduceMul, Nat.reduceLT, Nat.reduceLeDiff, reduceCtorEq, decide_true, decide_false, Int.reduceLE, Int.reduceLT, Int.reduceToNat, Int.reduceAdd, Int.reduceSub, Int.reduceMul, Int.reduceEq, q13, q14, q15]
  refine ⟨fun hlt => ?_, fun hlt => ?_⟩
  rotate_left
  · obtain rfl : j = xs.length := by omega
    rw [List.take_length] at hsum
    rw [Nat.sub_self, List.replicate_zero] at hbB
    have hW : W32 (zs ++ [c]) := by
      intro w hw
      rcases List.mem_append.1 hw with h | h
      · exact hzw w h
      · rw [List.mem_singleton.1 h]; omega
    have hz : wl (wv xs * 2 ^ s) (xs.length + 1) = zs ++ [c] := by
      rw [← hsum]
      have := wl_wv hW
      rw [List.length_append, hzl, wv_snoc, hzl] at this
      exact this
    simp only [↓R1, R2, R3, R4, TY, reduceIte, Nat.reduceEqDiff, Nat.reduceAdd, Nat.reduceMul, Nat.reduceLT, Nat.reduceLeDiff, reduceCtorEq, decide_true, decide_false, Int.reduceLE, Int.reduceLT, Int.reduceToNat, Int.reduceAdd, Int.reduceSub, Int.reduceMul, Int.reduceEq, q5]
    rw [hz]
    exact Ended.one hA hx (Nat.le_refl _) hbB (Nat.le_refl _) (wc_rb _ _)
  have hj63 : j < 9223372036854775807 := by omega
  have hbx : B.blk id = some (.row (wc xs) 0 1) := by rw [hx.blk _ hidn]; exact hb
  have hgx : B.get G ⟨id, j, some 0⟩ = some (.int .u32 (xs[j] : Nat)) := by simp only [Hp.get, hbx, if_true]; exact wc_get hlt
  have hx32 : xs[j] < 4294967296 := kx _ (List.getElem_mem hlt)
  have hnn : xs[j] * 2 ^ s < 18446744073709551616 := by
    have : xs[j] * 2 ^ s < 4294967296 * 4294967296 := Nat.mul_lt_mul'' hx32 hs1
    omega
  have hgo : B.get G ⟨A.next, j, some 0⟩ = some (.int .u32 (c : Nat)) := by
    simp only [Hp.get, hbB, if_true]
    exact wc_getq (by rw [List.getElem?_append_right (by omega), hzl, Nat.sub_self]; rfl)
  have hlen : (wc (zs ++ c :: List.replicate (xs.length - j) 0)).length = xs.length + 1 := by rw [wc_length, List.length_append, hzl, List.length_cons, List.length_replicate]; omega
  have j1 : j + 1 ≤ xs.length + 1 := by omega
  have j2 : j + 1 + 1 ≤ xs.length + 1 := by omega
  have v1 : IntKind.i64.wrap ((j : Int) + 1) = ((j + 1 : Nat) : Int) := by rw [wrapI (by omega)]; omega
  have v2 : ((j : Int) + 1).toNat = j + 1 := by omega
  have jlt : j < xs.length + 1 := by omega
  have jlt2 : j + 1 < xs.length + 1 := by omega
  have m1 : xs[j] % 18446744073709551616 = xs[j] := Nat.mod_eq_of_lt (by omega)
  have m2 : xs[j] * 2 ^ s % 18446744073709551616 = xs[j] * 2 ^ s := Nat.mod_eq_of_lt hnn
  have m3 : c % 4294967296 = c := Nat.mod_eq_of_lt (by omega)
  have m4 : xs[j] * 2 ^ s % 4294967296 = xs[j] % 2 ^ (32 - s) * 2 ^ s := by
    have := Nat.mul_mod_mul_right (2 ^ s) xs[j] (2 ^ (32 - s))
    rw [hc'] at this; exact this
  have m5 : xs[j] * 2 ^ s % 4294967296 % 4294967296 = xs[j] * 2 ^ s % 4294967296 := Nat.mod_eq_of_lt (Nat.mod_lt _ (by omega))
  have m6 : xs[j] * 2 ^ s / 4294967296 < 2 ^ s := by
    rw [Nat.div_lt_iff_lt_mul (by omega), Nat.mul_comm (2 ^ s)]
    exact Nat.mul_lt_mul_of_pos_right hx32 hs0
  have m7 : xs[j] * 2 ^ s / 4294967296 % 4294967296 = xs[j] * 2 ^ s / 4294967296 := Nat.mod_eq_of_lt (by omega)
  have p32 : 2 ^ 32 = 4294967296 := rfl
  have hor : (c ||| xs[j] * 2 ^ s % 4294967296) = c + xs[j] * 2 ^ s % 4294967296 := by rw [m4]; exact or_add' hcs
  have hzb : c + xs[j] * 2 ^ s % 4294967296 < 4294967296 := by
    have h1 : xs[j] % 2 ^ (32 - s) + 1 ≤ 2 ^ (32 - s) := Nat.mod_lt _ (Nat.pow_pos (by omega))
    have h2 := Nat.mul_le_mul_right (2 ^ s) h1
    rw [hc', Nat.add_mul, Nat.one_mul, ← m4] at h2
    omega
  have hset : ∀ z d : Nat, ((wc (zs ++ c :: List.replicate (xs.length - j) 0)).set j (.int .u32 (z : Nat))).set (j + 1) (.int .u32 (d : Nat)) = wc ((zs ++ [z]) ++ d :: List.replicate (xs.length - (j + 1)) 0) := fun z d => by
    rw [wc_set, set_snoc hzl, wc_set, show xs.length - j = (xs.length - (j + 1)) + 1 by omega, List.replicate_succ, set_snoc (by simp [hzl])]
    simp
  simp only [↓R1, R2, R3, R4, TY, reduceIte, Nat.reduceEqDiff, Nat.reduceAdd, Nat.reduceMul, Nat.reduceLT, Nat.reduceLeDiff, reduceCtorEq, decide_true, decide_false, Int.reduceLE, Int.reduceLT, Int.reduceToNat, Int.reduceAdd, Int.reduceSub, Int.reduceMul, Int.reduceEq, q1, q5, q13, q14, q15, hlt, hj63, hgx, hgo, hbB, hfl, hms, hlen, j1, j2, v1, jlt, jlt2, List.length_set, m1, m2, m3, m5, m7, p32, hor, UN]
  refine range_on q15 hlt rfl ⟨zs ++ [c + xs[j] * 2 ^ s % 4294967296], xs[j] * 2 ^ s / 4294967296, by simp (maxDischargeDepth := 20) only [xt_put, hx, Nat.le_refl], hn, ?_, by simp [hzl], ?_, m6, ?_, q1, q5, q13, q14, rfl⟩
  · simp only [Hp.put_blk, if_true]; rw [hset, Nat.mod_eq_of_lt hzb]
  · intro w hw
    rcases List.mem_append.1 hw with h | h
    · exact hzw w h
    · rw [List.mem_singleton.1 h]; exact hzb
  · have e := Nat.div_add_mod (xs[j] * 2 ^ s) 4294967296
    rw [wv_snoc, hzl, wv_take_succ hlt, Nat.add_mul, ← hsum, Nat.pow_succ, Nat.mul_assoc (4294967296 ^ j) xs[j]]
    generalize (4294967296 : Nat) ^ j = p
    generalize xs[j] * 2 ^ s = n at e
    rw [Nat.mul_add, Nat.mul_assoc p 4294967296]
    have e' : p * n = p * (4294967296 * (n / 4294967296)) + p * (n % 4294967296) := by rw [← Nat.mul_add, e]
    omega
end
end Go.Proofs.YtpaffoiiipgkeaaDoor.Ab
