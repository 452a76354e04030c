/- Digits of 64 bits out of bytes. -/
import Derived.Test.YtpaffoiiipgkeaaDoorPd
namespace Go.Proofs.YtpaffoiiipgkeaaDoor.Ab
open Go.RowKit
set_option linter.unusedVariables false
set_option linter.unusedSimpArgs false
set_option maxRecDepth 100000

theorem pow256_8 (q : Nat) : (256 : Nat) ^ (8 * q) = 18446744073709551616 ^ q := by rw [Nat.pow_mul]
theorem ql_byte {v b i k : Nat} (hv : v < 256 ^ i) (hb : b < 256) (hk : i / 8 < k) : ql (b * 256 ^ i + v) k = (ql v k).set (i / 8) (v / 18446744073709551616 ^ (i / 8) % 18446744073709551616 + b * 256 ^ (i % 8)) := by
  have hi : (256 : Nat) ^ i = 18446744073709551616 ^ (i / 8) * 256 ^ (i % 8) := by rw [← pow256_8, ← Nat.pow_add]; congr 1; omega
  have hr8 : (256 : Nat) ^ (i % 8) * 256 ≤ 18446744073709551616 := by
    rw [← Nat.pow_succ]; exact Nat.le_trans (Nat.pow_le_pow_right (n := 256) (j := 8) (by omega) (by omega)) (by decide)
  apply List.ext_getElem?
  intro j
  rw [List.getElem?_set, ql_length]
  by_cases hj : j < k
  · have h1 : ∀ n, (ql n k)[j]? = some (n / 18446744073709551616 ^ j % 18446744073709551616) := fun n => by simp [ql, hj]
    rw [h1]
    split
    · rename_i hq
      subst hq
      have hvq : v / 18446744073709551616 ^ (i / 8) < 256 ^ (i % 8) := by
        rw [Nat.div_lt_iff_lt_mul (Nat.pow_pos (by omega)), Nat.mul_comm, ← hi]; exact hv
      rw [hi, Nat.mul_comm (18446744073709551616 ^ (i / 8)), ← Nat.mul_assoc, Nat.add_comm, Nat.add_mul_div_right _ _ (Nat.pow_pos (by omega))]
      have h2 : b * 256 ^ (i % 8) + 256 ^ (i % 8) ≤ 256 ^ (i % 8) * 256 := by
        rw [← Nat.succ_mul, Nat.mul_comm]; exact Nat.mul_le_mul_left _ (by omega)
      rw [Nat.mod_eq_of_lt (by omega), Nat.mod_eq_of_lt (a := v / _) (by omega)]
    · rename_i hq
      rw [h1]
      congr 1
      rcases Nat.lt_or_gt_of_ne hq with h | h
      · -- above
        have h3 : (256 : Nat) ^ i * 256 ≤ 18446744073709551616 ^ j := by
          rw [← Nat.pow_succ, ← pow256_8]; exact Nat.pow_le_pow_right (by omega) (by omega)
        have h4 : b * 256 ^ i + 256 ^ i ≤ 256 ^ i * 256 := by
          rw [← Nat.succ_mul, Nat.mul_comm]; exact Nat.mul_le_mul_left _ (by omega)
        rw [Nat.div_eq_of_lt (show b * 256 ^ i + v < 18446744073709551616 ^ j by omega), Nat.div_eq_of_lt (show v < 18446744073709551616 ^ j by omega)]
      · have h5 : (18446744073709551616 : Nat) ^ (i / 8) = 18446744073709551616 ^ j * 18446744073709551616 * 18446744073709551616 ^ (i / 8 - j - 1) := by
          rw [← Nat.pow_succ, ← Nat.pow_add]; congr 1; omega
        rw [hi, h5, show b * (18446744073709551616 ^ j * 18446744073709551616 * 18446744073709551616 ^ (i / 8 - j - 1) * 256 ^ (i % 8)) + v = v + (18446744073709551616 * (b * (18446744073709551616 ^ (i / 8 - j - 1) * 256 ^ (i % 8)))) * 18446744073709551616 ^ j by
          rw [Nat.add_comm]; congr 1
          simp only [Nat.mul_assoc, Nat.mul_comm, Nat.mul_left_comm]]
        rw [Nat.add_mul_div_right _ _ (Nat.pow_pos (by omega)), Nat.add_mul_mod_self_left]
  · rw [List.getElem?_eq_none (by rw [ql_length]; omega), List.getElem?_eq_none (by rw [ql_length]; omega)]
    split
    · omega
    · rfl

section
variable {G : Gl} {fl : Nat} {A : Hp}

theorem limbs_ok {l : List UInt8} (hl : l.length ≤ 1000000) :
    Sound Tryd.prog G 77 [.string (S l)] fl A (.slice (some ⟨A.next, 0, some 0⟩) ((l.length + 7) / 8) ((l.length + 7) / 8)) (A.push (.row (qc (ql (nv l) ((l.length + 7) / 8))) 0 1)) := by
  refine Sound.of mixed Tryd.func77 Tryd.ntmps77 Tryd.results77 (by kernel_rfl) rfl (by kernel_rfl) (by simp) fun hA => ?_
  have w1 : IntKind.i64.wrap ((l.length : Int) + 7) = ((l.length + 7 : Nat) : Int) := by rw [wrapI (by omega)]; omega
  have w2 : ((l.length + 7 : Nat) : Int).tdiv 8 = (((l.length + 7) / 8 : Nat) : Int) := by rw [show (8 : Int) = ((8 : Nat) : Int) from rfl, div_n]
  have w3 : IntKind.i64.wrap ((((l.length + 7) / 8 : Nat)) : Int) = (((l.length + 7) / 8 : Nat) : Int) := wrapI (by omega)
  have w4 : ((8 : Nat) : Int) * (((l.length + 7) / 8 : Nat) : Int) ≤ 281474976710656 := by omega
  have w5 : (((l.length + 7) / 8 : Nat) : Int) ≤ 9223372036854775807 := by omega
  simp only [↓R1, R2, R3, R4, TY, reduceIte, Nat.reduceEqDiff, Nat.reduceAdd, Nat.reduceMul, Nat.reduceLT, Nat.reduceLeDiff, reduceCtorEq, decide_true, decide_false, Int.reduceLE, Int.reduceLT, Int.reduceToNat, Int.reduceAdd, Int.reduceSub, Int.reduceMul, Int.reduceEq, S_size, w1, w2, w3, w4, w5]
  refine range_of 12 l.length (fun j τ B => Xt A.next A B ∧ B.next = A.next + 1 ∧ B.blk A.next = some (.row (qc (ql (nv (l.drop (l.length - j))) ((l.length + 7) / 8))) 0 1) ∧ τ 0 = some (.string (S l)) ∧ τ 3 = some (.slice (some ⟨A.next, 0, some 0⟩) ((l.length + 7) / 8) ((l.length + 7) / 8)) ∧ τ 11 = some (.int .i64 l.length) ∧ τ 12 = some (.int .i64 j)) ?_ ?_
  · refine ⟨(Xt.refl A).push _, rfl, ?_, rfl, rfl, rfl, rfl⟩
    rw [Hp.push_blk, if_pos rfl, zl_one, qc_zeros, show l.drop (l.length - 0) = [] by simp]
    have : ql (nv []) ((l.length + 7) / 8) = List.replicate ((l.length + 7) / 8) 0 := by
      apply List.ext_getElem
      · simp [ql]
      · intro i h1 h2; simp [ql, nv_nil]
    rw [this]
  rintro j τ B hj ⟨hx, hn1, hb, q0, q3, q11, q12⟩
  simp only [↓R1, R2, R3, R4, TY, reduceIte, Nat.reduceEqDiff, Nat.reduceAdd, Nat.reduceMul, Nat.reduceLT, Nat.reduceLeDiff, reduceCtorEq, decide_true, decide_false, Int.reduceLE, Int.reduceLT, Int.reduceToNat, Int.reduceAdd, Int.reduceSub, Int.reduceMul, Int.reduceEq, q0, q3, q11, q12]
  refine ⟨fun hlt => ?_, fun hlt => ?_⟩
  rotate_left
  · refine Ended.one hA hx (Nat.le_refl _) ?_ (Nat.le_refl _) (qc_rb _ _)
    rw [hb, show l.length - j = 0 by omega]; rfl
  have hfl : fl ≤ A.next := hA.floor
  have hj63 : j < 9223372036854775807 := by omega
  have v1 : IntKind.i64.wrap ((l.length : Int) - 1) = ((l.length - 1 : Nat) : Int) := by rw [wrapI (by omega)]; omega
  have v2 : IntKind.i64.wrap (((l.length - 1 : Nat) : Int) - (j : Int)) = ((l.length - 1 - j : Nat) : Int) := by rw [wrapI (by omega)]; omega
  have v3 : (j : Int).tdiv 8 = ((j / 8 : Nat) : Int) := by rw [show (8 : Int) = ((8 : Nat) : Int) from rfl, div_n]
  have v4 : IntKind.i64.wrap ((j / 8 : Nat) : Int) = ((j / 8 : Nat) : Int) := wrapI (by omega)
  have v5 : (j : Int).tmod 8 = ((j % 8 : Nat) : Int) := by rw [show (8 : Int) = ((8 : Nat) : Int) from rfl, mod_n]
  have v6 : IntKind.i64.wrap (((j % 8 : Nat) : Int) * 8) = ((j % 8 * 8 : Nat) : Int) := by rw [wrapI (by omega)]; omega
  have v7 : j / 8 < (l.length + 7) / 8 := by omega
  have v8 : l.length - 1 - j < l.length := by omega
  have v9 : min (j % 8 * 8) 64 = j % 8 * 8 := by omega
  have hg : B.get G ⟨A.next, j / 8, some 0⟩ = some (.int .u64 ((nv (l.drop (l.length - j)) / 18446744073709551616 ^ (j / 8) % 18446744073709551616 : Nat) : Int)) := by
    simp only [Hp.get, hb, if_true]
    exact qc_getq (ql_get v7)
  have hbyte := S_at v8
  have hlen : (qc (ql (nv (l.drop (l.length - j))) ((l.length + 7) / 8))).length = (l.length + 7) / 8 := by rw [qc_length, ql_length]
  have v10 : j / 8 + 1 ≤ (l.length + 7) / 8 := by omega
  simp only [↓R1, R2, R3, R4, TY, reduceIte, Nat.reduceEqDiff, Nat.reduceAdd, Nat.reduceMul, Nat.reduceLT, Nat.reduceLeDiff, reduceCtorEq, decide_true, decide_false, Int.reduceLE, Int.reduceLT, Int.reduceToNat, Int.reduceAdd, Int.reduceSub, Int.reduceMul, Int.reduceEq, S_size, q0, q3, q11, q12, hlt, hj63, v1, v2, v3, v4, v5, v6, v7, v8, v9, hg, hfl, hb, hbyte, hlen, v10, UN]
  rw [floOf_wr (by kernel_rfl)]
  simp only [↓R1, R2, R3, R4, TY, reduceIte, Nat.reduceEqDiff, Nat.reduceAdd, Nat.reduceMul, Nat.reduceLT, Nat.reduceLeDiff, reduceCtorEq, decide_true, decide_false, Int.reduceLE, Int.reduceLT, Int.reduceToNat, Int.reduceAdd, Int.reduceSub, Int.reduceMul, Int.reduceEq, S_size, q0, q3, q11, q12, hlt, hj63, v1, v2, v3, v4, v5, v6, v7, v8, v9, hg, hfl, hb, hbyte, hlen, v10, UN]
  refine range_on q12 hlt rfl ⟨by simp (maxDischargeDepth := 20) only [xt_put, hx, Nat.le_refl], hn1, ?_, q0, q3, q11, rfl⟩
  simp only [Hp.put_blk, if_true]
  have hb8 := l[l.length - 1 - j].toNat_lt
  have hdrop : l.drop (l.length - (j + 1)) = l[l.length - 1 - j] :: l.drop (l.length - j) := by
    rw [List.drop_eq_getElem_cons (by omega), show l.length - (j + 1) + 1 = l.length - j by omega]
    simp only [show l.length - (j + 1) = l.length - 1 - j by omega]
  have hv := nv_lt (l.drop (l.length - j))
  rw [List.length_drop, show l.length - (l.length - j) = j by omega] at hv
  rw [qc_set, hdrop, nv_cons, List.length_drop, show l.length - (l.length - j) = j by omega, ql_byte hv hb8 v7]
  generalize nv (l.drop (l.length - j)) = v at hv ⊢
  generalize l[l.length - 1 - j].toNat = b at hb8 ⊢
  have hi : (256 : Nat) ^ j = 18446744073709551616 ^ (j / 8) * 256 ^ (j % 8) := by rw [← pow256_8, ← Nat.pow_add]; congr 1; omega
  have hvq : v / 18446744073709551616 ^ (j / 8) < 256 ^ (j % 8) := by
    rw [Nat.div_lt_iff_lt_mul (Nat.pow_pos (by omega)), Nat.mul_comm, ← hi]; exact hv
  generalize v / 18446744073709551616 ^ (j / 8) = q at hvq ⊢
  have h2 : (2 : Nat) ^ (j % 8 * 8) = 256 ^ (j % 8) := by rw [Nat.mul_comm, Nat.pow_mul]
  have hr8 : (256 : Nat) ^ (j % 8) * 256 ≤ 18446744073709551616 := by
    rw [← Nat.pow_succ]; exact Nat.le_trans (Nat.pow_le_pow_right (n := 256) (j := 8) (by omega) (by omega)) (by decide)
  rw [← h2] at hvq hr8 ⊢
  generalize hm : j % 8 * 8 = e at hvq hr8 ⊢
  generalize hp : (2 : Nat) ^ e = p at hvq hr8 ⊢
  have h3 : b * p + p ≤ p * 256 := by rw [← Nat.succ_mul, Nat.mul_comm]; exact Nat.mul_le_mul_left _ (by omega)
  rw [Nat.mod_eq_of_lt (a := q) (by omega), Nat.mod_eq_of_lt (a := q) (by omega), Nat.mod_eq_of_lt (a := b) (by omega), Nat.mod_eq_of_lt (a := b * p) (by omega), Nat.mod_eq_of_lt (a := b * p) (by omega), ← hp, or_add' (by rw [hp]; exact hvq), Nat.mod_eq_of_lt (by rw [hp]; omega)]
end
end Go.Proofs.YtpaffoiiipgkeaaDoor.Ab
