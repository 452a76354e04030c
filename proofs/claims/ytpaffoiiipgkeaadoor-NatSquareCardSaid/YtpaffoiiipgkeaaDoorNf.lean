/- Numbers: Add. -/
import Derived.Test.YtpaffoiiipgkeaaDoorNe
namespace Go.Proofs.YtpaffoiiipgkeaaDoor.Ab
open Go.RowKit
set_option linter.unusedVariables false
set_option linter.unusedSimpArgs false
set_option maxRecDepth 100000

section
variable {G : Gl} {fl : Nat} {A : Hp}

theorem wds_len_le {n : Nat} (h : (nb n).length ≤ 1000000) : (wds n).length ≤ 250000 := by rw [wds_length]; omega
theorem wds_of_len (n : Nat) : nb n ≠ [] → (wds n).length ≠ 0 := fun h => by
  rw [wds_length]
  have : (nb n).length ≠ 0 := fun e => h (List.length_eq_zero_iff.1 e)
  omega

theorem add_ok {a b : List UInt8} (ha : (nb (nv a)).length ≤ 900000) (hb : (nb (nv b)).length ≤ 900000) : Sound Tryd.prog G 19 [.string (S a), .string (S b)] fl A (.string (S (nb (nv a + nv b)))) A := by
  refine Sound.of mixed Tryd.func19 Tryd.ntmps19 Tryd.results19 (by kernel_rfl) rfl (by kernel_rfl) (by simp) fun hA => ?_
  simp only [↓R1, R2, R3, R4, TY, reduceIte, Nat.reduceEqDiff, Nat.reduceAdd, Nat.reduceMul, Nat.reduceLT, Nat.reduceLeDiff, reduceCtorEq, decide_true, decide_false, Int.reduceLE, Int.reduceLT, Int.reduceToNat, Int.reduceAdd, Int.reduceSub, Int.reduceMul, Int.reduceEq]
  refine call_of (trim_ok a) ?_
  simp only [↓R1, R2, R3, R4, TY, reduceIte, Nat.reduceEqDiff, Nat.reduceAdd, Nat.reduceMul, Nat.reduceLT, Nat.reduceLeDiff, reduceCtorEq, decide_true, decide_false, Int.reduceLE, Int.reduceLT, Int.reduceToNat, Int.reduceAdd, Int.reduceSub, Int.reduceMul, Int.reduceEq]
  refine call_of (trim_ok b) ?_
  have hshort : ∀ n : Nat, ((((nb n).length : Nat) : Int) < 8) = ((nb n).length < 8) := fun n => propext (by omega)
  simp only [↓R1, R2, R3, R4, TY, reduceIte, Nat.reduceEqDiff, Nat.reduceAdd, Nat.reduceMul, Nat.reduceLT, Nat.reduceLeDiff, reduceCtorEq, decide_true, decide_false, Int.reduceLE, Int.reduceLT, Int.reduceToNat, Int.reduceAdd, Int.reduceSub, Int.reduceMul, Int.reduceEq, S_size, hshort]
  refine ⟨fun h1 => ⟨fun h2 => ?_, fun h2 => ?_⟩, fun h1 => ?_⟩
  · have l1 := nb_len_le.1 (show (nb (nv a)).length ≤ 7 by omega)
    have l2 := nb_len_le.1 (show (nb (nv b)).length ≤ 7 by omega)
    refine call_of (short_ok (l := nb (nv a)) (by omega)) ?_
    simp only [↓R1, R2, R3, R4, TY, reduceIte, Nat.reduceEqDiff, Nat.reduceAdd, Nat.reduceMul, Nat.reduceLT, Nat.reduceLeDiff, reduceCtorEq, decide_true, decide_false, Int.reduceLE, Int.reduceLT, Int.reduceToNat, Int.reduceAdd, Int.reduceSub, Int.reduceMul, Int.reduceEq]
    refine call_of (short_ok (l := nb (nv b)) (by omega)) ?_
    simp only [↓R1, R2, R3, R4, TY, reduceIte, Nat.reduceEqDiff, Nat.reduceAdd, Nat.reduceMul, Nat.reduceLT, Nat.reduceLeDiff, reduceCtorEq, decide_true, decide_false, Int.reduceLE, Int.reduceLT, Int.reduceToNat, Int.reduceAdd, Int.reduceSub, Int.reduceMul, Int.reduceEq, nv_nb, UN]
    refine call_of (fromShort_ok (Nat.mod_lt _ (by omega))) ?_
    simp only [↓R1, R2, R3, R4, TY, reduceIte, Nat.reduceEqDiff, Nat.reduceAdd, Nat.reduceMul, Nat.reduceLT, Nat.reduceLeDiff, reduceCtorEq, decide_true, decide_false, Int.reduceLE, Int.reduceLT, Int.reduceToNat, Int.reduceAdd, Int.reduceSub, Int.reduceMul, Int.reduceEq]
    refine Ended.back hA (Xt.refl _) ?_ (RB.string _)
    rw [Nat.mod_eq_of_lt (by omega)]
  all_goals
    have xa := wds_len_le (n := nv a) (by omega)
    have xb := wds_len_le (n := nv b) (by omega)
    refine call_of (words_ok (l := nb (nv a)) (by rw [nv_nb]; omega)) ?_
    simp only [↓R1, R2, R3, R4, TY, reduceIte, Nat.reduceEqDiff, Nat.reduceAdd, Nat.reduceMul, Nat.reduceLT, Nat.reduceLeDiff, reduceCtorEq, decide_true, decide_false, Int.reduceLE, Int.reduceLT, Int.reduceToNat, Int.reduceAdd, Int.reduceSub, Int.reduceMul, Int.reduceEq]
    refine call_of (words_ok (l := nb (nv b)) (by rw [nv_nb]; omega)) ?_
    rw [nv_nb, nv_nb]
    have ka := wds_w32 (nv a)
    have kb := wds_w32 (nv b)
    have va := wv_wds (nv a)
    have vb := wv_wds (nv b)
    generalize wds (nv a) = as_ at xa ka va ⊢
    generalize wds (nv b) = bs at xb kb vb ⊢
    generalize hH : Hp.push _ (Blk.row (wc bs) 0 1) = H
    have hHn : H.next = A.next + 2 := by rw [← hH]; rfl
    have hHa : H.blk A.next = some (.row (wc as_) 0 1) := by rw [← hH]; simp [Hp.push_blk]
    have hHb : H.blk (A.next + 1) = some (.row (wc bs) 0 1) := by rw [← hH]; simp [Hp.push_blk]
    have hHx : Xt A.next A H := by rw [← hH]; exact ((Xt.refl A).push _).push _
    simp only [↓R1, R2, R3, R4, TY, reduceIte, Nat.reduceEqDiff, Nat.reduceAdd, Nat.reduceMul, Nat.reduceLT, Nat.reduceLeDiff, reduceCtorEq, decide_true, decide_false, Int.reduceLE, Int.reduceLT, Int.reduceToNat, Int.reduceAdd, Int.reduceSub, Int.reduceMul, Int.reduceEq, Hp.push_next]
    refine ⟨fun hlt => ?_, fun hlt => ?_⟩
    · have w1 : IntKind.i64.wrap ((bs.length : Int) + 1) = ((bs.length + 1 : Nat) : Int) := by rw [wrapI (by omega)]; omega
      have w4 : ((4 : Nat) : Int) * ((bs.length + 1 : Nat) : Int) ≤ 281474976710656 := by omega
      have w5 : ((bs.length + 1 : Nat) : Int) ≤ 9223372036854775807 := by omega
      have w6 : (0 : Int) ≤ ((bs.length + 1 : Nat) : Int) := by omega
      simp only [↓R1, R2, R3, R4, TY, reduceIte, Nat.reduceEqDiff, Nat.reduceAdd, Nat.reduceMul, Nat.reduceLT, Nat.reduceLeDiff, reduceCtorEq, decide_true, decide_false, Int.reduceLE, Int.reduceLT, Int.reduceToNat, Int.reduceAdd, Int.reduceSub, Int.reduceMul, Int.reduceEq, w1, w4, w5, w6, hHn]
      refine range_of 46 bs.length (fun j τ B => ∃ (rs : List Nat) (cy : Nat), Xt H.next H B ∧ B.next = A.next + 3 ∧ B.blk (A.next + 2) = some (.row (wc (rs ++ List.replicate (bs.length + 1 - j) 0)) 0 1) ∧ rs.length = j ∧ W32 rs ∧ cy ≤ 1 ∧ wv rs + 4294967296 ^ j * cy = wv (bs.take j) + wv (as_.take j) ∧
        τ 5 = some (.slice (some ⟨A.next + 1, 0, some 0⟩) bs.length bs.length) ∧ τ 6 = some (.slice (some ⟨A.next, 0, some 0⟩) as_.length as_.length) ∧ τ 7 = some (.slice (some ⟨A.next + 2, 0, some 0⟩) (bs.length + 1) (bs.length + 1)) ∧ τ 8 = some (.int .u64 (cy : Nat)) ∧ τ 44 = some (.slice (some ⟨A.next + 1, 0, some 0⟩) bs.length bs.length) ∧ τ 45 = some (.int .i64 bs.length) ∧ τ 46 = some (.int .i64 j)) ?_ ?_
      · refine ⟨[], 0, (Xt.refl H).push _, by rw [Hp.push_next, hHn], ?_, rfl, by intro w hw; simp at hw, by omega, by simp [wv], rfl, rfl, rfl, rfl, rfl, rfl, rfl⟩
        rw [Hp.push_blk, if_pos hHn.symm, zl_one, wc_zeros]; rfl
      rintro j τ B hj ⟨rs, cy, hx, hn1, hb, hrl, hrw, hcy, hsum, q5, q6, q7, q8, q44, q45, q46⟩
      simp only [↓R1, R2, R3, R4, TY, reduceIte, Nat.reduceEqDiff, Nat.reduceAdd, Nat.reduceMul, Nat.reduceLT, Nat.reduceLeDiff, reduceCtorEq, decide_true, decide_false, Int.reduceLE, Int.reduceLT, Int.reduceToNat, Int.reduceAdd, Int.reduceSub, Int.reduceMul, Int.reduceEq, q5, q6, q7, q8, q44, q45, q46]
      have hfl : fl ≤ A.next := hA.floor
      have hfl2 : fl ≤ A.next + 2 := by omega
      have hbx : B.blk (A.next + 1) = some (.row (wc bs) 0 1) := by rw [hx.blk _ (by omega)]; exact hHb
      have hby : B.blk (A.next) = some (.row (wc as_) 0 1) := by rw [hx.blk _ (by omega)]; exact hHa
      refine ⟨fun hl2 => ?_, fun hl2 => ?_⟩
      · have hj63 : j < 9223372036854775807 := by omega
        have hgx : B.get G ⟨A.next + 1, j, some 0⟩ = some (.int .u32 (bs[j] : Nat)) := by simp only [Hp.get, hbx, if_true]; exact wc_get hl2
        have hx32 : bs[j] < 4294967296 := kb _ (List.getElem_mem hl2)
        have hlen : (wc (rs ++ List.replicate (bs.length + 1 - j) 0)).length = bs.length + 1 := by rw [wc_length, List.length_append, List.length_replicate, hrl]; omega
        have hj1 : j + 1 ≤ bs.length + 1 := by omega
        have hj2 : j < bs.length + 1 := by omega
        have m1 : bs[j] % 18446744073709551616 = bs[j] := Nat.mod_eq_of_lt (by omega)
        have m2 : (cy + bs[j]) % 18446744073709551616 = cy + bs[j] := Nat.mod_eq_of_lt (by omega)
        by_cases hy : j < as_.length
        · have hgy : B.get G ⟨A.next, j, some 0⟩ = some (.int .u32 (as_[j] : Nat)) := by simp only [Hp.get, hby, if_true]; exact wc_get hy
          have hy32 : as_[j] < 4294967296 := ka _ (List.getElem_mem hy)
          have m3 : as_[j] % 18446744073709551616 = as_[j] := Nat.mod_eq_of_lt (by omega)
          have m4 : (cy + bs[j] + as_[j]) % 18446744073709551616 = cy + bs[j] + as_[j] := Nat.mod_eq_of_lt (by omega)
          simp only [↓R1, R2, R3, R4, TY, reduceIte, Nat.reduceEqDiff, Nat.reduceAdd, Nat.reduceMul, Nat.reduceLT, Nat.reduceLeDiff, reduceCtorEq, decide_true, decide_false, Int.reduceLE, Int.reduceLT, Int.reduceToNat, Int.reduceAdd, Int.reduceSub, Int.reduceMul, Int.reduceEq, q5, q6, q7, q8, q44, q45, q46, hl2, hj63, hgx, hgy, hy, hb, hlen, hj1, hj2, hfl2, m1, m2, m3, m4, UN]
          refine range_on q46 hl2 rfl ⟨rs ++ [(cy + bs[j] + as_[j]) % 4294967296], (cy + bs[j] + as_[j]) / 2 ^ 32, hx.put (by omega) _, hn1, ?_, by simp [hrl], ?_, by omega, ?_, q5, q6, q7, rfl, q44, q45, rfl⟩
          · simp only [Hp.put_blk, if_true]
            rw [wc_set, show bs.length + 1 - j = (bs.length + 1 - (j + 1)) + 1 by omega, List.replicate_succ, set_snoc hrl]
          · intro w hw
            rcases List.mem_append.1 hw with h | h
            · exact hrw w h
            · rw [List.mem_singleton.1 h]; exact Nat.mod_lt _ (by omega)
          · rw [wv_snoc, hrl, wv_take_succ hl2, wv_take_succ hy, Nat.pow_succ]
            have e := Nat.div_add_mod (cy + bs[j] + as_[j]) 4294967296
            have e2 : (2 : Nat) ^ 32 = 4294967296 := by decide
            rw [e2]
            generalize (cy + bs[j] + as_[j]) / 4294967296 = d at e ⊢
            generalize (cy + bs[j] + as_[j]) % 4294967296 = r at e ⊢
            generalize (4294967296 : Nat) ^ j = p at hsum ⊢
            have : p * r + p * 4294967296 * d = p * cy + p * bs[j] + p * as_[j] := by rw [← Nat.mul_add, ← Nat.mul_add, ← e, Nat.mul_add, Nat.mul_assoc]; omega
            omega
        · simp only [↓R1, R2, R3, R4, TY, reduceIte, Nat.reduceEqDiff, Nat.reduceAdd, Nat.reduceMul, Nat.reduceLT, Nat.reduceLeDiff, reduceCtorEq, decide_true, decide_false, Int.reduceLE, Int.reduceLT, Int.reduceToNat, Int.reduceAdd, Int.reduceSub, Int.reduceMul, Int.reduceEq, q5, q6, q7, q8, q44, q45, q46, hl2, hj63, hgx, hy, hb, hlen, hj1, hj2, hfl2, m1, m2, UN]
          refine range_on q46 hl2 rfl ⟨rs ++ [(cy + bs[j]) % 4294967296], (cy + bs[j]) / 2 ^ 32, hx.put (by omega) _, hn1, ?_, by simp [hrl], ?_, by omega, ?_, q5, q6, q7, rfl, q44, q45, rfl⟩
          · simp only [Hp.put_blk, if_true]
            rw [wc_set, show bs.length + 1 - j = (bs.length + 1 - (j + 1)) + 1 by omega, List.replicate_succ, set_snoc hrl]
          · intro w hw
            rcases List.mem_append.1 hw with h | h
            · exact hrw w h
            · rw [List.mem_singleton.1 h]; exact Nat.mod_lt _ (by omega)
          · rw [List.take_of_length_le (show as_.length ≤ j by omega)] at hsum
            rw [wv_snoc, hrl, wv_take_succ hl2, List.take_of_length_le (show as_.length ≤ j + 1 by omega), Nat.pow_succ]
            have e := Nat.div_add_mod (cy + bs[j]) 4294967296
            have e2 : (2 : Nat) ^ 32 = 4294967296 := by decide
            rw [e2]
            generalize (cy + bs[j]) / 4294967296 = d at e ⊢
            generalize (cy + bs[j]) % 4294967296 = r at e ⊢
            generalize (4294967296 : Nat) ^ j = p at hsum ⊢
            have : p * r + p * 4294967296 * d = p * cy + p * bs[j] := by rw [← Nat.mul_add, ← e, Nat.mul_add, Nat.mul_assoc]; omega
            omega
      · obtain rfl : j = bs.length := by omega
        have hlen : (wc (rs ++ List.replicate (bs.length + 1 - bs.length) 0)).length = bs.length + 1 := by rw [wc_length, List.length_append, List.length_replicate, hrl]; omega
        have hj2 : bs.length < bs.length + 1 := by omega
        simp only [↓R1, R2, R3, R4, TY, reduceIte, Nat.reduceEqDiff, Nat.reduceAdd, Nat.reduceMul, Nat.reduceLT, Nat.reduceLeDiff, reduceCtorEq, decide_true, decide_false, Int.reduceLE, Int.reduceLT, Int.reduceToNat, Int.reduceAdd, Int.reduceSub, Int.reduceMul, Int.reduceEq, q5, q6, q7, q8, q44, q45, q46, hb, hlen, hfl2, hj2, UN]
        have hrow : (wc (rs ++ List.replicate (bs.length + 1 - bs.length) 0)).set bs.length (.int .u32 ((cy % 4294967296 : Nat) : Int)) = wc (rs ++ [cy]) := by
          rw [wc_set, show bs.length + 1 - bs.length = 0 + 1 by omega, List.replicate_succ, set_snoc hrl, Nat.mod_eq_of_lt (by omega)]; simp
        rw [hrow]
        generalize hD : Hp.put _ _ _ = D
        have hDb : D.blk (A.next + 2) = some (.row (wc (rs ++ [cy])) 0 1) := by rw [← hD]; simp [Hp.put_blk]
        have hDx : Xt A.next A D := by rw [← hD]; exact (hHx.trans hx).put (by omega) _
        refine call_of (text_ok (ws := rs ++ [cy]) (by simp; omega) (fun w hw => ?_) (sl_row hDb (by simp [hrl]))) ?_
        · rcases List.mem_append.1 hw with h | h
          · exact hrw w h
          · rw [List.mem_singleton.1 h]; omega
        simp only [↓R1, R2, R3, R4, TY, reduceIte, Nat.reduceEqDiff, Nat.reduceAdd, Nat.reduceMul, Nat.reduceLT, Nat.reduceLeDiff, reduceCtorEq, decide_true, decide_false, Int.reduceLE, Int.reduceLT, Int.reduceToNat, Int.reduceAdd, Int.reduceSub, Int.reduceMul, Int.reduceEq]
        refine Ended.back hA hDx ?_ (RB.string _)
        have hv : wv (rs ++ [cy]) = nv a + nv b := by
          rw [wv_snoc, hrl, hsum, List.take_length, List.take_of_length_le (show as_.length ≤ bs.length by omega)]; omega
        rw [hv]
    · have w1 : IntKind.i64.wrap ((as_.length : Int) + 1) = ((as_.length + 1 : Nat) : Int) := by rw [wrapI (by omega)]; omega
      have w4 : ((4 : Nat) : Int) * ((as_.length + 1 : Nat) : Int) ≤ 281474976710656 := by omega
      have w5 : ((as_.length + 1 : Nat) : Int) ≤ 9223372036854775807 := by omega
      have w6 : (0 : Int) ≤ ((as_.length + 1 : Nat) : Int) := by omega
      simp only [↓R1, R2, R3, R4, TY, reduceIte, Nat.reduceEqDiff, Nat.reduceAdd, Nat.reduceMul, Nat.reduceLT, Nat.reduceLeDiff, reduceCtorEq, decide_true, decide_false, Int.reduceLE, Int.reduceLT, Int.reduceToNat, Int.reduceAdd, Int.reduceSub, Int.reduceMul, Int.reduceEq, w1, w4, w5, w6, hHn]
      refine range_of 46 as_.length (fun j τ B => ∃ (rs : List Nat) (cy : Nat), Xt H.next H B ∧ B.next = A.next + 3 ∧ B.blk (A.next + 2) = some (.row (wc (rs ++ List.replicate (as_.length + 1 - j) 0)) 0 1) ∧ rs.length = j ∧ W32 rs ∧ cy ≤ 1 ∧ wv rs + 4294967296 ^ j * cy = wv (as_.take j) + wv (bs.take j) ∧
        τ 5 = some (.slice (some ⟨A.next, 0, some 0⟩) as_.length as_.length) ∧ τ 6 = some (.slice (some ⟨A.next + 1, 0, some 0⟩) bs.length bs.length) ∧ τ 7 = some (.slice (some ⟨A.next + 2, 0, some 0⟩) (as_.length + 1) (as_.length + 1)) ∧ τ 8 = some (.int .u64 (cy : Nat)) ∧ τ 44 = some (.slice (some ⟨A.next, 0, some 0⟩) as_.length as_.length) ∧ τ 45 = some (.int .i64 as_.length) ∧ τ 46 = some (.int .i64 j)) ?_ ?_
      · refine ⟨[], 0, (Xt.refl H).push _, by rw [Hp.push_next, hHn], ?_, rfl, by intro w hw; simp at hw, by omega, by simp [wv], rfl, rfl, rfl, rfl, rfl, rfl, rfl⟩
        rw [Hp.push_blk, if_pos hHn.symm, zl_one, wc_zeros]; rfl
      rintro j τ B hj ⟨rs, cy, hx, hn1, hb, hrl, hrw, hcy, hsum, q5, q6, q7, q8, q44, q45, q46⟩
      simp only [↓R1, R2, R3, R4, TY, reduceIte, Nat.reduceEqDiff, Nat.reduceAdd, Nat.reduceMul, Nat.reduceLT, Nat.reduceLeDiff, reduceCtorEq, decide_true, decide_false, Int.reduceLE, Int.reduceLT, Int.reduceToNat, Int.reduceAdd, Int.reduceSub, Int.reduceMul, Int.reduceEq, q5, q6, q7, q8, q44, q45, q46]
      have hfl : fl ≤ A.next := hA.floor
      have hfl2 : fl ≤ A.next + 2 := by omega
      have hbx : B.blk (A.next) = some (.row (wc as_) 0 1) := by rw [hx.blk _ (by omega)]; exact hHa
      have hby : B.blk (A.next + 1) = some (.row (wc bs) 0 1) := by rw [hx.blk _ (by omega)]; exact hHb
      refine ⟨fun hl2 => ?_, fun hl2 => ?_⟩
      · have hj63 : j < 9223372036854775807 := by omega
        have hgx : B.get G ⟨A.next, j, some 0⟩ = some (.int .u32 (as_[j] : Nat)) := by simp only [Hp.get, hbx, if_true]; exact wc_get hl2
        have hx32 : as_[j] < 4294967296 := ka _ (List.getElem_mem hl2)
        have hlen : (wc (rs ++ List.replicate (as_.length + 1 - j) 0)).length = as_.length + 1 := by rw [wc_length, List.length_append, List.length_replicate, hrl]; omega
        have hj1 : j + 1 ≤ as_.length + 1 := by omega
        have hj2 : j < as_.length + 1 := by omega
        have m1 : as_[j] % 18446744073709551616 = as_[j] := Nat.mod_eq_of_lt (by omega)
        have m2 : (cy + as_[j]) % 18446744073709551616 = cy + as_[j] := Nat.mod_eq_of_lt (by omega)
        by_cases hy : j < bs.length
        · have hgy : B.get G ⟨A.next + 1, j, some 0⟩ = some (.int .u32 (bs[j] : Nat)) := by simp only [Hp.get, hby, if_true]; exact wc_get hy
          have hy32 : bs[j] < 4294967296 := kb _ (List.getElem_mem hy)
          have m3 : bs[j] % 18446744073709551616 = bs[j] := Nat.mod_eq_of_lt (by omega)
          have m4 : (cy + as_[j] + bs[j]) % 18446744073709551616 = cy + as_[j] + bs[j] := Nat.mod_eq_of_lt (by omega)
          simp only [↓R1, R2, R3, R4, TY, reduceIte, Nat.reduceEqDiff, Nat.reduceAdd, Nat.reduceMul, Nat.reduceLT, Nat.reduceLeDiff, reduceCtorEq, decide_true, decide_false, Int.reduceLE, Int.reduceLT, Int.reduceToNat, Int.reduceAdd, Int.reduceSub, Int.reduceMul, Int.reduceEq, q5, q6, q7, q8, q44, q45, q46, hl2, hj63, hgx, hgy, hy, hb, hlen, hj1, hj2, hfl2, m1, m2, m3, m4, UN]
          refine range_on q46 hl2 rfl ⟨rs ++ [(cy + as_[j] + bs[j]) % 4294967296], (cy + as_[j] + bs[j]) / 2 ^ 32, hx.put (by omega) _, hn1, ?_, by simp [hrl], ?_, by omega, ?_, q5, q6, q7, rfl, q44, q45, rfl⟩
          · simp only [Hp.put_blk, if_true]
            rw [wc_set, show as_.length + 1 - j = (as_.length + 1 - (j + 1)) + 1 by omega, List.replicate_succ, set_snoc hrl]
          · intro w hw
            rcases List.mem_append.1 hw with h | h
            · exact hrw w h
            · rw [List.mem_singleton.1 h]; exact Nat.mod_lt _ (by omega)
          · rw [wv_snoc, hrl, wv_take_succ hl2, wv_take_succ hy, Nat.pow_succ]
            have e := Nat.div_add_mod (cy + as_[j] + bs[j]) 4294967296
            have e2 : (2 : Nat) ^ 32 = 4294967296 := by decide
            rw [e2]
            generalize (cy + as_[j] + bs[j]) / 4294967296 = d at e ⊢
            generalize (cy + as_[j] + bs[j]) % 4294967296 = r at e ⊢
            generalize (4294967296 : Nat) ^ j = p at hsum ⊢
            have : p * r + p * 4294967296 * d = p * cy + p * as_[j] + p * bs[j] := by rw [← Nat.mul_add, ← Nat.mul_add, ← e, Nat.mul_add, Nat.mul_assoc]; omega
            omega
        · simp only [↓R1, R2, R3, R4, TY, reduceIte, Nat.reduceEqDiff, Nat.reduceAdd, Nat.reduceMul, Nat.reduceLT, Nat.reduceLeDiff, reduceCtorEq, decide_true, decide_false, Int.reduceLE, Int.reduceLT, Int.reduceToNat, Int.reduceAdd, Int.reduceSub, Int.reduceMul, Int.reduceEq, q5, q6, q7, q8, q44, q45, q46, hl2, hj63, hgx, hy, hb, hlen, hj1, hj2, hfl2, m1, m2, UN]
          refine range_on q46 hl2 rfl ⟨rs ++ [(cy + as_[j]) % 4294967296], (cy + as_[j]) / 2 ^ 32, hx.put (by omega) _, hn1, ?_, by simp [hrl], ?_, by omega, ?_, q5, q6, q7, rfl, q44, q45, rfl⟩
          · simp only [Hp.put_blk, if_true]
            rw [wc_set, show as_.length + 1 - j = (as_.length + 1 - (j + 1)) + 1 by omega, List.replicate_succ, set_snoc hrl]
          · intro w hw
            rcases List.mem_append.1 hw with h | h
            · exact hrw w h
            · rw [List.mem_singleton.1 h]; exact Nat.mod_lt _ (by omega)
          · rw [List.take_of_length_le (show bs.length ≤ j by omega)] at hsum
            rw [wv_snoc, hrl, wv_take_succ hl2, List.take_of_length_le (show bs.length ≤ j + 1 by omega), Nat.pow_succ]
            have e := Nat.div_add_mod (cy + as_[j]) 4294967296
            have e2 : (2 : Nat) ^ 32 = 4294967296 := by decide
            rw [e2]
            generalize (cy + as_[j]) / 4294967296 = d at e ⊢
            generalize (cy + as_[j]) % 4294967296 = r at e ⊢
            generalize (4294967296 : Nat) ^ j = p at hsum ⊢
            have : p * r + p * 4294967296 * d = p * cy + p * as_[j] := by rw [← Nat.mul_add, ← e, Nat.mul_add, Nat.mul_assoc]; omega
            omega
      · obtain rfl : j = as_.length := by omega
        have hlen : (wc (rs ++ List.replicate (as_.length + 1 - as_.length) 0)).length = as_.length + 1 := by rw [wc_length, List.length_append, List.length_replicate, hrl]; omega
        have hj2 : as_.length < as_.length + 1 := by omega
        simp only [↓R1, R2, R3, R4, TY, reduceIte, Nat.reduceEqDiff, Nat.reduceAdd, Nat.reduceMul, Nat.reduceLT, Nat.reduceLeDiff, reduceCtorEq, decide_true, decide_false, Int.reduceLE, Int.reduceLT, Int.reduceToNat, Int.reduceAdd, Int.reduceSub, Int.reduceMul, Int.reduceEq, q5, q6, q7, q8, q44, q45, q46, hb, hlen, hfl2, hj2, UN]
        have hrow : (wc (rs ++ List.replicate (as_.length + 1 - as_.length) 0)).set as_.length (.int .u32 ((cy % 4294967296 : Nat) : Int)) = wc (rs ++ [cy]) := by
          rw [wc_set, show as_.length + 1 - as_.length = 0 + 1 by omega, List.replicate_succ, set_snoc hrl, Nat.mod_eq_of_lt (by omega)]; simp
        rw [hrow]
        generalize hD : Hp.put _ _ _ = D
        have hDb : D.blk (A.next + 2) = some (.row (wc (rs ++ [cy])) 0 1) := by rw [← hD]; simp [Hp.put_blk]
        have hDx : Xt A.next A D := by rw [← hD]; exact (hHx.trans hx).put (by omega) _
        refine call_of (text_ok (ws := rs ++ [cy]) (by simp; omega) (fun w hw => ?_) (sl_row hDb (by simp [hrl]))) ?_
        · rcases List.mem_append.1 hw with h | h
          · exact hrw w h
          · rw [List.mem_singleton.1 h]; omega
        simp only [↓R1, R2, R3, R4, TY, reduceIte, Nat.reduceEqDiff, Nat.reduceAdd, Nat.reduceMul, Nat.reduceLT, Nat.reduceLeDiff, reduceCtorEq, decide_true, decide_false, Int.reduceLE, Int.reduceLT, Int.reduceToNat, Int.reduceAdd, Int.reduceSub, Int.reduceMul, Int.reduceEq]
        refine Ended.back hA hDx ?_ (RB.string _)
        have hv : wv (rs ++ [cy]) = nv a + nv b := by
          rw [wv_snoc, hrl, hsum, List.take_length, List.take_of_length_le (show bs.length ≤ as_.length by omega)]; omega
        rw [hv]
end
end Go.Proofs.YtpaffoiiipgkeaaDoor.Ab
