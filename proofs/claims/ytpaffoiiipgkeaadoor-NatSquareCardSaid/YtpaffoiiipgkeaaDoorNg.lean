/- Numbers: Mul. -/
import Derived.Test.YtpaffoiiipgkeaaDoorNf
namespace Go.Proofs.YtpaffoiiipgkeaaDoor.Ab
open Go.RowKit
set_option linter.unusedVariables false
set_option linter.unusedSimpArgs false
set_option maxRecDepth 100000

theorem W32.set {l : List Nat} (h : W32 l) {j w : Nat} (hw : w < 4294967296) : W32 (l.set j w) := by
  intro x hx
  rcases List.mem_or_eq_of_mem_set hx with h' | h'
  · exact h x h'
  · rw [h']; exact hw
theorem mul_step {p P x y o c s B : Nat} (hs : s = c + (x * y + o)) (hB : B = 4294967296) {w w' Y V : Nat} (h1 : w' + o * (p * P) = w + s % B * (p * P)) (h2 : w + p * P * c = V + p * (x * Y)) :
    w' + p * (P * B) * (s / B) = V + p * (x * (Y + P * y)) := by
  have e := Nat.div_add_mod s B
  have e2 : p * P * s = p * P * (B * (s / B)) + p * P * (s % B) := by rw [← Nat.mul_add, e]
  have e3 : p * P * s = p * P * c + p * P * (x * y) + p * P * o := by rw [hs, Nat.mul_add, Nat.mul_add]; omega
  have e4 : p * (P * B) * (s / B) = p * P * (B * (s / B)) := by simp only [Nat.mul_assoc]
  have e5 : p * (x * (Y + P * y)) = p * (x * Y) + p * P * (x * y) := by
    rw [Nat.mul_add, Nat.mul_add, Nat.mul_assoc p P, Nat.mul_left_comm x P y]
  have e6 : o * (p * P) = p * P * o := Nat.mul_comm _ _
  have e7 : s % B * (p * P) = p * P * (s % B) := Nat.mul_comm _ _
  rw [e4, e5]
  omega

section
variable {G : Gl} {fl : Nat} {A : Hp}

theorem mul_ok {a b : List UInt8} (ha : (nb (nv a)).length ≤ 400000) (hb : (nb (nv b)).length ≤ 400000) : Sound Tryd.prog G 20 [.string (S a), .string (S b)] fl A (.string (S (nb (nv a * nv b)))) A := by
  refine Sound.of mixed Tryd.func20 Tryd.ntmps20 Tryd.results20 (by kernel_rfl) rfl (by kernel_rfl) (by simp) fun hA => ?_
  simp only [↓R1, R2, R3, R4, TY, reduceIte, Nat.reduceEqDiff, Nat.reduceAdd, Nat.reduceMul, Nat.reduceLT, Nat.reduceLeDiff, reduceCtorEq, decide_true, decide_false, Int.reduceLE, Int.reduceLT, Int.reduceToNat, Int.reduceAdd, Int.reduceSub, Int.reduceMul, Int.reduceEq]
  refine call_of (trim_ok a) ?_
  simp only [↓R1, R2, R3, R4, TY, reduceIte, Nat.reduceEqDiff, Nat.reduceAdd, Nat.reduceMul, Nat.reduceLT, Nat.reduceLeDiff, reduceCtorEq, decide_true, decide_false, Int.reduceLE, Int.reduceLT, Int.reduceToNat, Int.reduceAdd, Int.reduceSub, Int.reduceMul, Int.reduceEq]
  refine call_of (trim_ok b) ?_
  have hw0 : IntKind.i64.wrap (((nb (nv a)).length + (nb (nv b)).length : Nat) : Int) = (((nb (nv a)).length + (nb (nv b)).length : Nat) : Int) := wrapI (by omega)
  have hshort : ((((nb (nv a)).length + (nb (nv b)).length : Nat) : Int) ≤ 8) = ((nb (nv a)).length + (nb (nv b)).length ≤ 8) := propext (by omega)
  simp only [↓R1, R2, R3, R4, TY, reduceIte, Nat.reduceEqDiff, Nat.reduceAdd, Nat.reduceMul, Nat.reduceLT, Nat.reduceLeDiff, reduceCtorEq, decide_true, decide_false, Int.reduceLE, Int.reduceLT, Int.reduceToNat, Int.reduceAdd, Int.reduceSub, Int.reduceMul, Int.reduceEq, S_size, UN, hw0, hshort]
  refine ⟨fun h1 => ?_, fun h1 => ?_⟩
  · have l1 := nb_len_le.1 (show (nb (nv a)).length ≤ (nb (nv a)).length from Nat.le_refl _)
    have l2 := nb_len_le.1 (show (nb (nv b)).length ≤ (nb (nv b)).length from Nat.le_refl _)
    have l3 : nv a * nv b < 256 ^ 8 := by
      by_cases hz : nv a * nv b = 0
      · rw [hz]; decide
      · have h3 : nv a * nv b < 256 ^ (nb (nv a)).length * 256 ^ (nb (nv b)).length := Nat.mul_lt_mul'' l1 l2
        rw [← Nat.pow_add] at h3
        exact Nat.lt_of_lt_of_le h3 (Nat.pow_le_pow_right (by omega) h1)
    refine call_of (short_ok (l := nb (nv a)) (by omega)) ?_
    simp only [↓R1, R2, R3, R4, TY, reduceIte, Nat.reduceEqDiff, Nat.reduceAdd, Nat.reduceMul, Nat.reduceLT, Nat.reduceLeDiff, reduceCtorEq, decide_true, decide_false, Int.reduceLE, Int.reduceLT, Int.reduceToNat, Int.reduceAdd, Int.reduceSub, Int.reduceMul, Int.reduceEq]
    refine call_of (short_ok (l := nb (nv b)) (by omega)) ?_
    simp only [↓R1, R2, R3, R4, TY, reduceIte, Nat.reduceEqDiff, Nat.reduceAdd, Nat.reduceMul, Nat.reduceLT, Nat.reduceLeDiff, reduceCtorEq, decide_true, decide_false, Int.reduceLE, Int.reduceLT, Int.reduceToNat, Int.reduceAdd, Int.reduceSub, Int.reduceMul, Int.reduceEq, nv_nb, UN]
    refine call_of (fromShort_ok (Nat.mod_lt _ (by omega))) ?_
    simp only [↓R1, R2, R3, R4, TY, reduceIte, Nat.reduceEqDiff, Nat.reduceAdd, Nat.reduceMul, Nat.reduceLT, Nat.reduceLeDiff, reduceCtorEq, decide_true, decide_false, Int.reduceLE, Int.reduceLT, Int.reduceToNat, Int.reduceAdd, Int.reduceSub, Int.reduceMul, Int.reduceEq]
    refine Ended.back hA (Xt.refl _) ?_ (RB.string _)
    rw [Nat.mod_eq_of_lt (by omega)]
  have xa : (wds (nv a)).length ≤ 250000 := wds_len_le (by omega)
  have xb : (wds (nv b)).length ≤ 250000 := wds_len_le (by omega)
  refine call_of (words_ok (l := nb (nv a)) (by rw [nv_nb]; omega)) ?_
  simp only [↓R1, R2, R3, R4, TY, reduceIte, Nat.reduceEqDiff, Nat.reduceAdd, Nat.reduceMul, Nat.reduceLT, Nat.reduceLeDiff, reduceCtorEq, decide_true, decide_false, Int.reduceLE, Int.reduceLT, Int.reduceToNat, Int.reduceAdd, Int.reduceSub, Int.reduceMul, Int.reduceEq]
  refine call_of (words_ok (l := nb (nv b)) (by rw [nv_nb]; omega)) ?_
  rw [nv_nb, nv_nb]
  have kx := wds_w32 (nv a)
  have ky := wds_w32 (nv b)
  have va := wv_wds (nv a)
  have vb := wv_wds (nv b)
  generalize wds (nv a) = xs at xa kx va ⊢
  generalize wds (nv b) = ys at xb ky vb ⊢
  generalize hH : Hp.push _ (Blk.row (wc ys) 0 1) = H
  have hHn : H.next = A.next + 2 := by rw [← hH]; rfl
  have hHa : H.blk A.next = some (.row (wc xs) 0 1) := by rw [← hH]; simp [Hp.push_blk]
  have hHb : H.blk (A.next + 1) = some (.row (wc ys) 0 1) := by rw [← hH]; simp [Hp.push_blk]
  have hHx : Xt A.next A H := by rw [← hH]; exact ((Xt.refl A).push _).push _
  have w1 : IntKind.i64.wrap ((xs.length + ys.length : Nat) : Int) = ((xs.length + ys.length : Nat) : Int) := wrapI (by omega)
  have w4 : ((4 : Nat) : Int) * ((xs.length + ys.length : Nat) : Int) ≤ 281474976710656 := by omega
  have w4' : 4 * (xs.length + ys.length) ≤ 281474976710656 := by omega
  have w5 : ((xs.length + ys.length : Nat) : Int) ≤ 9223372036854775807 := by omega
  simp only [↓R1, R2, R3, R4, TY, reduceIte, Nat.reduceEqDiff, Nat.reduceAdd, Nat.reduceMul, Nat.reduceLT, Nat.reduceLeDiff, reduceCtorEq, decide_true, decide_false, hHn, Hp.push_next, w1, w4, w5, w4', add_n]
  refine range_of 41 xs.length (fun i τ B => ∃ os : List Nat, Xt H.next H B ∧ B.next = A.next + 3 ∧ B.blk (A.next + 2) = some (.row (wc os) 0 1) ∧ os.length = xs.length + ys.length ∧ W32 os ∧ (∀ q (h : q < os.length), i + ys.length ≤ q → os[q] = 0) ∧ wv os = wv (xs.take i) * wv ys ∧
    τ 6 = some (.slice (some ⟨A.next + 1, 0, some 0⟩) ys.length ys.length) ∧ τ 7 = some (.slice (some ⟨A.next + 2, 0, some 0⟩) (xs.length + ys.length) (xs.length + ys.length)) ∧ τ 39 = some (.slice (some ⟨A.next, 0, some 0⟩) xs.length xs.length) ∧ τ 40 = some (.int .i64 xs.length) ∧ τ 41 = some (.int .i64 i)) ?_ ?_
  · refine ⟨List.replicate (xs.length + ys.length) 0, (Xt.refl H).push _, by rw [Hp.push_next, hHn], ?_, by simp, by intro w hw; rw [(List.mem_replicate.1 hw).2]; omega, by intro q h _; simp, ?_, rfl, rfl, rfl, rfl, rfl⟩
    · rw [Hp.push_blk, if_pos hHn.symm, zl_one, wc_zeros]
    · have := wv_zeros [] (xs.length + ys.length)
      simp [wv] at this ⊢; exact this
  rintro i τ B hi ⟨os, hx, hn1, hb2, hol, how, hoz, hov, q6, q7, q39, q40, q41⟩
  have hfl : fl ≤ A.next := hA.floor
  have hfl2 : fl ≤ A.next + 2 := by omega
  simp only [↓R1, R2, R3, R4, TY, reduceIte, Nat.reduceEqDiff, Nat.reduceAdd, Nat.reduceMul, Nat.reduceLT, Nat.reduceLeDiff, reduceCtorEq, decide_true, decide_false, Int.reduceLE, Int.reduceLT, Int.reduceToNat, Int.reduceAdd, Int.reduceSub, Int.reduceMul, Int.reduceEq, q6, q7, q39, q40, q41]
  refine ⟨fun hlt => ?_, fun hlt => ?_⟩
  rotate_left
  · obtain rfl : i = xs.length := by omega
    refine call_of (text_ok (ws := os) (by omega) how (sl_row hb2 hol)) ?_
    simp only [↓R1, R2, R3, R4, TY, reduceIte, Nat.reduceEqDiff, Nat.reduceAdd, Nat.reduceMul, Nat.reduceLT, Nat.reduceLeDiff, reduceCtorEq, decide_true, decide_false, Int.reduceLE, Int.reduceLT, Int.reduceToNat, Int.reduceAdd, Int.reduceSub, Int.reduceMul, Int.reduceEq]
    refine Ended.back hA (hHx.trans hx) ?_ (RB.string _)
    rw [hov, List.take_length, va, vb]
  have hi63 : i < 9223372036854775807 := by omega
  have hbx : B.blk A.next = some (.row (wc xs) 0 1) := by rw [hx.blk _ (by omega)]; exact hHa
  have hgx : B.get G ⟨A.next, i, some 0⟩ = some (.int .u32 (xs[i] : Nat)) := by simp only [Hp.get, hbx, if_true]; exact wc_get hlt
  have hx32 : xs[i] < 4294967296 := kx _ (List.getElem_mem hlt)
  simp only [↓R1, R2, R3, R4, TY, reduceIte, Nat.reduceEqDiff, Nat.reduceAdd, Nat.reduceMul, Nat.reduceLT, Nat.reduceLeDiff, reduceCtorEq, decide_true, decide_false, Int.reduceLE, Int.reduceLT, Int.reduceToNat, Int.reduceAdd, Int.reduceSub, Int.reduceMul, Int.reduceEq, q6, q7, q39, q40, q41, hlt, hgx]
  refine range_of 48 ys.length (fun k τ C => ∃ (os : List Nat) (cy : Nat), Xt H.next H C ∧ C.next = A.next + 3 ∧ C.blk (A.next + 2) = some (.row (wc os) 0 1) ∧ os.length = xs.length + ys.length ∧ W32 os ∧ (∀ q (h : q < os.length), i + ys.length ≤ q → os[q] = 0) ∧ cy < 4294967296 ∧
    wv os + 4294967296 ^ i * 4294967296 ^ k * cy = wv (xs.take i) * wv ys + 4294967296 ^ i * (xs[i] * wv (ys.take k)) ∧
    τ 6 = some (.slice (some ⟨A.next + 1, 0, some 0⟩) ys.length ys.length) ∧ τ 7 = some (.slice (some ⟨A.next + 2, 0, some 0⟩) (xs.length + ys.length) (xs.length + ys.length)) ∧ τ 8 = some (.int .i64 i) ∧ τ 9 = some (.int .u32 (xs[i] : Nat)) ∧ τ 10 = some (.int .u64 (cy : Nat)) ∧
    τ 39 = some (.slice (some ⟨A.next, 0, some 0⟩) xs.length xs.length) ∧ τ 40 = some (.int .i64 xs.length) ∧ τ 41 = some (.int .i64 i) ∧ τ 46 = some (.slice (some ⟨A.next + 1, 0, some 0⟩) ys.length ys.length) ∧ τ 47 = some (.int .i64 ys.length) ∧ τ 48 = some (.int .i64 k)) ?_ ?_
  · exact ⟨os, 0, hx, hn1, hb2, hol, how, hoz, by omega, by rw [hov]; simp [wv], q6, q7, rfl, rfl, rfl, q39, q40, q41, rfl, rfl, rfl⟩
  clear hov hoz how hol hb2 hn1 hx hbx hgx
  rintro k τ' C hk ⟨os, cy, hx, hn1, hb2, hol, how, hoz, hcy, hov, r6, r7, r8, r9, r10, r39, r40, r41, r46, r47, r48⟩
  simp only [↓R1, R2, R3, R4, TY, reduceIte, Nat.reduceEqDiff, Nat.reduceAdd, Nat.reduceMul, Nat.reduceLT, Nat.reduceLeDiff, reduceCtorEq, decide_true, decide_false, Int.reduceLE, Int.reduceLT, Int.reduceToNat, Int.reduceAdd, Int.reduceSub, Int.reduceMul, Int.reduceEq, r6, r7, r8, r9, r10, r39, r40, r41, r46, r47, r48]
  refine ⟨fun hkl => ?_, fun hkl => ?_⟩
  · have hk63 : k < 9223372036854775807 := by omega
    have hby : C.blk (A.next + 1) = some (.row (wc ys) 0 1) := by rw [hx.blk _ (by omega)]; exact hHb
    have hgy : C.get G ⟨A.next + 1, k, some 0⟩ = some (.int .u32 (ys[k] : Nat)) := by simp only [Hp.get, hby, if_true]; exact wc_get hkl
    have hy32 : ys[k] < 4294967296 := ky _ (List.getElem_mem hkl)
    have hik : i + k < os.length := by omega
    have hik2 : i + k < xs.length + ys.length := by omega
    have hik3 : i + k + 1 ≤ xs.length + ys.length := by omega
    have hgo : C.get G ⟨A.next + 2, i + k, some 0⟩ = some (.int .u32 (os[i + k] : Nat)) := by simp only [Hp.get, hb2, if_true]; exact wc_get hik
    have ho32 : os[i + k] < 4294967296 := how _ (List.getElem_mem hik)
    have hxy : xs[i] * ys[k] ≤ 4294967295 * 4294967295 := Nat.mul_le_mul (by omega) (by omega)
    have v1 : IntKind.i64.wrap ((i + k : Nat) : Int) = ((i + k : Nat) : Int) := wrapI (by omega)
    have m1 : xs[i] % 18446744073709551616 = xs[i] := Nat.mod_eq_of_lt (by omega)
    have m2 : ys[k] % 18446744073709551616 = ys[k] := Nat.mod_eq_of_lt (by omega)
    have m3 : xs[i] * ys[k] % 18446744073709551616 = xs[i] * ys[k] := Nat.mod_eq_of_lt (by omega)
    have m4 : os[i + k] % 18446744073709551616 = os[i + k] := Nat.mod_eq_of_lt (by omega)
    have m5 : (xs[i] * ys[k] + os[i + k]) % 18446744073709551616 = xs[i] * ys[k] + os[i + k] := Nat.mod_eq_of_lt (by omega)
    have m6 : (cy + (xs[i] * ys[k] + os[i + k])) % 18446744073709551616 = cy + (xs[i] * ys[k] + os[i + k]) := Nat.mod_eq_of_lt (by omega)
    have hlen : (wc os).length = xs.length + ys.length := by rw [wc_length, hol]
    simp only [↓R1, R2, R3, R4, TY, reduceIte, Nat.reduceEqDiff, Nat.reduceAdd, Nat.reduceMul, Nat.reduceLT, Nat.reduceLeDiff, reduceCtorEq, decide_true, decide_false, Int.reduceLE, Int.reduceLT, Int.reduceToNat, Int.reduceAdd, Int.reduceSub, Int.reduceMul, Int.reduceEq, r6, r7, r8, r9, r10, r39, r40, r41, r46, r47, r48, hkl, hk63, hgy, hgo, hik2, hik3, v1, m1, m2, m3, m4, m5, m6, hb2, hfl2, hlen, UN]
    refine range_on r48 hkl rfl ⟨os.set (i + k) ((cy + (xs[i] * ys[k] + os[i + k])) % 4294967296), (cy + (xs[i] * ys[k] + os[i + k])) / 2 ^ 32, hx.put (by omega) _, hn1, ?_, by simpa using hol, how.set (Nat.mod_lt _ (by omega)), ?_, by omega, ?_, r6, r7, r8, r9, rfl, r39, r40, r41, r46, r47, rfl⟩
    · simp only [Hp.put_blk, if_true]; rw [wc_set]
    · intro q h hq
      rw [List.getElem_set, if_neg (by omega)]
      exact hoz q (by simpa using h) hq
    · rw [wv_take_succ hkl, Nat.pow_succ]
      have h1 := wv_set os (i + k) ((cy + (xs[i] * ys[k] + os[i + k])) % 4294967296) hik
      rw [Nat.pow_add] at h1
      exact mul_step rfl rfl h1 hov
  · obtain rfl : k = ys.length := by omega
    have hik : i + ys.length < os.length := by omega
    have hik2 : i + ys.length < xs.length + ys.length := by omega
    have hik3 : i + ys.length + 1 ≤ xs.length + ys.length := by omega
    have v1 : IntKind.i64.wrap ((i + ys.length : Nat) : Int) = ((i + ys.length : Nat) : Int) := wrapI (by omega)
    have hlen : (wc os).length = xs.length + ys.length := by rw [wc_length, hol]
    have m1 : cy % 4294967296 = cy := Nat.mod_eq_of_lt hcy
    simp only [↓R1, R2, R3, R4, TY, reduceIte, Nat.reduceEqDiff, Nat.reduceAdd, Nat.reduceMul, Nat.reduceLT, Nat.reduceLeDiff, reduceCtorEq, decide_true, decide_false, Int.reduceLE, Int.reduceLT, Int.reduceToNat, Int.reduceAdd, Int.reduceSub, Int.reduceMul, Int.reduceEq, r6, r7, r8, r9, r10, r39, r40, r41, r46, r47, r48, hi63, hik2, hik3, v1, m1, hb2, hfl2, hlen, UN]
    refine range_on q41 hlt rfl ⟨os.set (i + ys.length) cy, hx.put (by omega) _, hn1, ?_, by simpa using hol, how.set hcy, ?_, ?_, r6, r7, r39, r40, rfl⟩
    · simp only [Hp.put_blk, if_true]; rw [wc_set]
    · intro q h hq
      rw [List.getElem_set, if_neg (by omega)]
      exact hoz q (by simpa using h) (by omega)
    · have h1 := wv_set os (i + ys.length) cy hik
      rw [hoz _ hik (Nat.le_refl _), Nat.zero_mul, Nat.add_zero, Nat.pow_add] at h1
      rw [List.take_length] at hov
      rw [h1, wv_take_succ hlt, Nat.add_mul, Nat.mul_assoc (4294967296 ^ i) xs[i], ← hov, Nat.mul_comm cy]
end
end Go.Proofs.YtpaffoiiipgkeaaDoor.Ab
