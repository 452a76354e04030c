/- Division of numbers of any length. -/
import Derived.Test.YthclikeipdplpaaDoorOf
import Derived.Test.YthclikeipdplpaaDoorNk
import Derived.Test.YthclikeipdplpaaDoorRf
namespace Go.Proofs.YthclikeipdplpaaDoor.Ab
open Go.RowKit
set_option linter.unusedVariables false
set_option linter.unusedSimpArgs false
set_option maxRecDepth 100000

theorem divy_step {w r B q V y : Nat} (h : q * y + r = V) : ((r * B + w) / y + B * q) * y + (r * B + w) % y = w + B * V := by
  have e := Nat.div_add_mod (r * B + w) y
  rw [Nat.add_mul, ← h, Nat.mul_add, Nat.mul_assoc, Nat.mul_comm B r, Nat.mul_comm _ y]
  omega
theorem nb_ge {n : Nat} (h : n ≠ 0) : 256 ^ ((nb n).length - 1) ≤ n := by
  have h1 : (nb n).length ≠ 0 := fun h2 => h (nb_eq_nil.1 (List.length_eq_zero_iff.1 h2))
  have h2 := mt (nb_len_le (n := n) (k := (nb n).length - 1)).2 (by omega)
  omega
theorem wds_top {n : Nat} (h : n ≠ 0) : ∃ t, (wds n)[(wds n).length - 1]? = some t ∧ 1 ≤ t := by
  have h1 : (nb n).length ≠ 0 := fun h2 => h (nb_eq_nil.1 (List.length_eq_zero_iff.1 h2))
  refine ⟨n / 4294967296 ^ ((wds n).length - 1) % 4294967296, wl_get (by rw [wds_length]; omega), ?_⟩
  have h2 := nb_ge h
  have h3 := nb_len_le.1 (Nat.le_refl (nb n).length)
  have h4 : (256 : Nat) ^ (nb n).length ≤ 4294967296 ^ ((wds n).length - 1) * 4294967296 := by
    rw [← Nat.pow_succ, ← pow256_4, wds_length]
    exact Nat.pow_le_pow_right (by omega) (by omega)
  have h5 : 4294967296 ^ ((wds n).length - 1) ≤ (256 : Nat) ^ ((nb n).length - 1) := by
    rw [← pow256_4, wds_length]
    exact Nat.pow_le_pow_right (by omega) (by omega)
  have hp : 0 < (4294967296 : Nat) ^ ((wds n).length - 1) := Nat.pow_pos (by omega)
  rw [Nat.mod_eq_of_lt (by rw [Nat.div_lt_iff_lt_mul hp, Nat.mul_comm]; omega), Nat.le_div_iff_mul_le hp]
  omega

section
variable {G : Gl} {fl : Nat} {A : Hp}

set_option maxHeartbeats 4000000 in
theorem divG {m n : Nat} (hm : (nb m).length ≤ 400000) (hn : (nb n).length ≤ 400000) (h0 : n ≠ 0) :
    Sound Tryd.prog G 114 [.string (S (nb m)), .string (S (nb n))] fl A (.tuple [Value.string (S (nb (m / n))), .string (S (nb (m % n))), .int .i64 0].toArray) A := by
  by_cases hsm : m < 18446744073709551616 ∧ n < 18446744073709551616
  · exact divN hsm.1 hsm.2 h0
  refine Sound.of mixed Tryd.func114 Tryd.ntmps114 Tryd.results114 (by kernel_rfl) rfl (by kernel_rfl) (by simp) fun hA => ?_
  have hfl := hA.floor
  have fin3 : ∀ (u v : List UInt8) (C : Hp) (r : Value), Xt A.next A C → r = (.tuple [Value.string (S u), .string (S v), .int .i64 0].toArray) → Ended A r C (.tuple [Value.string (S u), .string (S v), .int .i64 0].toArray) A := fun u v C r hx hr =>
    Ended.back hA hx hr (RB.tuple fun w hw => by
      simp only [List.mem_cons, List.not_mem_nil, or_false] at hw
      rcases hw with rfl | rfl | rfl
      · exact RB.string _
      · exact RB.string _
      · exact RB.int _ _)
  have hz : (n = 0) = False := eq_false h0
  have h8 : (m < 18446744073709551616 ∧ n < 18446744073709551616) = False := eq_false hsm
  simp only [↓R1, R2, R3, R4, TY, reduceIte, Nat.reduceEqDiff, Nat.reduceAdd, Nat.reduceMul, Nat.reduceLT, Nat.reduceLeDiff, reduceCtorEq, decide_true, decide_false, Int.reduceLE, Int.reduceLT, Int.reduceToNat, Int.reduceAdd, Int.reduceSub, Int.reduceMul, Int.reduceEq]
  refine call_of (trim_ok _) ?_
  simp only [↓R1, R2, R3, R4, TY, reduceIte, Nat.reduceEqDiff, Nat.reduceAdd, Nat.reduceMul, Nat.reduceLT, Nat.reduceLeDiff, reduceCtorEq, decide_true, decide_false, Int.reduceLE, Int.reduceLT, Int.reduceToNat, Int.reduceAdd, Int.reduceSub, Int.reduceMul, Int.reduceEq, nv_nb]
  refine call_of (trim_ok _) ?_
  simp only [↓R1, R2, R3, R4, TY, reduceIte, Nat.reduceEqDiff, Nat.reduceAdd, Nat.reduceMul, Nat.reduceLT, Nat.reduceLeDiff, reduceCtorEq, decide_true, decide_false, Int.reduceLE, Int.reduceLT, Int.reduceToNat, Int.reduceAdd, Int.reduceSub, Int.reduceMul, Int.reduceEq, nv_nb, S_inj, nb_nil_eq, S_size, len_le8, h8, hz]
  refine ⟨fun k1 => ⟨fun k2 => absurd ⟨nb8.1 k1, nb8.1 k2⟩ hsm, fun _ => ?_⟩, fun _ => ?_⟩
  all_goals
    refine call_of (cmpN_ok _ _) ?_
    simp only [↓R1, R2, R3, R4, TY, reduceIte, Nat.reduceEqDiff, Nat.reduceAdd, Nat.reduceMul, Nat.reduceLT, Nat.reduceLeDiff, reduceCtorEq, decide_true, decide_false, Int.reduceLE, Int.reduceLT, Int.reduceToNat, Int.reduceAdd, Int.reduceSub, Int.reduceMul, Int.reduceEq, cmpN_neg]
    refine ⟨fun hlt => fin3 _ _ _ _ (Xt.refl _) ?_, fun hge => ?_⟩
    · rw [Nat.div_eq_of_lt hlt, Nat.mod_eq_of_lt hlt, nb_zero]
    refine call_of (words_ok (l := nb m) (by rw [nv_nb]; omega)) ?_
    simp only [↓R1, R2, R3, R4, TY, reduceIte, Nat.reduceEqDiff, Nat.reduceAdd, Nat.reduceMul, Nat.reduceLT, Nat.reduceLeDiff, reduceCtorEq, decide_true, decide_false, Int.reduceLE, Int.reduceLT, Int.reduceToNat, Int.reduceAdd, Int.reduceSub, Int.reduceMul, Int.reduceEq]
    refine call_of (words_ok (l := nb n) (by rw [nv_nb]; omega)) ?_
    rw [nv_nb, nv_nb]
    have kx := wds_w32 m
    have ky := wds_w32 n
    have va := wv_wds m
    have vb := wv_wds n
    have xa := wds_len_le (n := m) (by omega)
    have xa' : (wds m).length ≤ 400000 := by omega
    have hyx : (wds n).length ≤ (wds m).length := by
      have := nb_len_mono (show n ≤ m by omega)
      rw [wds_length, wds_length]; omega
    obtain ⟨t, htt, ht1⟩ := wds_top h0
    generalize wds m = xs at *
    generalize wds n = ys at *
    generalize hH : Hp.push _ (Blk.row (wc ys) 0 1) = H
    have hHn : H.next = A.next + 2 := by rw [← hH]; rfl
    have hHa : H.blk A.next = some (.row (wc xs) 0 1) := by rw [← hH]; simp [Hp.push_blk]
    have hHb : H.blk (A.next + 1) = some (.row (wc ys) 0 1) := by rw [← hH]; simp [Hp.push_blk]
    have hHx : Xt A.next A H := by rw [← hH]; exact ((Xt.refl A).push _).push _
    clear hH
    have hlen1 : (((ys.length : Nat) : Int) = 1) = (ys.length = 1) := propext (by omega)
    simp only [↓R1, R2, R3, R4, TY, reduceIte, Nat.reduceEqDiff, Nat.reduceAdd, Nat.reduceMul, Nat.reduceLT, Nat.reduceLeDiff, reduceCtorEq, decide_true, decide_false, Int.reduceLE, Int.reduceLT, Int.reduceToNat, Int.reduceAdd, Int.reduceSub, Int.reduceMul, Int.reduceEq, hlen1]
    refine ⟨fun h1 => ?_, fun h1 => ?_⟩
    · obtain ⟨y, rfl⟩ := List.length_eq_one_iff.1 h1
      have hny : n = y := by rw [← vb]; simp [wv]
      subst hny
      have hy32 : n < 4294967296 := ky n (by simp)
      have wl1 : IntKind.i64.wrap ((xs.length : Int) - 1) = (xs.length : Int) - 1 := wrapI (by omega)
      have l01 : (0 : Int) < ((1 : Nat) : Int) := by decide
      simp only [↓R1, R2, R3, R4, TY, reduceIte, Nat.reduceEqDiff, Nat.reduceAdd, Nat.reduceMul, Nat.reduceLT, Nat.reduceLeDiff, reduceCtorEq, decide_true, decide_false, Int.reduceLE, Int.reduceLT, Int.reduceToNat, Int.reduceAdd, Int.reduceSub, Int.reduceMul, Int.reduceEq, wl1]
      refine loop_of (fun τ C => ∃ (j rest : Nat) (qs : List Nat), C.next = H.next ∧ (∀ id, id ≠ A.next → C.blk id = H.blk id) ∧ C.blk A.next = some (.row (wc (xs.take j ++ qs)) 0 1) ∧ j + qs.length = xs.length ∧ W32 qs ∧ rest < n ∧ wv qs * n + rest = wv (xs.drop j) ∧
          τ 7 = some (.slice (some ⟨A.next, 0, some 0⟩) xs.length xs.length) ∧ τ 8 = some (.slice (some ⟨A.next + 1, 0, some 0⟩) [n].length [n].length) ∧ τ 9 = some (.int .u64 (rest : Nat)) ∧ τ 10 = some (.int .i64 ((j : Int) - 1))) (fun τ _ => match τ 10 with | some (.int _ x) => (x + 1).toNat | _ => 0) ?_ ?_
      · exact ⟨xs.length, 0, [], rfl, fun _ _ => rfl, by simpa using hHa, rfl, by intro w hw; simp at hw, by omega, by simp [wv], rfl, rfl, rfl, rfl⟩
      rintro τ' C ⟨j, rest, qs, hCn, hCo, hCb, hjl, hqw, hr10, hval, r7, r8, r9, r10⟩
      have hpos : ((0 : Int) ≤ (j : Int) - 1) = (1 ≤ j) := propext (by omega)
      simp only [↓R1, R2, R3, R4, TY, reduceIte, Nat.reduceEqDiff, Nat.reduceAdd, Nat.reduceMul, Nat.reduceLT, Nat.reduceLeDiff, reduceCtorEq, decide_true, decide_false, Int.reduceLE, Int.reduceLT, Int.reduceToNat, Int.reduceAdd, Int.reduceSub, Int.reduceMul, Int.reduceEq, r7, r8, r9, r10, hpos]
      refine ⟨fun hj0 => ?_, fun hj0 => ?_⟩
      · obtain ⟨k, rfl⟩ : ∃ k, j = k + 1 := ⟨j - 1, by omega⟩
        have e10 : (((k + 1 : Nat) : Int) - 1) = (k : Int) := by omega
        rw [e10] at r10
        have hkl : k < xs.length := by omega
        have hcell : (xs.take (k + 1) ++ qs)[k]? = some xs[k] := by
          rw [List.getElem?_append_left (by rw [List.length_take]; omega), List.getElem?_take_of_lt (by omega), List.getElem?_eq_getElem hkl]
        have hg : C.get G ⟨A.next, k, some 0⟩ = some (.int .u32 (xs[k] : Nat)) := by
          simp only [Hp.get, hCb, if_true]; exact wc_getq hcell
        have hgy : C.get G ⟨A.next + 1, 0, some 0⟩ = some (.int .u32 (n : Nat)) := by
          simp only [Hp.get, hCo _ (show A.next + 1 ≠ A.next by omega), hHb, if_true]; rfl
        have hw32 : xs[k] < 4294967296 := kx _ (List.getElem_mem hkl)
        have hclen : (wc (xs.take (k + 1) ++ qs)).length = xs.length := by
          rw [wc_length, List.length_append, List.length_take]; omega
        have m1 : rest * 2 ^ 32 % 18446744073709551616 = rest * 2 ^ 32 := Nat.mod_eq_of_lt (by omega)
        have m2 : xs[k] % 18446744073709551616 = xs[k] := Nat.mod_eq_of_lt (by omega)
        have m5 : (rest * 2 ^ 32 ||| xs[k]) = rest * 4294967296 + xs[k] := by rw [or_add (by omega)]
        have hV0 : rest * 4294967296 + xs[k] < n * 4294967296 := by
          have := Nat.mul_le_mul_right 4294967296 (show rest + 1 ≤ n from hr10)
          omega
        generalize hV : rest * 4294967296 + xs[k] = V at m5 hV0
        have m6 : V % 18446744073709551616 = V := Nat.mod_eq_of_lt (by omega)
        have m9 : n % 18446744073709551616 = n := Nat.mod_eq_of_lt (by omega)
        have hq32 : V / n < 4294967296 := by rw [Nat.div_lt_iff_lt_mul (by omega), Nat.mul_comm]; exact hV0
        have hrn : V % n < n := Nat.mod_lt _ (by omega)
        have hn0i : (((n : Nat) : Int) = 0) = False := eq_false (by omega)
        have m7 : V / n % 18446744073709551616 = V / n := Nat.mod_eq_of_lt (by omega)
        have m8 : V / n % 4294967296 = V / n := Nat.mod_eq_of_lt hq32
        have m10 : V % n % 18446744073709551616 = V % n := Nat.mod_eq_of_lt (by omega)
        have w2 : IntKind.i64.wrap ((k : Int) - 1) = (k : Int) - 1 := wrapI (by omega)
        have hk1 : k + 1 ≤ xs.length := by omega
        simp only [↓R1, R2, R3, R4, TY, reduceIte, Nat.reduceEqDiff, Nat.reduceAdd, Nat.reduceMul, Nat.reduceLT, Nat.reduceLeDiff, reduceCtorEq, decide_true, decide_false, Int.reduceLE, Int.reduceLT, Int.reduceToNat, Int.reduceAdd, Int.reduceSub, Int.reduceMul, Int.reduceEq, e10, r7, r8, r9, r10, hkl, hg, hgy, l01, hCb, hclen, hk1, hfl, m1, m2, m5, m6, m7, m8, m9, m10, hn0i, hz, w2, UN]
        rw [floOf_wr (by kernel_rfl)]
        simp only [↓R1, R2, R3, R4, TY, reduceIte, Nat.reduceEqDiff, Nat.reduceAdd, Nat.reduceMul, Nat.reduceLT, Nat.reduceLeDiff, reduceCtorEq, decide_true, decide_false, Int.reduceLE, Int.reduceLT, Int.reduceToNat, Int.reduceAdd, Int.reduceSub, Int.reduceMul, Int.reduceEq, e10, r7, r8, r9, r10, hkl, hg, hgy, l01, hCb, hclen, hk1, hfl, m1, m2, m5, m6, m7, m8, m9, m10, hn0i, hz, w2, UN]
        refine loop_on ⟨k, V % n, (V / n) :: qs, hCn, fun id hid => by rw [Hp.put_blk, if_neg hid]; exact hCo id hid, ?_, by simp; omega, ?_, hrn, ?_, r7, r8, rfl, rfl⟩ ?_
        · simp only [Hp.put_blk, if_true]
          rw [wc_set, List.take_succ_eq_append_getElem hkl]
          congr 3
          simp only [List.append_assoc, List.singleton_append, List.cons_append]
          rw [List.set_append_right _ _ (by rw [List.length_take]; omega), List.length_take, show k - min k xs.length = 0 by omega]
          rfl
        · intro w hw
          rcases List.mem_cons.1 hw with h | h
          · rw [h]; omega
          · exact hqw w h
        · rw [wv, wv_drop hkl, ← hV]
          exact divy_step hval
        · simp only [r10, upd, reduceIte, Nat.reduceEqDiff]
          omega
      · obtain rfl : j = 0 := by omega
        have hCx : Xt A.next A C := ⟨fun i hi => (hCo i (by omega)).trans (hHx.blk i hi), by omega⟩
        rw [List.take_zero, List.nil_append] at hCb
        rw [Nat.zero_add] at hjl
        have hql : qs.length ≤ 1000000 := by omega
        rw [List.drop_zero, va] at hval
        refine call_of (text_ok hql hqw (sl_row hCb hjl)) ?_
        simp only [↓R1, R2, R3, R4, TY, reduceIte, Nat.reduceEqDiff, Nat.reduceAdd, Nat.reduceMul, Nat.reduceLT, Nat.reduceLeDiff, reduceCtorEq, decide_true, decide_false, Int.reduceLE, Int.reduceLT, Int.reduceToNat, Int.reduceAdd, Int.reduceSub, Int.reduceMul, Int.reduceEq, r7, r8, r9, r10]
        refine call_of (fromShort_ok (by omega)) ?_
        simp only [↓R1, R2, R3, R4, TY, reduceIte, Nat.reduceEqDiff, Nat.reduceAdd, Nat.reduceMul, Nat.reduceLT, Nat.reduceLeDiff, reduceCtorEq, decide_true, decide_false, Int.reduceLE, Int.reduceLT, Int.reduceToNat, Int.reduceAdd, Int.reduceSub, Int.reduceMul, Int.reduceEq, r7, r8, r9, r10]
        have e1 : m / n = wv qs := by rw [← hval, Nat.add_comm, Nat.add_mul_div_right _ _ (by omega), Nat.div_eq_of_lt hr10, Nat.zero_add]
        have e2 : m % n = rest := by rw [← hval, Nat.add_comm, Nat.add_mul_mod_self_right, Nat.mod_eq_of_lt hr10]
        rw [e1, e2]
        exact fin3 _ _ _ _ hCx rfl
    · have h2 : 2 ≤ ys.length := by
        have : ys.length ≠ 0 := fun h => by rw [List.length_eq_zero_iff] at h; rw [h] at htt; cases htt
        omega
      refine call_of (long_ok (A := H) (by omega) (by omega) hHa hHb kx ky h2 hyx xa' htt ht1) ?_
      rw [va, vb]
      have hq : m / n < 4294967296 ^ (xs.length + 1 - ys.length) := by
        rw [Nat.div_lt_iff_lt_mul (by omega)]
        have h3 := wv_lt kx
        rw [va] at h3
        have h4 : 4294967296 ^ (ys.length - 1) ≤ n := by
          rw [← vb]
          have hl : ys.length - 1 < ys.length := by omega
          have h5 := wv_take_succ hl
          rw [show ys.length - 1 + 1 = ys.length by omega, List.take_length] at h5
          rw [List.getElem?_eq_getElem hl, Option.some.injEq] at htt
          rw [htt] at h5
          rw [h5]
          have := Nat.mul_le_mul_left (4294967296 ^ (ys.length - 1)) ht1
          omega
        refine Nat.lt_of_lt_of_le h3 (Nat.le_trans ?_ (Nat.mul_le_mul_left _ h4))
        rw [← Nat.pow_add]
        exact Nat.pow_le_pow_right (by omega) (by omega)
      have hr : m % n < 4294967296 ^ ys.length := by
        refine Nat.lt_trans (Nat.mod_lt _ (by omega)) ?_
        have := wv_lt ky
        rwa [vb] at this
      have vq := wv_wl' hq
      have vr := wv_wl' hr
      have lq := wl_length (m / n) (xs.length + 1 - ys.length)
      have lr := wl_length (m % n) ys.length
      have kq := wl_w32 (m / n) (xs.length + 1 - ys.length)
      have kr := wl_w32 (m % n) ys.length
      generalize wl (m / n) (xs.length + 1 - ys.length) = qs at *
      generalize wl (m % n) ys.length = rs at *
      generalize hC : Hp.push _ (Blk.row (wc rs) 0 1) = C
      have hCx : Xt A.next A C := by rw [← hC]; exact (hHx.push _).push _
      have hC1 : C.blk H.next = some (.row (wc qs) 0 1) := by rw [← hC]; simp [Hp.push_blk]
      have hC2 : C.blk (H.next + 1) = some (.row (wc rs) 0 1) := by rw [← hC]; simp [Hp.push_blk]
      clear hC
      simp only [↓R1, R2, R3, R4, TY, reduceIte, Nat.reduceEqDiff, Nat.reduceAdd, Nat.reduceMul, Nat.reduceLT, Nat.reduceLeDiff, reduceCtorEq, decide_true, decide_false, Int.reduceLE, Int.reduceLT, Int.reduceToNat, Int.reduceAdd, Int.reduceSub, Int.reduceMul, Int.reduceEq]
      refine call_of (text_ok (by omega) kq (sl_row hC1 lq)) ?_
      simp only [↓R1, R2, R3, R4, TY, reduceIte, Nat.reduceEqDiff, Nat.reduceAdd, Nat.reduceMul, Nat.reduceLT, Nat.reduceLeDiff, reduceCtorEq, decide_true, decide_false, Int.reduceLE, Int.reduceLT, Int.reduceToNat, Int.reduceAdd, Int.reduceSub, Int.reduceMul, Int.reduceEq]
      refine call_of (text_ok (by omega) kr (sl_row hC2 lr)) ?_
      simp only [↓R1, R2, R3, R4, TY, reduceIte, Nat.reduceEqDiff, Nat.reduceAdd, Nat.reduceMul, Nat.reduceLT, Nat.reduceLeDiff, reduceCtorEq, decide_true, decide_false, Int.reduceLE, Int.reduceLT, Int.reduceToNat, Int.reduceAdd, Int.reduceSub, Int.reduceMul, Int.reduceEq]
      rw [vq, vr]
      exact fin3 _ _ _ _ hCx rfl
end
end Go.Proofs.YthclikeipdplpaaDoor.Ab
