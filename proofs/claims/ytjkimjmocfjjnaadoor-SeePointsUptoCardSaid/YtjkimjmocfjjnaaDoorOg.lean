/- Division digit by digit: the run. -/
import Derived.Test.YtjkimjmocfjjnaaDoorOe
import Derived.Test.YtjkimjmocfjjnaaDoorNk
import Derived.Test.YtjkimjmocfjjnaaDoorRf
namespace Go.Proofs.YtjkimjmocfjjnaaDoor.Ab
open Go.RowKit
set_option linter.unusedVariables false
set_option linter.unusedSimpArgs false
set_option maxRecDepth 100000

section
variable {G : Gl} {fl : Nat} {A : Hp}

theorem loop_with {c : Code} {τ : Tm} {K : Exit → Tm → Hp → Prop} (Post : Tm → Hp → Prop) (e : Exit) (hK : ∀ τ' A', Post τ' A' → K e τ' A') (h : ∀ K0 : Exit → Tm → Hp → Prop, (∀ τ' A', Post τ' A' → K0 e τ' A') → acode Tryd.prog G fl (.loop c) τ A K0) : acode Tryd.prog G fl (.loop c) τ A K := h K hK
theorem long_start {V s n m t : Nat} {xs ys : List Nat} (hn : ys.length = n) (hm : xs.length = m) (kx : W32 xs) (ky : W32 ys) (h2 : 2 ≤ n) (hyx : n ≤ m) (ht : ys[n - 1]? = some t) (ht1 : 1 ≤ t) (hs : s ≤ 31) (hst : t * 2 ^ s < 4294967296) (hV : V = wv ys * 2 ^ s) :
    V < 4294967296 ^ n ∧ 1 ≤ V / 4294967296 ^ (n - 1) ∧ wv xs * 2 ^ s < V * 4294967296 ^ (m + 1 - n) := by
  have hlt : n - 1 < ys.length := by omega
  have h1 := wv_take_succ hlt
  rw [show n - 1 + 1 = ys.length by omega, List.take_length] at h1
  rw [List.getElem?_eq_getElem hlt, Option.some.injEq] at ht
  rw [ht] at h1
  have h3 := wv_lt (l := ys.take (n - 1)) (fun w hw => ky w (List.mem_of_mem_take hw))
  rw [List.length_take, show min (n - 1) ys.length = n - 1 by omega] at h3
  have hs0 : 0 < 2 ^ s := Nat.pow_pos (by omega)
  have hc : 2 ^ (32 - s) * 2 ^ s = 4294967296 := by rw [← Nat.pow_add, show 32 - s + s = 32 by omega]
  have ht2 : t + 1 ≤ 2 ^ (32 - s) := by
    rw [← hc] at hst
    exact Nat.lt_of_mul_lt_mul_right hst
  have e1 : (4294967296 : Nat) ^ n = 4294967296 ^ (n - 1) * 4294967296 := by rw [← Nat.pow_succ, show (n - 1).succ = n by omega]
  have e2 : (4294967296 : Nat) ^ m = 4294967296 ^ (n - 1) * 4294967296 ^ (m + 1 - n) := by rw [← Nat.pow_add, show n - 1 + (m + 1 - n) = m by omega]
  have hx := wv_lt kx
  rw [hm, e2] at hx
  have hp : 0 < (4294967296 : Nat) ^ (n - 1) := Nat.pow_pos (by omega)
  have hpQ : 0 < (4294967296 : Nat) ^ (m + 1 - n) := Nat.pow_pos (by omega)
  rw [e1, hV, h1]
  generalize (4294967296 : Nat) ^ (n - 1) = p at *
  generalize (4294967296 : Nat) ^ (m + 1 - n) = r at *
  have hpt : p * 1 ≤ p * t := Nat.mul_le_mul_left _ ht1
  have hV2 : p * 2 ^ s ≤ (wv (ys.take (n - 1)) + p * t) * 2 ^ s := Nat.mul_le_mul_right _ (by omega)
  refine ⟨?_, ?_, ?_⟩
  · have : (wv (ys.take (n - 1)) + p * t) * 2 ^ s < p * (t + 1) * 2 ^ s := Nat.mul_lt_mul_of_pos_right (by rw [Nat.mul_add]; omega) hs0
    refine Nat.lt_of_lt_of_le this ?_
    rw [Nat.mul_assoc, ← hc]
    exact Nat.mul_le_mul_left _ (Nat.mul_le_mul_right _ ht2)
  · rw [Nat.le_div_iff_mul_le hp, Nat.one_mul]
    refine Nat.le_trans ?_ hV2
    exact Nat.le_mul_of_pos_right _ hs0
  · refine Nat.lt_of_lt_of_le (Nat.mul_lt_mul_of_pos_right hx hs0) ?_
    rw [Nat.mul_right_comm]
    exact Nat.mul_le_mul_right _ hV2

theorem shr_word {x Y s : Nat} (hx : x < 4294967296) (hs : s ≤ 31) : (x + 4294967296 * Y) / 2 ^ s % 4294967296 = (x / 2 ^ s ||| Y % 4294967296 * 2 ^ (32 - s) % 4294967296) ∧ x / 2 ^ s % 4294967296 = x / 2 ^ s := by
  have hc : 2 ^ s * 2 ^ (32 - s) = 4294967296 := by rw [← Nat.pow_add, show s + (32 - s) = 32 by omega]
  have hs0 : 0 < 2 ^ s := Nat.pow_pos (by omega)
  have hq : x / 2 ^ s < 2 ^ (32 - s) := by rw [Nat.div_lt_iff_lt_mul hs0, Nat.mul_comm, hc]; exact hx
  have h1 : (x + 4294967296 * Y) / 2 ^ s = x / 2 ^ s + 2 ^ (32 - s) * Y := by rw [← hc, Nat.mul_assoc, Nat.add_mul_div_left _ _ hs0]
  have h2 : Y % 4294967296 * 2 ^ (32 - s) % 4294967296 = Y % 2 ^ s * 2 ^ (32 - s) := by
    have := Nat.mul_mod_mul_right (2 ^ (32 - s)) (Y % 4294967296) (2 ^ s)
    rw [hc] at this
    rw [this, Nat.mod_mod_of_dvd _ (⟨2 ^ (32 - s), hc.symm⟩)]
  have hle : 2 ^ (32 - s) ≤ 4294967296 := by rw [← hc]; exact Nat.le_mul_of_pos_left _ hs0
  refine ⟨?_, Nat.mod_eq_of_lt (by omega)⟩
  rw [h1, h2, or_add' hq]
  have e := Nat.div_add_mod Y (2 ^ s)
  have h3 : 2 ^ (32 - s) * Y = 4294967296 * (Y / 2 ^ s) + Y % 2 ^ s * 2 ^ (32 - s) := by
    conv => lhs; rw [← e]
    rw [Nat.mul_add, ← Nat.mul_assoc, Nat.mul_comm (2 ^ (32 - s)) (2 ^ s), hc, Nat.mul_comm (Y % 2 ^ s)]
  have h4 : Y % 2 ^ s + 1 ≤ 2 ^ s := Nat.mod_lt _ hs0
  have h5 := Nat.mul_le_mul_right (2 ^ (32 - s)) h4
  rw [hc, Nat.add_mul, Nat.one_mul] at h5
  rw [h3, show x / 2 ^ s + (4294967296 * (Y / 2 ^ s) + Y % 2 ^ s * 2 ^ (32 - s)) = x / 2 ^ s + Y % 2 ^ s * 2 ^ (32 - s) + 4294967296 * (Y / 2 ^ s) by omega, Nat.add_mul_mod_self_left, Nat.mod_eq_of_lt (by omega)]
theorem told_two {B : Hp} {i1 i2 g1 g2 sz1 sz2 : Nat} {c1 c2 d1 d2 : List Value} (hA : Hok fl A) (x : Xt A.next A B) (hi1 : A.next ≤ i1) (hi2 : A.next ≤ i2) (hne : i1 ≠ i2) (hb1 : B.blk i1 = some (.row (c1 ++ d1) g1 sz1)) (hb2 : B.blk i2 = some (.row (c2 ++ d2) g2 sz2)) (hr1 : ∀ u ∈ c1, RB A.next u) (hr2 : ∀ u ∈ c2, RB A.next u) :
    Told A B ((A.push (.row c1 0 sz1)).push (.row c2 0 sz2)) (fun k => if k = A.next then some (i1, 0) else if k = A.next + 1 then some (i2, 0) else none) := by
  refine ⟨by simp only [Hp.push_next]; omega, fun i hi => ?_, fun i hi cs g' e h => .inl ?_, fun i hi => ?_, fun k h1 h2 => ?_, fun k p h => ?_, fun k k' i sh sh' h1 h2 => ?_⟩
  · rw [Hp.push_blk, if_neg (by simp only [Hp.push_next]; omega), Hp.push_blk, if_neg (by omega)]; exact (x.blk i hi).symm
  · rw [← x.blk i hi]; exact h
  · simp only [Hp.push_next] at hi
    rw [Hp.push_blk, if_neg (by simp only [Hp.push_next]; omega), Hp.push_blk, if_neg (by omega)]; exact hA.wf i (by omega)
  · simp only [Hp.push_next] at h2
    by_cases hk : k = A.next
    · subst hk
      refine ⟨i1, 0, c1 ++ d1, g1, sz1, c1, by simp, hi1, hb1, by rw [Hp.push_blk, if_neg (by simp only [Hp.push_next]; omega), Hp.push_blk, if_pos rfl], by simp, fun j v hj => ⟨v, ?_, .same (hr1 v (List.mem_of_getElem? hj))⟩⟩
      rw [Nat.zero_add, List.getElem?_append_left (List.getElem?_eq_some_iff.1 hj).1]; exact hj
    · obtain rfl : k = A.next + 1 := by omega
      refine ⟨i2, 0, c2 ++ d2, g2, sz2, c2, by simp, hi2, hb2, by rw [Hp.push_blk, if_pos (by simp)], by simp, fun j v hj => ⟨v, ?_, .same (hr2 v (List.mem_of_getElem? hj))⟩⟩
      rw [Nat.zero_add, List.getElem?_append_left (List.getElem?_eq_some_iff.1 hj).1]; exact hj
  · simp only [Hp.push_next]
    split at h
    · omega
    · split at h
      · omega
      · cases h
  · split at h1
    · split at h2
      · omega
      · split at h2
        · simp only [Option.some.injEq, Prod.mk.injEq] at h1 h2; omega
        · cases h2
    · split at h1
      · split at h2
        · simp only [Option.some.injEq, Prod.mk.injEq] at h1 h2; omega
        · split at h2
          · omega
          · cases h2
      · cases h1
theorem Ended.two {B : Hp} {i1 i2 g1 g2 sz1 sz2 n1 n2 k1 k2 : Nat} {c1 c2 d1 d2 : List Value} (hA : Hok fl A) (x : Xt A.next A B) (hi1 : A.next ≤ i1) (hi2 : A.next ≤ i2) (hne : i1 ≠ i2) (hb1 : B.blk i1 = some (.row (c1 ++ d1) g1 sz1)) (hb2 : B.blk i2 = some (.row (c2 ++ d2) g2 sz2)) (hr1 : ∀ u ∈ c1, RB A.next u) (hr2 : ∀ u ∈ c2, RB A.next u) (hn1 : n1 ≤ k1) (hn2 : n2 ≤ k2) :
    Ended A (.tuple [.slice (some ⟨i1, 0, some g1⟩) n1 k1, .slice (some ⟨i2, 0, some g2⟩) n2 k2].toArray) B (.tuple [.slice (some ⟨A.next, 0, some 0⟩) n1 n1, .slice (some ⟨A.next + 1, 0, some 0⟩) n2 n2].toArray) ((A.push (.row c1 0 sz1)).push (.row c2 0 sz2)) := by
  refine ⟨_, told_two hA x hi1 hi2 hne hb1 hb2 hr1 hr2, .tuple (by simp) fun i hi hi' => ?_⟩
  match i with
  | 0 => exact .sl ⟨i1, 0, _, g1, sz1, by simp, rfl, hb1, rfl⟩ hn1
  | 1 => exact .sl ⟨i2, 0, _, g2, sz2, by simp, rfl, hb2, rfl⟩ hn2

set_option maxHeartbeats 4000000 in
theorem long_ok {ix iy : Nat} {xs ys : List Nat} (hix : ix < A.next) (hiy : iy < A.next) (hbx : A.blk ix = some (.row (wc xs) 0 1)) (hby : A.blk iy = some (.row (wc ys) 0 1)) (kx : W32 xs) (ky : W32 ys) (h2 : 2 ≤ ys.length) (hyx : ys.length ≤ xs.length) (hxl : xs.length ≤ 40000000000) {t : Nat} (htt : ys[ys.length - 1]? = some t) (htop : 1 ≤ t) :
    Sound Tryd.prog G 112 [.slice (some ⟨ix, 0, some 0⟩) xs.length xs.length, .slice (some ⟨iy, 0, some 0⟩) ys.length ys.length] fl A
      (.tuple [Value.slice (some ⟨A.next, 0, some 0⟩) (xs.length + 1 - ys.length) (xs.length + 1 - ys.length), .slice (some ⟨A.next + 1, 0, some 0⟩) ys.length ys.length].toArray)
      ((A.push (.row (wc (wl (wv xs / wv ys) (xs.length + 1 - ys.length))) 0 1)).push (.row (wc (wl (wv xs % wv ys) ys.length)) 0 1)) := by
  refine Sound.of mixed Tryd.func112 Tryd.ntmps112 Tryd.results112 (by kernel_rfl) rfl (by kernel_rfl) (by kernel_rfl) fun hA => ?_
  have hfl := hA.floor
  have hyl : ys.length - 1 < ys.length := by omega
  have hgy : A.get G ⟨iy, ys.length - 1, some 0⟩ = some (.int .u32 (t : Nat)) := by simp only [Hp.get, hby, if_true]; exact wc_getq htt
  have w1 : IntKind.i64.wrap ((ys.length : Int) - 1) = ((ys.length - 1 : Nat) : Int) := by rw [wrapI (by omega)]; omega
  obtain ⟨s, hs, hsy, hlead⟩ := lead_ok (G := G) (fl := fl) htop (ky _ (List.mem_of_getElem? htt))
  simp only [↓R1, R2, R3, R4, TY, reduceIte, Nat.reduceEqDiff, Nat.reduceAdd, Nat.reduceMul, Nat.reduceLT, Nat.reduceLeDiff, reduceCtorEq, decide_true, decide_false, Int.reduceLE, Int.reduceLT, Int.reduceToNat, Int.reduceAdd, Int.reduceSub, Int.reduceMul, Int.reduceEq, w1, hyl, hgy]
  refine call_of (hlead _) ?_
  simp only [↓R1, R2, R3, R4, TY, reduceIte, Nat.reduceEqDiff, Nat.reduceAdd, Nat.reduceMul, Nat.reduceLT, Nat.reduceLeDiff, reduceCtorEq, decide_true, decide_false, Int.reduceLE, Int.reduceLT, Int.reduceToNat, Int.reduceAdd, Int.reduceSub, Int.reduceMul, Int.reduceEq]
  refine call_of (left_ok hs hbx hix (by omega) kx) ?_
  simp only [↓R1, R2, R3, R4, TY, reduceIte, Nat.reduceEqDiff, Nat.reduceAdd, Nat.reduceMul, Nat.reduceLT, Nat.reduceLeDiff, reduceCtorEq, decide_true, decide_false, Int.reduceLE, Int.reduceLT, Int.reduceToNat, Int.reduceAdd, Int.reduceSub, Int.reduceMul, Int.reduceEq]
  refine call_of (left_ok (xs := ys) hs (by rw [Hp.push_blk, if_neg (by omega)]; exact hby) (by simp only [Hp.push_next]; omega) (by omega) ky) ?_
  have hc : 2 ^ s * 2 ^ (32 - s) = 4294967296 := by rw [← Nat.pow_add, show s + (32 - s) = 32 by omega]
  have hs0 : 0 < 2 ^ s := Nat.pow_pos (by omega)
  have hs1 : 2 ^ s < 4294967296 := Nat.pow_lt_pow_right (by omega) (show s < 32 by omega)
  generalize hH : Hp.push _ (Blk.row (wc (wl (wv ys * 2 ^ s) (ys.length + 1))) 0 1) = H
  have hHx : Xt A.next A H := by rw [← hH]; exact ((Xt.refl A).push _).push _
  have hHn : H.next = A.next + 2 := by rw [← hH]; rfl
  have hH1 : H.blk A.next = some (.row (wc (wl (wv xs * 2 ^ s) (xs.length + 1))) 0 1) := by rw [← hH]; simp [Hp.push_blk]
  have hH2 : H.blk (A.next + 1) = some (.row (wc (wl (wv ys * 2 ^ s) (ys.length + 1))) 0 1) := by rw [← hH]; simp [Hp.push_blk]
  clear hH
  have he : eszOK H (A.next + 1) 1 := by simp [eszOK, hH2]
  have hyn : ys.length ≤ ys.length + 1 := by omega
  have w2 : IntKind.i64.wrap (((xs.length + 1 : Nat) : Int) - (ys.length : Nat)) = ((xs.length + 1 - ys.length : Nat) : Int) := by rw [wrapI (by omega)]; omega
  have w3 : IntKind.i64.wrap (((xs.length + 1 - ys.length : Nat) : Int) - 1) = ((xs.length + 1 - ys.length : Nat) : Int) - 1 := wrapI (by omega)
  have w4 : ((4 : Nat) : Int) * ((xs.length + 1 - ys.length : Nat) : Int) ≤ 281474976710656 := by omega
  have w5 : ((xs.length + 1 - ys.length : Nat) : Int) ≤ 9223372036854775807 := by omega
  simp only [↓R1, R2, R3, R4, TY, reduceIte, Nat.reduceEqDiff, Nat.reduceAdd, Nat.reduceMul, Nat.reduceLT, Nat.reduceLeDiff, reduceCtorEq, decide_true, decide_false, Int.reduceLE, Int.reduceLT, Int.reduceToNat, Int.reduceAdd, Int.reduceSub, Int.reduceMul, Int.reduceEq, he, hyn, w2, w3, w4, w5]
  obtain ⟨hV1, hV2, hU⟩ := long_start (V := wv ys * 2 ^ s) rfl rfl kx ky h2 hyx htt htop hs hsy rfl
  have hvl : wl (wv ys * 2 ^ s) (ys.length + 1) = wl (wv ys * 2 ^ s) ys.length ++ [0] := by rw [wl_succ, Nat.div_eq_of_lt hV1]
  rw [hvl] at hH2
  clear hgy hlead hsy hyl hvl htt
  generalize hVV : wv ys * 2 ^ s = V at *
  generalize hUU : wv xs * 2 ^ s = U0 at *
  have hQ : 1 ≤ xs.length + 1 - ys.length := by omega
  generalize hQQ : xs.length + 1 - ys.length = Q at *
  generalize hmm : xs.length = m at *
  generalize hnn : ys.length = n at *
  refine loop_of (fun τ B => ∃ i R Qn : Nat, i ≤ Q ∧ Xt A.next A B ∧ B.next = A.next + 3 ∧ B.blk A.next = some (.row (wc (wl R (m + 1))) 0 1) ∧ B.blk (A.next + 1) = some (.row (wc (wl V n ++ [0])) 0 1) ∧ B.blk (A.next + 2) = some (.row (wc (wl Qn Q)) 0 1) ∧
      R + Qn * V = U0 ∧ R < V * 4294967296 ^ i ∧ Qn % 4294967296 ^ i = 0 ∧ τ 4 = some (.slice (some ⟨A.next + 2, 0, some 0⟩) Q Q) ∧ τ 6 = some (.int .i64 s) ∧ τ 7 = some (.int .i64 n) ∧ τ 8 = some (.slice (some ⟨A.next, 0, some 0⟩) (m + 1) (m + 1)) ∧ τ 9 = some (.slice (some ⟨A.next + 1, 0, some 0⟩) n (n + 1)) ∧ τ 10 = some (.int .i64 ((i : Int) - 1)))
      (fun τ _ => match τ 10 with | some (.int _ x) => (x + 1).toNat | _ => 0) ?_ ?_
  · refine ⟨Q, U0, 0, Nat.le_refl _, hHx.push _, by simp only [Hp.push_next]; omega, by rw [Hp.push_blk, if_neg (by omega)]; exact hH1, by rw [Hp.push_blk, if_neg (by omega)]; exact hH2, ?_, by simp, hU, by simp, ?_, rfl, rfl, rfl, rfl, rfl⟩
    · rw [Hp.push_blk, if_pos (by omega), zl_one, wc_zeros, wl_zero]
    · simp [upd, hHn]
  rintro τ B ⟨i, R, Qn, hi, hx, hBn, hb0, hb1, hb2, hsum, hR, hQn, q4, q6, q7, q8, q9, q10⟩
  have hpos : ((0 : Int) ≤ (i : Int) - 1) = (1 ≤ i) := propext (by omega)
  simp only [↓R1, R2, R3, R4, TY, reduceIte, Nat.reduceEqDiff, Nat.reduceAdd, Nat.reduceMul, Nat.reduceLT, Nat.reduceLeDiff, reduceCtorEq, decide_true, decide_false, Int.reduceLE, Int.reduceLT, Int.reduceToNat, Int.reduceAdd, Int.reduceSub, Int.reduceMul, Int.reduceEq, q10, hpos]
  refine ⟨fun hlt => ?_, fun hlt => ?_⟩
  · obtain ⟨k, rfl⟩ : ∃ k, i = k + 1 := ⟨i - 1, by omega⟩
    have e10 : (((k + 1 : Nat) : Int) - 1) = (k : Nat) := by omega
    rw [e10] at q10
    have hk : k + 1 ≤ Q := hi
    have hkn : k + n ≤ m := by omega
    have hp0 : 0 < (4294967296 : Nat) ^ k := Nat.pow_pos (by omega)
    have hRM := Nat.div_add_mod R (4294967296 ^ k)
    have hr0 := Nat.mod_lt R hp0
    rw [Nat.pow_succ, ← Nat.mul_assoc, Nat.mul_right_comm] at hR
    have hMV : R / 4294967296 ^ k < V * 4294967296 := by rw [Nat.div_lt_iff_lt_mul hp0]; exact hR
    have hwd : ∀ j, R / 4294967296 ^ (k + j) = R / 4294967296 ^ k / 4294967296 ^ j := fun j => by rw [Nat.pow_add, Nat.div_div_eq_div_mul]
    have hsplit : wl R (m + 1) = wl (R % 4294967296 ^ k) k ++ (wl (R / 4294967296 ^ k) (n + 1) ++ wl (R / 4294967296 ^ k / 4294967296 ^ (n + 1)) (m - k - n)) := by
      rw [← wl_add, ← wl_low _ hr0, show k + (n + 1 + (m - k - n)) = m + 1 by omega, Nat.add_comm (R % _), hRM]
    have hu1 : B.get G ⟨A.next, k + n, some 0⟩ = some (.int .u32 ((R / 4294967296 ^ k / 4294967296 ^ n % 4294967296 : Nat) : Int)) := by
      simp only [Hp.get, hb0, if_true]; rw [← hwd]; exact wc_getq (wl_get (by omega))
    have hu2 : B.get G ⟨A.next, k + n - 1, some 0⟩ = some (.int .u32 ((R / 4294967296 ^ k / 4294967296 ^ (n - 1) % 4294967296 : Nat) : Int)) := by
      simp only [Hp.get, hb0, if_true]; rw [← hwd, show k + (n - 1) = k + n - 1 by omega]; exact wc_getq (wl_get (by omega))
    have hu3 : B.get G ⟨A.next, k + n - 2, some 0⟩ = some (.int .u32 ((R / 4294967296 ^ k / 4294967296 ^ (n - 2) % 4294967296 : Nat) : Int)) := by
      simp only [Hp.get, hb0, if_true]; rw [← hwd, show k + (n - 2) = k + n - 2 by omega]; exact wc_getq (wl_get (by omega))
    generalize hMM : R / 4294967296 ^ k = M at *
    have hMn : M < 4294967296 ^ (n + 1) := by
      refine Nat.lt_trans hMV ?_
      rw [Nat.pow_succ]; exact Nat.mul_lt_mul_of_pos_right hV1 (by omega)
    have pn1 : (4294967296 : Nat) ^ (n - 1) = 4294967296 ^ (n - 2) * 4294967296 := by rw [← Nat.pow_succ, show (n - 2).succ = n - 1 by omega]
    have pn0 : (4294967296 : Nat) ^ n = 4294967296 ^ (n - 1) * 4294967296 := by rw [← Nat.pow_succ, show (n - 1).succ = n by omega]
    have hPP : 0 < (4294967296 : Nat) ^ (n - 2) := Nat.pow_pos (by omega)
    have hdV : V / 4294967296 ^ (n - 2) = V / 4294967296 ^ (n - 1) * 4294967296 + V / 4294967296 ^ (n - 2) % 4294967296 := by
      rw [pn1, ← Nat.div_div_eq_div_mul]; omega
    have hdM : M / 4294967296 ^ (n - 2) = M / 4294967296 ^ (n - 1) * 4294967296 + M / 4294967296 ^ (n - 2) % 4294967296 := by
      rw [pn1, ← Nat.div_div_eq_div_mul]; omega
    have hdT : M / 4294967296 ^ (n - 1) = M / 4294967296 ^ n * 4294967296 + M / 4294967296 ^ (n - 1) % 4294967296 := by
      rw [pn0, ← Nat.div_div_eq_div_mul]; omega
    have ht1 : M / 4294967296 ^ n < 4294967296 := by
      rw [Nat.div_lt_iff_lt_mul (Nat.pow_pos (by omega)), Nat.mul_comm, ← Nat.pow_succ]; exact hMn
    have hv1 : V / 4294967296 ^ (n - 1) < 4294967296 := by
      rw [Nat.div_lt_iff_lt_mul (Nat.pow_pos (by omega)), Nat.mul_comm, ← pn0]; exact hV1
    have hg1 : B.get G ⟨A.next + 1, n - 1, some 0⟩ = some (.int .u32 ((V / 4294967296 ^ (n - 1) : Nat) : Int)) := by
      simp only [Hp.get, hb1, if_true]
      refine wc_getq ?_
      rw [List.getElem?_append_left (by rw [wl_length]; omega), wl_get (by omega), Nat.mod_eq_of_lt hv1]
    have hg2 : B.get G ⟨A.next + 1, n - 2, some 0⟩ = some (.int .u32 ((V / 4294967296 ^ (n - 2) % 4294967296 : Nat) : Int)) := by
      simp only [Hp.get, hb1, if_true]
      exact wc_getq (by rw [List.getElem?_append_left (by rw [wl_length]; omega), wl_get (by omega)])
    have hu2b : M / 4294967296 ^ (n - 2) % 4294967296 < 4294967296 := Nat.mod_lt _ (by omega)
    have hv2b : V / 4294967296 ^ (n - 2) % 4294967296 < 4294967296 := Nat.mod_lt _ (by omega)
    have ht2b : M / 4294967296 ^ (n - 1) % 4294967296 < 4294967296 := Nat.mod_lt _ (by omega)
    have htt1 : M / 4294967296 ^ n % 4294967296 = M / 4294967296 ^ n := Nat.mod_eq_of_lt ht1
    rw [htt1] at hu1
    generalize hv1e : V / 4294967296 ^ (n - 1) = v1 at *
    generalize V / 4294967296 ^ (n - 2) % 4294967296 = v2 at *
    generalize M / 4294967296 ^ (n - 2) % 4294967296 = u2 at *
    generalize M / 4294967296 ^ n = a1 at *
    generalize hT : M / 4294967296 ^ (n - 1) = top at *
    generalize top % 4294967296 = a2 at *
    have w6 : IntKind.i64.wrap ((k + n : Nat) : Int) = ((k + n : Nat) : Int) := wrapI (by omega)
    have w7 : IntKind.i64.wrap (((k + n : Nat) : Int) - 1) = ((k + n - 1 : Nat) : Int) := by rw [wrapI (by omega)]; omega
    have w8 : IntKind.i64.wrap (((k + n : Nat) : Int) - 2) = ((k + n - 2 : Nat) : Int) := by rw [wrapI (by omega)]; omega
    have w9 : IntKind.i64.wrap ((n : Int) - 1) = ((n - 1 : Nat) : Int) := by rw [wrapI (by omega)]; omega
    have w10 : IntKind.i64.wrap ((n : Int) - 2) = ((n - 2 : Nat) : Int) := by rw [wrapI (by omega)]; omega
    have l1 : k + n < m + 1 := by omega
    have l2 : k + n - 1 < m + 1 := by omega
    have l3 : k + n - 2 < m + 1 := by omega
    have l4 : n - 1 < n := by omega
    have l5 : n - 2 < n := by omega
    have m1 : a1 % 18446744073709551616 = a1 := Nat.mod_eq_of_lt (by omega)
    have m2 : a2 % 18446744073709551616 = a2 := Nat.mod_eq_of_lt (by omega)
    have m3 : a1 * 2 ^ 32 % 18446744073709551616 = a1 * 2 ^ 32 := Nat.mod_eq_of_lt (by omega)
    have m4 : (a1 * 2 ^ 32 ||| a2) = top := by rw [or_add (by omega)]; omega
    have m5 : v1 % 18446744073709551616 = v1 := Nat.mod_eq_of_lt (by omega)
    have htb : top < 18446744073709551616 := by omega
    have m6 : top % 18446744073709551616 = top := Nat.mod_eq_of_lt htb
    have hv10 : (((v1 : Nat) : Int) = 0) = False := eq_false (by omega)
    have hv11 : (v1 = 0) = False := eq_false (by omega)
    have m7 : top / v1 % 18446744073709551616 = top / v1 := Nat.mod_eq_of_lt (Nat.lt_of_le_of_lt (Nat.div_le_self _ _) htb)
    have m8 : top % v1 % 18446744073709551616 = top % v1 := Nat.mod_eq_of_lt (Nat.lt_of_le_of_lt (Nat.mod_le _ _) htb)
    simp only [↓R1, R2, R3, R4, TY, reduceIte, Nat.reduceEqDiff, Nat.reduceAdd, Nat.reduceMul, Nat.reduceLT, Nat.reduceLeDiff, reduceCtorEq, decide_true, decide_false, Int.reduceLE, Int.reduceLT, Int.reduceToNat, Int.reduceAdd, Int.reduceSub, Int.reduceMul, Int.reduceEq, q4, q6, q7, q8, q9, q10, w6, w7, w9, l1, l2, l4, hu1, hu2, hg1, m1, m2, m3, m4, m5, m6, m7, m8, hv10, hv11, UN]
    refine loop_with (Post := fun τ' A' => A' = B ∧ ∃ d : Nat, d < 4294967296 ∧ d * V ≤ M + V ∧ M < (d + 1) * V ∧ τ' 4 = some (.slice (some ⟨A.next + 2, 0, some 0⟩) Q Q) ∧ τ' 6 = some (.int .i64 s) ∧ τ' 7 = some (.int .i64 n) ∧ τ' 8 = some (.slice (some ⟨A.next, 0, some 0⟩) (m + 1) (m + 1)) ∧ τ' 9 = some (.slice (some ⟨A.next + 1, 0, some 0⟩) n (n + 1)) ∧ τ' 10 = some (.int .i64 (k : Nat)) ∧ τ' 12 = some (.int .u64 (d : Nat))) (.exit 2) ?_ ?_
    rotate_left
    · intro K0 hK0
      refine loop_of (fun τ' A' => A' = B ∧ ∃ d rest : Nat, d * v1 + rest = top ∧ rest < 4294967296 ∧ M < (d + 1) * V ∧ τ' 4 = some (.slice (some ⟨A.next + 2, 0, some 0⟩) Q Q) ∧ τ' 6 = some (.int .i64 s) ∧ τ' 7 = some (.int .i64 n) ∧ τ' 8 = some (.slice (some ⟨A.next, 0, some 0⟩) (m + 1) (m + 1)) ∧ τ' 9 = some (.slice (some ⟨A.next + 1, 0, some 0⟩) n (n + 1)) ∧ τ' 10 = some (.int .i64 (k : Nat)) ∧ τ' 12 = some (.int .u64 (d : Nat)) ∧ τ' 13 = some (.int .u64 (rest : Nat))) (fun τ' _ => match τ' 12 with | some (.int _ x) => x.toNat | _ => 0) ?_ ?_
      · refine ⟨rfl, top / v1, top % v1, by rw [Nat.mul_comm]; exact Nat.div_add_mod _ _, Nat.lt_trans (Nat.mod_lt _ hV2) hv1, est_zero rfl hdV hdM hu2b hPP hV2, q4, q6, q7, q8, q9, q10, rfl, rfl⟩
      rintro τ' A' ⟨rfl, d, rest, hdr, hrb, hdq, r4, r6, r7, r8, r9, r10, r12, r13⟩
      have hdt : d ≤ top := by
        have : d * 1 ≤ d * v1 := Nat.mul_le_mul_left _ hV2
        omega
      have m9 : (rest + v1) % 18446744073709551616 = rest + v1 := Nat.mod_eq_of_lt (by omega)
      have m10 : rest * 2 ^ 32 % 18446744073709551616 = rest * 2 ^ 32 := Nat.mod_eq_of_lt (by omega)
      have m11 : (rest * 2 ^ 32 ||| u2) = rest * 4294967296 + u2 := by rw [or_add (by omega)]
      have m12 : v2 % 18446744073709551616 = v2 := Nat.mod_eq_of_lt (by omega)
      have m13 : u2 % 18446744073709551616 = u2 := Nat.mod_eq_of_lt (by omega)
      have m15 : (rest * 4294967296 + u2) % 18446744073709551616 = rest * 4294967296 + u2 := Nat.mod_eq_of_lt (by omega)
      have next : 1 ≤ d ∧ M < d * V → (d - 1) * v1 + (rest + v1) = top ∧ M < (d - 1 + 1) * V := fun ⟨g1, g2⟩ => by
        rw [show d - 1 + 1 = d by omega, Nat.sub_mul, Nat.one_mul]
        have : 1 * v1 ≤ d * v1 := Nat.mul_le_mul_right _ g1
        exact ⟨by omega, g2⟩
      by_cases hc1 : 4294967296 ≤ d
      · have c1 : ((0 : Int) < ((d / 2 ^ 32 : Nat) : Int)) = True := eq_true (by omega)
        have more := est_more hdV hdM hPP hMV (by omega) hdr (.inl hc1)
        have s1 : IntKind.u64.wrap ((d : Int) - 1) = ((d - 1 : Nat) : Int) := by rw [show (1 : Int) = ((1 : Nat) : Int) from rfl, u64_sub (by omega)]; omega
        have m14 : True := trivial
        obtain ⟨n1, n2⟩ := next more
        by_cases hc2 : 4294967296 ≤ rest + v1
        · have c2 : ((0 : Int) < (((rest + v1) / 2 ^ 32 : Nat) : Int)) = True := eq_true (by omega)
          simp only [↓R1, R2, R3, R4, TY, reduceIte, Nat.reduceEqDiff, Nat.reduceAdd, Nat.reduceMul, Nat.reduceLT, Nat.reduceLeDiff, reduceCtorEq, decide_true, decide_false, Int.reduceLE, Int.reduceLT, Int.reduceToNat, Int.reduceAdd, Int.reduceSub, Int.reduceMul, Int.reduceEq, r4, r6, r7, r8, r9, r10, r12, r13, w6, w8, w9, w10, l1, l3, l4, l5, hu3, hg1, hg2, m5, m9, m10, m11, m12, m13, m14, m15, c1, s1, UN, c2]
          obtain ⟨e1, e2⟩ := est_end rfl hdV hdM hv2b hPP hMV hV2 n1 (.inl hc2)
          exact hK0 _ _ ⟨rfl, d - 1, e1, e2, n2, r4, r6, r7, r8, r9, r10, rfl⟩
        · have c2 : ((0 : Int) < (((rest + v1) / 2 ^ 32 : Nat) : Int)) = False := eq_false (by omega)
          simp only [↓R1, R2, R3, R4, TY, reduceIte, Nat.reduceEqDiff, Nat.reduceAdd, Nat.reduceMul, Nat.reduceLT, Nat.reduceLeDiff, reduceCtorEq, decide_true, decide_false, Int.reduceLE, Int.reduceLT, Int.reduceToNat, Int.reduceAdd, Int.reduceSub, Int.reduceMul, Int.reduceEq, r4, r6, r7, r8, r9, r10, r12, r13, w6, w8, w9, w10, l1, l3, l4, l5, hu3, hg1, hg2, m5, m9, m10, m11, m12, m13, m14, m15, c1, s1, UN, c2]
          refine loop_on ⟨rfl, d - 1, rest + v1, n1, by omega, n2, r4, r6, r7, r8, r9, r10, rfl, rfl⟩ ?_
          simp only [r12, upd, reduceIte, Nat.reduceEqDiff]
          omega
      · have c1 : ((0 : Int) < ((d / 2 ^ 32 : Nat) : Int)) = False := eq_false (by omega)
        have m14 : d * v2 % 18446744073709551616 = d * v2 := Nat.mod_eq_of_lt (by
          have : d * v2 ≤ 4294967295 * 4294967295 := Nat.mul_le_mul (by omega) (by omega)
          omega)
        by_cases hc3 : rest * 4294967296 + u2 < d * v2
        · have c3 : (rest * 4294967296 + u2 < d * v2) = True := eq_true (by omega)
          have more := est_more hdV hdM hPP hMV (by omega) hdr (.inr hc3)
          have s1 : IntKind.u64.wrap ((d : Int) - 1) = ((d - 1 : Nat) : Int) := by rw [show (1 : Int) = ((1 : Nat) : Int) from rfl, u64_sub (by omega)]; omega
          obtain ⟨n1, n2⟩ := next more
          by_cases hc2 : 4294967296 ≤ rest + v1
          · have c2 : ((0 : Int) < (((rest + v1) / 2 ^ 32 : Nat) : Int)) = True := eq_true (by omega)
            simp only [↓R1, R2, R3, R4, TY, reduceIte, Nat.reduceEqDiff, Nat.reduceAdd, Nat.reduceMul, Nat.reduceLT, Nat.reduceLeDiff, reduceCtorEq, decide_true, decide_false, Int.reduceLE, Int.reduceLT, Int.reduceToNat, Int.reduceAdd, Int.reduceSub, Int.reduceMul, Int.reduceEq, r4, r6, r7, r8, r9, r10, r12, r13, w6, w8, w9, w10, l1, l3, l4, l5, hu3, hg1, hg2, m5, m9, m10, m11, m12, m13, m14, m15, c1, s1, UN, c2, c3]
            obtain ⟨e1, e2⟩ := est_end rfl hdV hdM hv2b hPP hMV hV2 n1 (.inl hc2)
            exact hK0 _ _ ⟨rfl, d - 1, e1, e2, n2, r4, r6, r7, r8, r9, r10, rfl⟩
          · have c2 : ((0 : Int) < (((rest + v1) / 2 ^ 32 : Nat) : Int)) = False := eq_false (by omega)
            simp only [↓R1, R2, R3, R4, TY, reduceIte, Nat.reduceEqDiff, Nat.reduceAdd, Nat.reduceMul, Nat.reduceLT, Nat.reduceLeDiff, reduceCtorEq, decide_true, decide_false, Int.reduceLE, Int.reduceLT, Int.reduceToNat, Int.reduceAdd, Int.reduceSub, Int.reduceMul, Int.reduceEq, r4, r6, r7, r8, r9, r10, r12, r13, w6, w8, w9, w10, l1, l3, l4, l5, hu3, hg1, hg2, m5, m9, m10, m11, m12, m13, m14, m15, c1, s1, UN, c2, c3]
            refine loop_on ⟨rfl, d - 1, rest + v1, n1, by omega, n2, r4, r6, r7, r8, r9, r10, rfl, rfl⟩ ?_
            simp only [r12, upd, reduceIte, Nat.reduceEqDiff]
            omega
        · have c3 : (rest * 4294967296 + u2 < d * v2) = False := eq_false (by omega)
          have s1 : True := trivial
          simp only [↓R1, R2, R3, R4, TY, reduceIte, Nat.reduceEqDiff, Nat.reduceAdd, Nat.reduceMul, Nat.reduceLT, Nat.reduceLeDiff, reduceCtorEq, decide_true, decide_false, Int.reduceLE, Int.reduceLT, Int.reduceToNat, Int.reduceAdd, Int.reduceSub, Int.reduceMul, Int.reduceEq, r4, r6, r7, r8, r9, r10, r12, r13, w6, w8, w9, w10, l1, l3, l4, l5, hu3, hg1, hg2, m5, m9, m10, m11, m12, m13, m14, m15, c1, s1, UN, c3]
          obtain ⟨e1, e2⟩ := est_end rfl hdV hdM hv2b hPP hMV hV2 hdr (.inr ⟨by omega, by omega⟩)
          exact hK0 _ _ ⟨rfl, d, e1, e2, hdq, r4, r6, r7, r8, r9, r10, r12⟩
    rintro τ' A' ⟨rfl, d, hdB, e1, e2, r4, r6, r7, r8, r9, r10, r12⟩
    have hfin : ∀ d', d' < 4294967296 → d' * V ≤ M → M < (d' + 1) * V →
        wl (R % 4294967296 ^ k) k ++ (wl (M - d' * V) (n + 1) ++ wl (M / 4294967296 ^ (n + 1)) (m - k - n)) = wl (R % 4294967296 ^ k + 4294967296 ^ k * (M - d' * V)) (m + 1) ∧
        (wl Qn Q).set k d' = wl (Qn + 4294967296 ^ k * d') Q ∧ (R % 4294967296 ^ k + 4294967296 ^ k * (M - d' * V)) + (Qn + 4294967296 ^ k * d') * V = U0 ∧
        R % 4294967296 ^ k + 4294967296 ^ k * (M - d' * V) < V * 4294967296 ^ k ∧ (Qn + 4294967296 ^ k * d') % 4294967296 ^ k = 0 := fun d' g1 g2 g3 => by
      have hMd : M - d' * V < 4294967296 ^ (n + 1) := by omega
      have hdf := digit_found (R := R) (r0 := R % 4294967296 ^ k) (p := 4294967296 ^ k) (B := 4294967296) (M := M) (k := k) (by omega) hr0 hsum g2 g3
      have hQk : 4294967296 ^ k ∣ Qn := Nat.dvd_trans (Nat.pow_dvd_pow _ (Nat.le_succ k)) (Nat.dvd_of_mod_eq_zero hQn)
      refine ⟨?_, ?_, hdf.1, hdf.2, ?_⟩
      · rw [Nat.div_eq_of_lt hMn, ← Nat.div_eq_of_lt hMd, ← wl_add, ← wl_low _ hr0, show k + (n + 1 + (m - k - n)) = m + 1 by omega]
      · refine wl_set ?_ (by omega) g1 ?_
        · have : Qn * V < 4294967296 ^ Q * V := by rw [Nat.mul_comm (4294967296 ^ Q)]; omega
          exact Nat.lt_of_mul_lt_mul_right this
        · obtain ⟨c, hc⟩ := Nat.dvd_of_mod_eq_zero hQn
          rw [hc, Nat.pow_succ, Nat.mul_assoc, Nat.mul_div_cancel_left _ hp0, Nat.mul_mod_right]
      · rw [Nat.add_mul_mod_self_left]; exact Nat.mod_eq_zero_of_dvd hQk
    rw [hsplit] at hb0
    have hta := takeAway_ok (G := G) (fl := fl) (A := A') (d := d) (c1 := m + 1 - k) (c2 := n + 1) hfl (by omega) (by omega) hb0 hb1 (wl_length _ _) (by rw [wl_length, wl_length]) (by rw [wl_length]; omega) (wl_w32 _ _) (wl_w32 _ _) hdB
    rw [tk] at hta
    simp only [wl_length, wv_wl' hMn, wv_wl' hV1] at hta
    have w11 : IntKind.i64.wrap ((k : Int) - 1) = (k : Int) - 1 := wrapI (by omega)
    have w12 : IntKind.i64.wrap (((k + n : Nat) : Int) + 1) = ((k + n + 1 : Nat) : Int) := by rw [wrapI (by omega)]; omega
    have l6 : k ≤ k + n + 1 := by omega
    have l7 : k + n + 1 ≤ m + 1 := by omega
    have l8 : k + n + 1 - k = n + 1 := by omega
    have l9 : k < Q := by omega
    have he0 : eszOK A' A.next 1 := by simp [eszOK, hb0]
    have hdm : d % 4294967296 = d := Nat.mod_eq_of_lt hdB
    have hf2 : fl ≤ A.next + 2 := by omega
    by_cases hgt : M < d * V
    · simp only [hgt, decide_true, if_true] at hta
      have hd1 : 1 ≤ d := by
        rcases Nat.eq_zero_or_pos d with h | h
        · rw [h, Nat.zero_mul] at hgt; omega
        · exact h
      have hdd : (d - 1) * V = d * V - V := by rw [Nat.sub_mul, Nat.one_mul]
      have hdV2 : V ≤ d * V := Nat.le_mul_of_pos_left _ hd1
      obtain ⟨f1, f2, f3, f4, f5⟩ := hfin (d - 1) (by omega) (by omega) (by rw [show d - 1 + 1 = d by omega]; exact hgt)
      have s1 : IntKind.u64.wrap ((d : Int) - 1) = ((d - 1 : Nat) : Int) := by rw [show (1 : Int) = ((1 : Nat) : Int) from rfl, u64_sub (by omega)]; omega
      have hdm2 : (d - 1) % 4294967296 = d - 1 := Nat.mod_eq_of_lt (by omega)
      simp only [↓R1, R2, R3, R4, TY, reduceIte, Nat.reduceEqDiff, Nat.reduceAdd, Nat.reduceMul, Nat.reduceLT, Nat.reduceLeDiff, reduceCtorEq, decide_true, decide_false, Int.reduceLE, Int.reduceLT, Int.reduceToNat, Int.reduceAdd, Int.reduceSub, Int.reduceMul, Int.reduceEq, r4, r6, r7, r8, r9, r10, r12, w6, w11, w12, l6, l7, l8, l9, he0, wc_length, wl_length, hf2, hk, UN, s1]
      refine call_of hta ?_
      generalize hC : Hp.put A' A.next _ = C
      have hCx : Xt A.next A C := by rw [← hC]; exact hx.put (Nat.le_refl _) _
      have hCn : C.next = A.next + 3 := by rw [← hC]; exact hBn
      have hC0 : C.blk A.next = some (.row (wc (wl (R % 4294967296 ^ k) k ++ (wl (M + 4294967296 ^ (n + 1) - d * V) (n + 1) ++ wl (M / 4294967296 ^ (n + 1)) (m - k - n)))) 0 1) := by rw [← hC]; simp [Hp.put_blk]
      have hC1 : C.blk (A.next + 1) = some (.row (wc (wl V n ++ [0])) 0 1) := by rw [← hC, Hp.put_blk, if_neg (by omega)]; exact hb1
      have hC2 : C.blk (A.next + 2) = some (.row (wc (wl Qn Q)) 0 1) := by rw [← hC, Hp.put_blk, if_neg (by omega)]; exact hb2
      clear hC
      have hM2 : M + 4294967296 ^ (n + 1) - d * V < 4294967296 ^ (n + 1) := by omega
      have hpb := putBack_ok (G := G) (fl := fl) (A := C) (c1 := m + 1 - k) (c2 := n + 1) hfl (by omega) (by omega) hC0 hC1 (wl_length _ _) (by rw [wl_length, wl_length]) (by rw [wl_length]; omega) (wl_w32 _ _) (wl_w32 _ _)
      simp only [wl_length, wv_wl' hM2, wv_wl' hV1] at hpb
      rw [show (M + 4294967296 ^ (n + 1) - d * V + V) % 4294967296 ^ (n + 1) = M - (d - 1) * V by
        rw [show M + 4294967296 ^ (n + 1) - d * V + V = (M - (d - 1) * V) + 4294967296 ^ (n + 1) by omega, Nat.add_mod_right, Nat.mod_eq_of_lt (by omega)]] at hpb
      have heC : eszOK C A.next 1 := by simp [eszOK, hC0]
      simp only [↓R1, R2, R3, R4, TY, reduceIte, Nat.reduceEqDiff, Nat.reduceAdd, Nat.reduceMul, Nat.reduceLT, Nat.reduceLeDiff, reduceCtorEq, decide_true, decide_false, Int.reduceLE, Int.reduceLT, Int.reduceToNat, Int.reduceAdd, Int.reduceSub, Int.reduceMul, Int.reduceEq, r4, r6, r7, r8, r9, r10, r12, w6, w11, w12, l6, l7, l8, l9, he0, wc_length, wl_length, hf2, hk, UN, s1, heC]
      refine call_of hpb ?_
      generalize hD : Hp.put C A.next _ = D
      have hDx : Xt A.next A D := by rw [← hD]; exact hCx.put (Nat.le_refl _) _
      have hDn : D.next = A.next + 3 := by rw [← hD]; exact hCn
      have hD0 : D.blk A.next = some (.row (wc (wl (R % 4294967296 ^ k) k ++ (wl (M - (d - 1) * V) (n + 1) ++ wl (M / 4294967296 ^ (n + 1)) (m - k - n)))) 0 1) := by rw [← hD]; simp [Hp.put_blk]
      have hD1 : D.blk (A.next + 1) = some (.row (wc (wl V n ++ [0])) 0 1) := by rw [← hD, Hp.put_blk, if_neg (by omega)]; exact hC1
      have hD2 : D.blk (A.next + 2) = some (.row (wc (wl Qn Q)) 0 1) := by rw [← hD, Hp.put_blk, if_neg (by omega)]; exact hC2
      clear hD
      simp only [↓R1, R2, R3, R4, TY, reduceIte, Nat.reduceEqDiff, Nat.reduceAdd, Nat.reduceMul, Nat.reduceLT, Nat.reduceLeDiff, reduceCtorEq, decide_true, decide_false, Int.reduceLE, Int.reduceLT, Int.reduceToNat, Int.reduceAdd, Int.reduceSub, Int.reduceMul, Int.reduceEq, r4, r6, r7, r8, r9, r10, r12, w6, w11, w12, l6, l7, l8, l9, he0, wc_length, wl_length, hf2, hk, UN, s1, hD2, hdm2]
      refine loop_on ⟨k, R % 4294967296 ^ k + 4294967296 ^ k * (M - (d - 1) * V), Qn + 4294967296 ^ k * (d - 1), by omega, hDx.put (by omega) _, hDn, ?_, ?_, ?_, f3, f4, f5, r4, r6, r7, r8, r9, rfl⟩ ?_
      · rw [Hp.put_blk, if_neg (by omega), hD0]; rw [← f1]
      · rw [Hp.put_blk, if_neg (by omega)]; exact hD1
      · rw [Hp.put_blk, if_pos rfl, wc_set, f2]
      · simp only [q10, upd, reduceIte, Nat.reduceEqDiff]
        omega
    · simp only [hgt, decide_false, if_false] at hta
      obtain ⟨f1, f2, f3, f4, f5⟩ := hfin d hdB (by omega) e2
      simp only [↓R1, R2, R3, R4, TY, reduceIte, Nat.reduceEqDiff, Nat.reduceAdd, Nat.reduceMul, Nat.reduceLT, Nat.reduceLeDiff, reduceCtorEq, decide_true, decide_false, Int.reduceLE, Int.reduceLT, Int.reduceToNat, Int.reduceAdd, Int.reduceSub, Int.reduceMul, Int.reduceEq, r4, r6, r7, r8, r9, r10, r12, w6, w11, w12, l6, l7, l8, l9, he0, wc_length, wl_length, hf2, hk, UN]
      refine call_of hta ?_
      generalize hC : Hp.put A' A.next _ = C
      have hCx : Xt A.next A C := by rw [← hC]; exact hx.put (Nat.le_refl _) _
      have hCn : C.next = A.next + 3 := by rw [← hC]; exact hBn
      have hC0 : C.blk A.next = some (.row (wc (wl (R % 4294967296 ^ k) k ++ (wl (M - d * V) (n + 1) ++ wl (M / 4294967296 ^ (n + 1)) (m - k - n)))) 0 1) := by rw [← hC]; simp [Hp.put_blk]
      have hC1 : C.blk (A.next + 1) = some (.row (wc (wl V n ++ [0])) 0 1) := by rw [← hC, Hp.put_blk, if_neg (by omega)]; exact hb1
      have hC2 : C.blk (A.next + 2) = some (.row (wc (wl Qn Q)) 0 1) := by rw [← hC, Hp.put_blk, if_neg (by omega)]; exact hb2
      clear hC
      simp only [↓R1, R2, R3, R4, TY, reduceIte, Nat.reduceEqDiff, Nat.reduceAdd, Nat.reduceMul, Nat.reduceLT, Nat.reduceLeDiff, reduceCtorEq, decide_true, decide_false, Int.reduceLE, Int.reduceLT, Int.reduceToNat, Int.reduceAdd, Int.reduceSub, Int.reduceMul, Int.reduceEq, r4, r6, r7, r8, r9, r10, r12, w6, w11, w12, l6, l7, l8, l9, he0, wc_length, wl_length, hf2, hk, UN, hC2, hdm]
      refine loop_on ⟨k, R % 4294967296 ^ k + 4294967296 ^ k * (M - d * V), Qn + 4294967296 ^ k * d, by omega, hCx.put (by omega) _, hCn, ?_, ?_, ?_, f3, f4, f5, r4, r6, r7, r8, r9, rfl⟩ ?_
      · rw [Hp.put_blk, if_neg (by omega), hC0]; rw [← f1]
      · rw [Hp.put_blk, if_neg (by omega)]; exact hC1
      · rw [Hp.put_blk, if_pos rfl, wc_set, f2]
      · simp only [q10, upd, reduceIte, Nat.reduceEqDiff]
        omega
  · obtain rfl : i = 0 := by omega
    rw [Nat.pow_zero, Nat.mul_one] at hR
    have he0 : eszOK B A.next 1 := by simp [eszOK, hb0]
    have hnm : n ≤ m + 1 := by omega
    simp only [↓R1, R2, R3, R4, TY, reduceIte, Nat.reduceEqDiff, Nat.reduceAdd, Nat.reduceMul, Nat.reduceLT, Nat.reduceLeDiff, reduceCtorEq, decide_true, decide_false, Int.reduceLE, Int.reduceLT, Int.reduceToNat, Int.reduceAdd, Int.reduceSub, Int.reduceMul, Int.reduceEq, q4, q6, q7, q8, q9, he0, hnm]
    have hRn : R < 4294967296 ^ n := Nat.lt_trans hR hV1
    have hRm : R < 4294967296 ^ (m + 1) := Nat.lt_of_lt_of_le hRn (Nat.pow_le_pow_right (by omega) hnm)
    have hms : min s 32 = s := by omega
    have hms2 : min (32 - s) 64 = 32 - s := by omega
    have w13 : IntKind.i64.wrap ((32 : Int) - (s : Nat)) = ((32 - s : Nat) : Int) := by rw [wrapI (by omega)]; omega
    refine range_of 146 n (fun j τ C => Xt A.next A C ∧ C.next = A.next + 3 ∧ C.blk A.next = some (.row (wc (wl (R / 2 ^ s) j ++ (wl R (m + 1)).drop j)) 0 1) ∧ C.blk (A.next + 2) = some (.row (wc (wl Qn Q)) 0 1) ∧
      τ 4 = some (.slice (some ⟨A.next + 2, 0, some 0⟩) Q Q) ∧ τ 5 = some (.slice (some ⟨A.next, 0, some 0⟩) n (m + 1)) ∧ τ 6 = some (.int .i64 s) ∧ τ 7 = some (.int .i64 n) ∧ τ 8 = some (.slice (some ⟨A.next, 0, some 0⟩) (m + 1) (m + 1)) ∧ τ 144 = some (.slice (some ⟨A.next, 0, some 0⟩) n (m + 1)) ∧ τ 145 = some (.int .i64 n) ∧ τ 146 = some (.int .i64 j)) ?_ ?_
    · exact ⟨hx, hBn, by simpa [wl] using hb0, hb2, q4, rfl, q6, q7, q8, rfl, rfl, rfl⟩
    rintro j τ C hj ⟨hxC, hCn, hc0, hc2, p4, p5, p6, p7, p8, p144, p145, p146⟩
    simp only [↓R1, R2, R3, R4, TY, reduceIte, Nat.reduceEqDiff, Nat.reduceAdd, Nat.reduceMul, Nat.reduceLT, Nat.reduceLeDiff, reduceCtorEq, decide_true, decide_false, Int.reduceLE, Int.reduceLT, Int.reduceToNat, Int.reduceAdd, Int.reduceSub, Int.reduceMul, Int.reduceEq, p144, p145, p146]
    refine ⟨fun hlt => ?_, fun hlt => ?_⟩
    · have hjl : j < (wl R (m + 1)).length := by rw [wl_length]; omega
      have hdr : (wl R (m + 1)).drop j = (R / 4294967296 ^ j % 4294967296) :: (wl R (m + 1)).drop (j + 1) := by
        rw [List.drop_eq_getElem_cons hjl]
        congr 1
        have := wl_get (n := R) (k := m + 1) (j := j) (by omega)
        rw [List.getElem?_eq_getElem hjl, Option.some.injEq] at this
        exact this
      have hdv : R / 4294967296 ^ j = R / 4294967296 ^ j % 4294967296 + 4294967296 * (R / 4294967296 ^ (j + 1)) := by
        rw [Nat.pow_succ, ← Nat.div_div_eq_div_mul]; omega
      have hx32 : R / 4294967296 ^ j % 4294967296 < 4294967296 := Nat.mod_lt _ (by omega)
      have hword : wl (R / 2 ^ s) (j + 1) = wl (R / 2 ^ s) j ++ [(R / 4294967296 ^ j % 4294967296 + 4294967296 * (R / 4294967296 ^ (j + 1))) / 2 ^ s % 4294967296] := by
        rw [wl_succ, ← hdv, Nat.div_div_eq_div_mul, Nat.div_div_eq_div_mul, Nat.mul_comm]
      obtain ⟨sw1, sw2⟩ := shr_word (Y := R / 4294967296 ^ (j + 1)) hx32 hs
      rw [sw1] at hword
      have hl0 : (wl (R / 2 ^ s) j).length = j := wl_length _ _
      rw [hdr] at hc0
      have hg1 : C.get G ⟨A.next, j, some 0⟩ = some (.int .u32 ((R / 4294967296 ^ j % 4294967296 : Nat) : Int)) := by
        simp only [Hp.get, hc0, if_true]
        exact wc_getq (by rw [List.getElem?_append_right (by omega), hl0, Nat.sub_self]; rfl)
      have hset : ∀ a b : Nat, (wc (wl (R / 2 ^ s) j ++ a :: (wl R (m + 1)).drop (j + 1))).set j (.int .u32 (b : Nat)) = wc (wl (R / 2 ^ s) j ++ b :: (wl R (m + 1)).drop (j + 1)) := fun a b => by
        rw [wc_set, set_snoc hl0, List.append_assoc]; rfl
      have hlen : ∀ a : Nat, (wc (wl (R / 2 ^ s) j ++ a :: (wl R (m + 1)).drop (j + 1))).length = m + 1 := fun a => by
        rw [wc_length, List.length_append, List.length_cons, List.length_drop, wl_length, wl_length]; omega
      have hj63 : j < 9223372036854775807 := by omega
      have w14 : IntKind.i64.wrap ((j : Int) + 1) = ((j + 1 : Nat) : Int) := by rw [wrapI (by omega)]; omega
      have l1 : j + 1 ≤ m + 1 := by omega
      have l2 : j < m + 1 := by omega
      have l0 : j < n := hlt
      generalize hXX : R / 4294967296 ^ j % 4294967296 = x at *
      by_cases hjn : j + 1 < n
      · have l3 : j + 1 < m + 1 := by omega
        have hg2 : C.get G ⟨A.next, j + 1, some 0⟩ = some (.int .u32 ((R / 4294967296 ^ (j + 1) % 4294967296 : Nat) : Int)) := by
          simp only [Hp.get, hc0, if_true]
          refine wc_getq ?_
          rw [List.getElem?_append_right (by omega), hl0, show j + 1 - j = 0 + 1 by omega, List.getElem?_cons_succ, List.getElem?_drop, Nat.add_zero, wl_get l3]
        have hga : ∀ a : Nat, (wc (wl (R / 2 ^ s) j ++ a :: (wl R (m + 1)).drop (j + 1)))[j]? = some (.int .u32 (a : Nat)) := fun a => wc_getq (by rw [List.getElem?_append_right (by omega), hl0, Nat.sub_self]; rfl)
        have hgb : ∀ a : Nat, (wc (wl (R / 2 ^ s) j ++ a :: (wl R (m + 1)).drop (j + 1)))[j + 1]? = some (.int .u32 ((R / 4294967296 ^ (j + 1) % 4294967296 : Nat) : Int)) := fun a => by
          refine wc_getq ?_
          rw [List.getElem?_append_right (by omega), hl0, show j + 1 - j = 0 + 1 by omega, List.getElem?_cons_succ, List.getElem?_drop, Nat.add_zero, wl_get l3]
        have hyb : R / 4294967296 ^ (j + 1) % 4294967296 < 4294967296 := Nat.mod_lt _ (by omega)
        generalize R / 4294967296 ^ (j + 1) % 4294967296 = y at *
        have n1 : y % 18446744073709551616 = y := Nat.mod_eq_of_lt (by omega)
        have n2 : y * 2 ^ (32 - s) % 18446744073709551616 = y * 2 ^ (32 - s) := Nat.mod_eq_of_lt (by
          have h1 : y * 2 ^ (32 - s) ≤ 4294967295 * 4294967296 := Nat.mul_le_mul (by omega) (Nat.le_trans (Nat.pow_le_pow_right (by omega) (show 32 - s ≤ 32 by omega)) (Nat.le_refl _))
          omega)
        have n3 : x / 2 ^ s ||| y * 2 ^ (32 - s) % 4294967296 < 4294967296 := by rw [← sw1]; exact Nat.mod_lt _ (by omega)
        have n4 : (x / 2 ^ s ||| y * 2 ^ (32 - s) % 4294967296) % 4294967296 = (x / 2 ^ s ||| y * 2 ^ (32 - s) % 4294967296) := Nat.mod_eq_of_lt n3
        have n5 : y * 2 ^ (32 - s) % 4294967296 % 4294967296 = y * 2 ^ (32 - s) % 4294967296 := Nat.mod_eq_of_lt (Nat.mod_lt _ (by omega))
        have p32 : 2 ^ 32 = 4294967296 := rfl
        simp only [↓R1, R2, R3, R4, TY, reduceIte, Nat.reduceEqDiff, Nat.reduceAdd, Nat.reduceMul, Nat.reduceLT, Nat.reduceLeDiff, reduceCtorEq, decide_true, decide_false, Int.reduceLE, Int.reduceLT, Int.reduceToNat, Int.reduceAdd, Int.reduceSub, Int.reduceMul, Int.reduceEq, p4, p5, p6, p7, p8, p144, p145, p146, l0, l1, l2, l3, hj63, hg1, hg2, hc0, hlen, hset, hga, hgb, hms, hms2, w13, w14, sw2, n1, n2, n4, n5, p32, hfl, hjn, UN]
        rw [floOf_wr (by kernel_rfl)]
        simp only [↓R1, R2, R3, R4, TY, reduceIte, Nat.reduceEqDiff, Nat.reduceAdd, Nat.reduceMul, Nat.reduceLT, Nat.reduceLeDiff, reduceCtorEq, decide_true, decide_false, Int.reduceLE, Int.reduceLT, Int.reduceToNat, Int.reduceAdd, Int.reduceSub, Int.reduceMul, Int.reduceEq, p4, p5, p6, p7, p8, p144, p145, p146, l0, l1, l2, l3, hj63, hg1, hg2, hc0, hlen, hset, hga, hgb, hms, hms2, w13, w14, sw2, n1, n2, n4, n5, p32, hfl, hjn, UN]
        refine range_on p146 hlt rfl ⟨by simp (maxDischargeDepth := 20) only [xt_put, hxC, Nat.le_refl], hCn, ?_, ?_, p4, p5, p6, p7, p8, p144, p145, rfl⟩
        · simp only [Hp.put_blk, if_true]; rw [hword]; simp
        · simp only [Hp.put_blk]; rw [if_neg (by omega), if_neg (by omega)]; exact hc2
      · simp only [↓R1, R2, R3, R4, TY, reduceIte, Nat.reduceEqDiff, Nat.reduceAdd, Nat.reduceMul, Nat.reduceLT, Nat.reduceLeDiff, reduceCtorEq, decide_true, decide_false, Int.reduceLE, Int.reduceLT, Int.reduceToNat, Int.reduceAdd, Int.reduceSub, Int.reduceMul, Int.reduceEq, p4, p5, p6, p7, p8, p144, p145, p146, l0, l1, l2, hj63, hg1, hc0, hlen, hset, hms, w14, sw2, hfl, hjn, UN]
        have hz : R / 4294967296 ^ (j + 1) = 0 := by rw [show j + 1 = n by omega]; exact Nat.div_eq_of_lt hRn
        rw [hz, Nat.zero_mod, Nat.zero_mul, Nat.zero_mod, Nat.or_zero] at hword
        refine range_on p146 hlt rfl ⟨by simp (maxDischargeDepth := 20) only [xt_put, hxC, Nat.le_refl], hCn, ?_, ?_, p4, p5, p6, p7, p8, p144, p145, rfl⟩
        · simp only [Hp.put_blk, if_true]; rw [hword]; simp
        · simp only [Hp.put_blk]; rw [if_neg (by omega)]; exact hc2
    · obtain rfl : j = n := by omega
      simp only [↓R1, R2, R3, R4, TY, reduceIte, Nat.reduceEqDiff, Nat.reduceAdd, Nat.reduceMul, Nat.reduceLT, Nat.reduceLeDiff, reduceCtorEq, decide_true, decide_false, Int.reduceLE, Int.reduceLT, Int.reduceToNat, Int.reduceAdd, Int.reduceSub, Int.reduceMul, Int.reduceEq, p4, p5]
      have hs0 : 0 < 2 ^ s := Nat.pow_pos (by omega)
      have hqq : Qn = wv xs / wv ys ∧ R / 2 ^ s = wv xs % wv ys := by
        have h1 : U0 / V = Qn := by
          rw [← hsum, Nat.add_mul_div_right _ _ (by omega), Nat.div_eq_of_lt hR, Nat.zero_add]
        have h2 : U0 % V = R := by rw [← hsum, Nat.add_mul_mod_self_right, Nat.mod_eq_of_lt hR]
        rw [← hUU, ← hVV] at h1 h2
        rw [Nat.mul_div_mul_right _ _ hs0] at h1
        rw [Nat.mul_mod_mul_right] at h2
        exact ⟨h1.symm, by rw [← h2, Nat.mul_div_cancel _ hs0]⟩
      rw [← hqq.1, ← hqq.2]
      have hc2' : C.blk (A.next + 2) = some (.row (wc (wl Qn Q) ++ []) 0 1) := by rw [List.append_nil]; exact hc2
      have hc0' : C.blk A.next = some (.row (wc (wl (R / 2 ^ s) j) ++ wc ((wl R (m + 1)).drop j)) 0 1) := by rw [hc0]; simp [wc]
      exact Ended.two hA hxC (by omega) (Nat.le_refl _) (by omega) hc2' hc0' (wc_rb _ _) (wc_rb _ _) (Nat.le_refl _) hnm
end
end Go.Proofs.YtjkimjmocfjjnaaDoor.Ab

/- Division of numbers of any length. -/
namespace Go.Proofs.YtjkimjmocfjjnaaDoor.Ab
open Go.RowKit
set_option linter.unusedVariables false
set_option linter.unusedSimpArgs false
set_option maxRecDepth 100000

theorem divy_step {w r B q V y : Nat} (h : q * y + r = V) : ((r * B + w) / y + B * q) * y + (r * B + w) % y = w + B * V := by
  have e := Nat.div_add_mod (r * B + w) y
  rw [Nat.add_mul, ← h, Nat.mul_add, Nat.mul_assoc, Nat.mul_comm B r, Nat.mul_comm _ y]
  omega
theorem nb_ge {n : Nat} (h : n ≠ 0) : 256 ^ ((nb n).length - 1) ≤ n := by
  have h1 : (nb n).length ≠ 0 := fun h2 => h (nb_eq_nil.1 (List.length_eq_zero_iff.1 h2))
  have h2 := mt (nb_len_le (n := n) (k := (nb n).length - 1)).2 (by omega)
  omega
theorem wds_top {n : Nat} (h : n ≠ 0) : ∃ t, (wds n)[(wds n).length - 1]? = some t ∧ 1 ≤ t := by
  have h1 : (nb n).length ≠ 0 := fun h2 => h (nb_eq_nil.1 (List.length_eq_zero_iff.1 h2))
  refine ⟨n / 4294967296 ^ ((wds n).length - 1) % 4294967296, wl_get (by rw [wds_length]; omega), ?_⟩
  have h2 := nb_ge h
  have h3 := nb_len_le.1 (Nat.le_refl (nb n).length)
  have h4 : (256 : Nat) ^ (nb n).length ≤ 4294967296 ^ ((wds n).length - 1) * 4294967296 := by
    rw [← Nat.pow_succ, ← pow256_4, wds_length]
    exact Nat.pow_le_pow_right (by omega) (by omega)
  have h5 : 4294967296 ^ ((wds n).length - 1) ≤ (256 : Nat) ^ ((nb n).length - 1) := by
    rw [← pow256_4, wds_length]
    exact Nat.pow_le_pow_right (by omega) (by omega)
  have hp : 0 < (4294967296 : Nat) ^ ((wds n).length - 1) := Nat.pow_pos (by omega)
  rw [Nat.mod_eq_of_lt (by rw [Nat.div_lt_iff_lt_mul hp, Nat.mul_comm]; omega), Nat.le_div_iff_mul_le hp]
  omega

section
variable {G : Gl} {fl : Nat} {A : Hp}

set_option maxHeartbeats 4000000 in
theorem divG {m n : Nat} (hm : (nb m).length ≤ 40000000000) (hn : (nb n).length ≤ 40000000000) (h0 : n ≠ 0) :
    Sound Tryd.prog G 96 [.string (S (nb m)), .string (S (nb n))] fl A (.tuple [Value.string (S (nb (m / n))), .string (S (nb (m % n))), .int .i64 0].toArray) A := by
  by_cases hsm : m < 18446744073709551616 ∧ n < 18446744073709551616
  · exact divN hsm.1 hsm.2 h0
  refine Sound.of mixed Tryd.func96 Tryd.ntmps96 Tryd.results96 (by kernel_rfl) rfl (by kernel_rfl) (by kernel_rfl) fun hA => ?_
  have hfl := hA.floor
  have fin3 : ∀ (u v : List UInt8) (C : Hp) (r : Value), Xt A.next A C → r = (.tuple [Value.string (S u), .string (S v), .int .i64 0].toArray) → Ended A r C (.tuple [Value.string (S u), .string (S v), .int .i64 0].toArray) A := fun u v C r hx hr =>
    Ended.back hA hx hr (RB.tuple fun w hw => by
      simp only [List.mem_cons, List.not_mem_nil, or_false] at hw
      rcases hw with rfl | rfl | rfl
      · exact RB.string _
      · exact RB.string _
      · exact RB.int _ _)
  have hz : (n = 0) = False := eq_false h0
  have h8 : (m < 18446744073709551616 ∧ n < 18446744073709551616) = False := eq_false hsm
  simp only [↓R1, R2, R3, R4, TY, reduceIte, Nat.reduceEqDiff, Nat.reduceAdd, Nat.reduceMul, Nat.reduceLT, Nat.reduceLeDiff, reduceCtorEq, decide_true, decide_false, Int.reduceLE, Int.reduceLT, Int.reduceToNat, Int.reduceAdd, Int.reduceSub, Int.reduceMul, Int.reduceEq]
  refine call_of (trim_ok _) ?_
  simp only [↓R1, R2, R3, R4, TY, reduceIte, Nat.reduceEqDiff, Nat.reduceAdd, Nat.reduceMul, Nat.reduceLT, Nat.reduceLeDiff, reduceCtorEq, decide_true, decide_false, Int.reduceLE, Int.reduceLT, Int.reduceToNat, Int.reduceAdd, Int.reduceSub, Int.reduceMul, Int.reduceEq, nv_nb]
  refine call_of (trim_ok _) ?_
  simp only [↓R1, R2, R3, R4, TY, reduceIte, Nat.reduceEqDiff, Nat.reduceAdd, Nat.reduceMul, Nat.reduceLT, Nat.reduceLeDiff, reduceCtorEq, decide_true, decide_false, Int.reduceLE, Int.reduceLT, Int.reduceToNat, Int.reduceAdd, Int.reduceSub, Int.reduceMul, Int.reduceEq, nv_nb, S_inj, nb_nil_eq, S_size, len_le8, h8, hz]
  refine ⟨fun k1 => ⟨fun k2 => absurd ⟨nb8.1 k1, nb8.1 k2⟩ hsm, fun _ => ?_⟩, fun _ => ?_⟩
  all_goals
    refine call_of (cmpN_ok _ _) ?_
    simp only [↓R1, R2, R3, R4, TY, reduceIte, Nat.reduceEqDiff, Nat.reduceAdd, Nat.reduceMul, Nat.reduceLT, Nat.reduceLeDiff, reduceCtorEq, decide_true, decide_false, Int.reduceLE, Int.reduceLT, Int.reduceToNat, Int.reduceAdd, Int.reduceSub, Int.reduceMul, Int.reduceEq, cmpN_neg]
    refine ⟨fun hlt => fin3 _ _ _ _ (Xt.refl _) ?_, fun hge => ?_⟩
    · rw [Nat.div_eq_of_lt hlt, Nat.mod_eq_of_lt hlt, nb_zero]
    refine call_of (words_ok (l := nb m) (by rw [nv_nb]; omega)) ?_
    simp only [↓R1, R2, R3, R4, TY, reduceIte, Nat.reduceEqDiff, Nat.reduceAdd, Nat.reduceMul, Nat.reduceLT, Nat.reduceLeDiff, reduceCtorEq, decide_true, decide_false, Int.reduceLE, Int.reduceLT, Int.reduceToNat, Int.reduceAdd, Int.reduceSub, Int.reduceMul, Int.reduceEq]
    refine call_of (words_ok (l := nb n) (by rw [nv_nb]; omega)) ?_
    rw [nv_nb, nv_nb]
    have kx := wds_w32 m
    have ky := wds_w32 n
    have va := wv_wds m
    have vb := wv_wds n
    have xa := wds_len_le (n := m) (by omega)
    have xa' : (wds m).length ≤ 40000000000 := by omega
    have hyx : (wds n).length ≤ (wds m).length := by
      have := nb_len_mono (show n ≤ m by omega)
      rw [wds_length, wds_length]; omega
    obtain ⟨t, htt, ht1⟩ := wds_top h0
    generalize wds m = xs at *
    generalize wds n = ys at *
    generalize hH : Hp.push _ (Blk.row (wc ys) 0 1) = H
    have hHn : H.next = A.next + 2 := by rw [← hH]; rfl
    have hHa : H.blk A.next = some (.row (wc xs) 0 1) := by rw [← hH]; simp [Hp.push_blk]
    have hHb : H.blk (A.next + 1) = some (.row (wc ys) 0 1) := by rw [← hH]; simp [Hp.push_blk]
    have hHx : Xt A.next A H := by rw [← hH]; exact ((Xt.refl A).push _).push _
    clear hH
    have hlen1 : (((ys.length : Nat) : Int) = 1) = (ys.length = 1) := propext (by omega)
    simp only [↓R1, R2, R3, R4, TY, reduceIte, Nat.reduceEqDiff, Nat.reduceAdd, Nat.reduceMul, Nat.reduceLT, Nat.reduceLeDiff, reduceCtorEq, decide_true, decide_false, Int.reduceLE, Int.reduceLT, Int.reduceToNat, Int.reduceAdd, Int.reduceSub, Int.reduceMul, Int.reduceEq, hlen1]
    refine ⟨fun h1 => ?_, fun h1 => ?_⟩
    · obtain ⟨y, rfl⟩ := List.length_eq_one_iff.1 h1
      have hny : n = y := by rw [← vb]; simp [wv]
      subst hny
      have hy32 : n < 4294967296 := ky n (by simp)
      have wl1 : IntKind.i64.wrap ((xs.length : Int) - 1) = (xs.length : Int) - 1 := wrapI (by omega)
      have l01 : (0 : Int) < ((1 : Nat) : Int) := by decide
      simp only [↓R1, R2, R3, R4, TY, reduceIte, Nat.reduceEqDiff, Nat.reduceAdd, Nat.reduceMul, Nat.reduceLT, Nat.reduceLeDiff, reduceCtorEq, decide_true, decide_false, Int.reduceLE, Int.reduceLT, Int.reduceToNat, Int.reduceAdd, Int.reduceSub, Int.reduceMul, Int.reduceEq, wl1]
      refine loop_of (fun τ C => ∃ (j rest : Nat) (qs : List Nat), C.next = H.next ∧ (∀ id, id ≠ A.next → C.blk id = H.blk id) ∧ C.blk A.next = some (.row (wc (xs.take j ++ qs)) 0 1) ∧ j + qs.length = xs.length ∧ W32 qs ∧ rest < n ∧ wv qs * n + rest = wv (xs.drop j) ∧
          τ 7 = some (.slice (some ⟨A.next, 0, some 0⟩) xs.length xs.length) ∧ τ 8 = some (.slice (some ⟨A.next + 1, 0, some 0⟩) [n].length [n].length) ∧ τ 9 = some (.int .u64 (rest : Nat)) ∧ τ 10 = some (.int .i64 ((j : Int) - 1))) (fun τ _ => match τ 10 with | some (.int _ x) => (x + 1).toNat | _ => 0) ?_ ?_
      · exact ⟨xs.length, 0, [], rfl, fun _ _ => rfl, by simpa using hHa, rfl, by intro w hw; simp at hw, by omega, by simp [wv], rfl, rfl, rfl, rfl⟩
      rintro τ' C ⟨j, rest, qs, hCn, hCo, hCb, hjl, hqw, hr10, hval, r7, r8, r9, r10⟩
      have hpos : ((0 : Int) ≤ (j : Int) - 1) = (1 ≤ j) := propext (by omega)
      simp only [↓R1, R2, R3, R4, TY, reduceIte, Nat.reduceEqDiff, Nat.reduceAdd, Nat.reduceMul, Nat.reduceLT, Nat.reduceLeDiff, reduceCtorEq, decide_true, decide_false, Int.reduceLE, Int.reduceLT, Int.reduceToNat, Int.reduceAdd, Int.reduceSub, Int.reduceMul, Int.reduceEq, r7, r8, r9, r10, hpos]
      refine ⟨fun hj0 => ?_, fun hj0 => ?_⟩
      · obtain ⟨k, rfl⟩ : ∃ k, j = k + 1 := ⟨j - 1, by omega⟩
        have e10 : (((k + 1 : Nat) : Int) - 1) = (k : Int) := by omega
        rw [e10] at r10
        have hkl : k < xs.length := by omega
        have hcell : (xs.take (k + 1) ++ qs)[k]? = some xs[k] := by
          rw [List.getElem?_append_left (by rw [List.length_take]; omega), List.getElem?_take_of_lt (by omega), List.getElem?_eq_getElem hkl]
        have hg : C.get G ⟨A.next, k, some 0⟩ = some (.int .u32 (xs[k] : Nat)) := by
          simp only [Hp.get, hCb, if_true]; exact wc_getq hcell
        have hgy : C.get G ⟨A.next + 1, 0, some 0⟩ = some (.int .u32 (n : Nat)) := by
          simp only [Hp.get, hCo _ (show A.next + 1 ≠ A.next by omega), hHb, if_true]; rfl
        have hw32 : xs[k] < 4294967296 := kx _ (List.getElem_mem hkl)
        have hclen : (wc (xs.take (k + 1) ++ qs)).length = xs.length := by
          rw [wc_length, List.length_append, List.length_take]; omega
        have m1 : rest * 2 ^ 32 % 18446744073709551616 = rest * 2 ^ 32 := Nat.mod_eq_of_lt (by omega)
        have m2 : xs[k] % 18446744073709551616 = xs[k] := Nat.mod_eq_of_lt (by omega)
        have m5 : (rest * 2 ^ 32 ||| xs[k]) = rest * 4294967296 + xs[k] := by rw [or_add (by omega)]
        have hV0 : rest * 4294967296 + xs[k] < n * 4294967296 := by
          have := Nat.mul_le_mul_right 4294967296 (show rest + 1 ≤ n from hr10)
          omega
        generalize hV : rest * 4294967296 + xs[k] = V at m5 hV0
        have m6 : V % 18446744073709551616 = V := Nat.mod_eq_of_lt (by omega)
        have m9 : n % 18446744073709551616 = n := Nat.mod_eq_of_lt (by omega)
        have hq32 : V / n < 4294967296 := by rw [Nat.div_lt_iff_lt_mul (by omega), Nat.mul_comm]; exact hV0
        have hrn : V % n < n := Nat.mod_lt _ (by omega)
        have hn0i : (((n : Nat) : Int) = 0) = False := eq_false (by omega)
        have m7 : V / n % 18446744073709551616 = V / n := Nat.mod_eq_of_lt (by omega)
        have m8 : V / n % 4294967296 = V / n := Nat.mod_eq_of_lt hq32
        have m10 : V % n % 18446744073709551616 = V % n := Nat.mod_eq_of_lt (by omega)
        have w2 : IntKind.i64.wrap ((k : Int) - 1) = (k : Int) - 1 := wrapI (by omega)
        have hk1 : k + 1 ≤ xs.length := by omega
        simp only [↓R1, R2, R3, R4, TY, reduceIte, Nat.reduceEqDiff, Nat.reduceAdd, Nat.reduceMul, Nat.reduceLT, Nat.reduceLeDiff, reduceCtorEq, decide_true, decide_false, Int.reduceLE, Int.reduceLT, Int.reduceToNat, Int.reduceAdd, Int.reduceSub, Int.reduceMul, Int.reduceEq, e10, r7, r8, r9, r10, hkl, hg, hgy, l01, hCb, hclen, hk1, hfl, m1, m2, m5, m6, m7, m8, m9, m10, hn0i, hz, w2, UN]
        rw [floOf_wr (by kernel_rfl)]
        simp only [↓R1, R2, R3, R4, TY, reduceIte, Nat.reduceEqDiff, Nat.reduceAdd, Nat.reduceMul, Nat.reduceLT, Nat.reduceLeDiff, reduceCtorEq, decide_true, decide_false, Int.reduceLE, Int.reduceLT, Int.reduceToNat, Int.reduceAdd, Int.reduceSub, Int.reduceMul, Int.reduceEq, e10, r7, r8, r9, r10, hkl, hg, hgy, l01, hCb, hclen, hk1, hfl, m1, m2, m5, m6, m7, m8, m9, m10, hn0i, hz, w2, UN]
        refine loop_on ⟨k, V % n, (V / n) :: qs, hCn, fun id hid => by rw [Hp.put_blk, if_neg hid]; exact hCo id hid, ?_, by simp; omega, ?_, hrn, ?_, r7, r8, rfl, rfl⟩ ?_
        · simp only [Hp.put_blk, if_true]
          rw [wc_set, List.take_succ_eq_append_getElem hkl]
          congr 3
          simp only [List.append_assoc, List.singleton_append, List.cons_append]
          rw [List.set_append_right _ _ (by rw [List.length_take]; omega), List.length_take, show k - min k xs.length = 0 by omega]
          rfl
        · intro w hw
          rcases List.mem_cons.1 hw with h | h
          · rw [h]; omega
          · exact hqw w h
        · rw [wv, wv_drop hkl, ← hV]
          exact divy_step hval
        · simp only [r10, upd, reduceIte, Nat.reduceEqDiff]
          omega
      · obtain rfl : j = 0 := by omega
        have hCx : Xt A.next A C := ⟨fun i hi => (hCo i (by omega)).trans (hHx.blk i hi), by omega⟩
        rw [List.take_zero, List.nil_append] at hCb
        rw [Nat.zero_add] at hjl
        have hql : qs.length ≤ 100000000000 := by omega
        rw [List.drop_zero, va] at hval
        refine call_of (text_ok hql hqw (sl_row hCb hjl)) ?_
        simp only [↓R1, R2, R3, R4, TY, reduceIte, Nat.reduceEqDiff, Nat.reduceAdd, Nat.reduceMul, Nat.reduceLT, Nat.reduceLeDiff, reduceCtorEq, decide_true, decide_false, Int.reduceLE, Int.reduceLT, Int.reduceToNat, Int.reduceAdd, Int.reduceSub, Int.reduceMul, Int.reduceEq, r7, r8, r9, r10]
        refine call_of (fromShort_ok (by omega)) ?_
        simp only [↓R1, R2, R3, R4, TY, reduceIte, Nat.reduceEqDiff, Nat.reduceAdd, Nat.reduceMul, Nat.reduceLT, Nat.reduceLeDiff, reduceCtorEq, decide_true, decide_false, Int.reduceLE, Int.reduceLT, Int.reduceToNat, Int.reduceAdd, Int.reduceSub, Int.reduceMul, Int.reduceEq, r7, r8, r9, r10]
        have e1 : m / n = wv qs := by rw [← hval, Nat.add_comm, Nat.add_mul_div_right _ _ (by omega), Nat.div_eq_of_lt hr10, Nat.zero_add]
        have e2 : m % n = rest := by rw [← hval, Nat.add_comm, Nat.add_mul_mod_self_right, Nat.mod_eq_of_lt hr10]
        rw [e1, e2]
        exact fin3 _ _ _ _ hCx rfl
    · have h2 : 2 ≤ ys.length := by
        have : ys.length ≠ 0 := fun h => by rw [List.length_eq_zero_iff] at h; rw [h] at htt; cases htt
        omega
      refine call_of (long_ok (A := H) (by omega) (by omega) hHa hHb kx ky h2 hyx xa' htt ht1) ?_
      rw [va, vb]
      have hq : m / n < 4294967296 ^ (xs.length + 1 - ys.length) := by
        rw [Nat.div_lt_iff_lt_mul (by omega)]
        have h3 := wv_lt kx
        rw [va] at h3
        have h4 : 4294967296 ^ (ys.length - 1) ≤ n := by
          rw [← vb]
          have hl : ys.length - 1 < ys.length := by omega
          have h5 := wv_take_succ hl
          rw [show ys.length - 1 + 1 = ys.length by omega, List.take_length] at h5
          rw [List.getElem?_eq_getElem hl, Option.some.injEq] at htt
          rw [htt] at h5
          rw [h5]
          have := Nat.mul_le_mul_left (4294967296 ^ (ys.length - 1)) ht1
          omega
        refine Nat.lt_of_lt_of_le h3 (Nat.le_trans ?_ (Nat.mul_le_mul_left _ h4))
        rw [← Nat.pow_add]
        exact Nat.pow_le_pow_right (by omega) (by omega)
      have hr : m % n < 4294967296 ^ ys.length := by
        refine Nat.lt_trans (Nat.mod_lt _ (by omega)) ?_
        have := wv_lt ky
        rwa [vb] at this
      have vq := wv_wl' hq
      have vr := wv_wl' hr
      have lq := wl_length (m / n) (xs.length + 1 - ys.length)
      have lr := wl_length (m % n) ys.length
      have kq := wl_w32 (m / n) (xs.length + 1 - ys.length)
      have kr := wl_w32 (m % n) ys.length
      generalize wl (m / n) (xs.length + 1 - ys.length) = qs at *
      generalize wl (m % n) ys.length = rs at *
      generalize hC : Hp.push _ (Blk.row (wc rs) 0 1) = C
      have hCx : Xt A.next A C := by rw [← hC]; exact (hHx.push _).push _
      have hC1 : C.blk H.next = some (.row (wc qs) 0 1) := by rw [← hC]; simp [Hp.push_blk]
      have hC2 : C.blk (H.next + 1) = some (.row (wc rs) 0 1) := by rw [← hC]; simp [Hp.push_blk]
      clear hC
      simp only [↓R1, R2, R3, R4, TY, reduceIte, Nat.reduceEqDiff, Nat.reduceAdd, Nat.reduceMul, Nat.reduceLT, Nat.reduceLeDiff, reduceCtorEq, decide_true, decide_false, Int.reduceLE, Int.reduceLT, Int.reduceToNat, Int.reduceAdd, Int.reduceSub, Int.reduceMul, Int.reduceEq]
      refine call_of (text_ok (by omega) kq (sl_row hC1 lq)) ?_
      simp only [↓R1, R2, R3, R4, TY, reduceIte, Nat.reduceEqDiff, Nat.reduceAdd, Nat.reduceMul, Nat.reduceLT, Nat.reduceLeDiff, reduceCtorEq, decide_true, decide_false, Int.reduceLE, Int.reduceLT, Int.reduceToNat, Int.reduceAdd, Int.reduceSub, Int.reduceMul, Int.reduceEq]
      refine call_of (text_ok (by omega) kr (sl_row hC2 lr)) ?_
      simp only [↓R1, R2, R3, R4, TY, reduceIte, Nat.reduceEqDiff, Nat.reduceAdd, Nat.reduceMul, Nat.reduceLT, Nat.reduceLeDiff, reduceCtorEq, decide_true, decide_false, Int.reduceLE, Int.reduceLT, Int.reduceToNat, Int.reduceAdd, Int.reduceSub, Int.reduceMul, Int.reduceEq]
      rw [vq, vr]
      exact fin3 _ _ _ _ hCx rfl
end
end Go.Proofs.YtjkimjmocfjjnaaDoor.Ab
