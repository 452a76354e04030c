/- Leading zeros; digits shifted left. -/
import Derived.Test.YtjkimjmocfjjnaaDoorNk
namespace Go.Proofs.YtjkimjmocfjjnaaDoor.Ab
open Go.RowKit
set_option linter.unusedVariables false
set_option linter.unusedSimpArgs false
set_option maxRecDepth 100000

def lg (v : Nat) : Nat := if v = 0 then 0 else Nat.log2 v + 1
theorem w24 : IntKind.i64.wrap 24 = 24 := rfl
theorem w8 : IntKind.i64.wrap 8 = 8 := rfl
theorem lg_lt (v : Nat) : v < 2 ^ lg v := by
  unfold lg; split
  · omega
  · exact Nat.lt_log2_self
theorem lg_le {v : Nat} (h : v < 256) : lg v ≤ 8 := by
  unfold lg; split
  · omega
  · rename_i h0; have := (Nat.log2_lt h0 (k := 8)).2 h; omega
theorem lg_pos {v : Nat} (h : 1 ≤ v) : 1 ≤ lg v := by
  unfold lg; rw [if_neg (by omega)]; omega
theorem lg_sh {w k v : Nat} (h : w / 2 ^ k = v) : w < 2 ^ (k + lg v) := by
  have := lg_lt v
  rw [← h, Nat.div_lt_iff_lt_mul (Nat.pow_pos (by omega)), h] at this
  rw [Nat.pow_add, Nat.mul_comm]; exact this

section
variable {G : Gl} {fl : Nat} {A : Hp}

theorem len32_ok {w : Nat} (h1 : 1 ≤ w) (h2 : w < 4294967296) : ∃ n : Nat, 1 ≤ n ∧ n ≤ 32 ∧ w < 2 ^ n ∧ ∀ A, Sound Tryd.prog G 128 [.int .u32 (w : Nat)] fl A (.int .i64 (n : Nat)) A := by
  by_cases c1 : 65536 ≤ w
  · by_cases c2 : 256 ≤ w / 65536
    · have a1 : w / 65536 / 256 < 256 := by omega
      have hlg := lg_le a1
      have hw : w / 2 ^ 24 = w / 65536 / 256 := by omega
      refine ⟨24 + lg (w / 65536 / 256), by omega, by omega, lg_sh hw, fun A => ?_⟩
      have u8w : w / 65536 / 256 % 256 = w / 65536 / 256 := Nat.mod_eq_of_lt (by omega)
      have u32w : w / 65536 % 4294967296 = w / 65536 := Nat.mod_eq_of_lt (by omega)
      have u32x : w / 65536 / 256 % 4294967296 = w / 65536 / 256 := Nat.mod_eq_of_lt (by omega)
      have i1 : IntKind.i64.wrap (lg (w / 65536 / 256) : Nat) = (lg (w / 65536 / 256) : Nat) := wrapI (by omega)
      have i2 : IntKind.i64.wrap ((24 : Int) + (lg (w / 65536 / 256) : Nat)) = ((24 + lg (w / 65536 / 256) : Nat) : Int) := by rw [wrapI (by omega)]; omega
      refine Sound.of mixed Tryd.func128 Tryd.ntmps128 Tryd.results128 (by kernel_rfl) rfl (by kernel_rfl) (by kernel_rfl) fun hA => ?_
      have e1 : ((65536 : Int) ≤ (w : Nat)) = True := eq_true (by omega)
      have e2 : ((256 : Int) ≤ (w / 65536 : Nat)) = True := eq_true (by omega)
      simp only [↓R1, R2, R3, R4, TY, reduceIte, Nat.reduceEqDiff, Nat.reduceAdd, Nat.reduceMul, Nat.reduceLT, Nat.reduceLeDiff, reduceCtorEq, decide_true, decide_false, Int.reduceLE, Int.reduceLT, Int.reduceToNat, Int.reduceAdd, Int.reduceSub, Int.reduceMul, Int.reduceEq, e1, e2, UN, Nat.reducePow, u8w, u32w, u32x]
      generalize hT : ByteArray.mk _ = T
      have hs : T.size = 256 := by rw [← hT]; rfl
      have hb : ∀ v : Fin 256, byteAt T (v.1 : Int) = ((lg v.1 : Nat) : Int) := by rw [← hT]; decide +kernel
      have hv := hb ⟨w / 65536 / 256, a1⟩
      simp only at hv
      clear hT hb
      simp only [↓R1, R2, R3, R4, TY, reduceIte, Nat.reduceEqDiff, Nat.reduceAdd, Nat.reduceMul, Nat.reduceLT, Nat.reduceLeDiff, reduceCtorEq, decide_true, decide_false, Int.reduceLE, Int.reduceLT, Int.reduceToNat, Int.reduceAdd, Int.reduceSub, Int.reduceMul, Int.reduceEq, hs, hv, a1, i1, i2, w24, w8, u8w, UN]
      exact Ended.back hA (Xt.refl _) rfl (RB.int _ _)
    · have a1 : w / 65536 < 256 := by omega
      have hlg := lg_le a1
      have hw : w / 2 ^ 16 = w / 65536 := by omega
      refine ⟨16 + lg (w / 65536), by omega, by omega, lg_sh hw, fun A => ?_⟩
      have u8w : w / 65536 % 256 = w / 65536 := Nat.mod_eq_of_lt (by omega)
      have u32w : w / 65536 % 4294967296 = w / 65536 := Nat.mod_eq_of_lt (by omega)
      have i1 : IntKind.i64.wrap (lg (w / 65536) : Nat) = (lg (w / 65536) : Nat) := wrapI (by omega)
      have i2 : IntKind.i64.wrap ((16 : Int) + (lg (w / 65536) : Nat)) = ((16 + lg (w / 65536) : Nat) : Int) := by rw [wrapI (by omega)]; omega
      refine Sound.of mixed Tryd.func128 Tryd.ntmps128 Tryd.results128 (by kernel_rfl) rfl (by kernel_rfl) (by kernel_rfl) fun hA => ?_
      have e1 : ((65536 : Int) ≤ (w : Nat)) = True := eq_true (by omega)
      have e2 : ((256 : Int) ≤ (w / 65536 : Nat)) = False := eq_false (by omega)
      simp only [↓R1, R2, R3, R4, TY, reduceIte, Nat.reduceEqDiff, Nat.reduceAdd, Nat.reduceMul, Nat.reduceLT, Nat.reduceLeDiff, reduceCtorEq, decide_true, decide_false, Int.reduceLE, Int.reduceLT, Int.reduceToNat, Int.reduceAdd, Int.reduceSub, Int.reduceMul, Int.reduceEq, e1, e2, UN, Nat.reducePow, u8w, u32w]
      generalize hT : ByteArray.mk _ = T
      have hs : T.size = 256 := by rw [← hT]; rfl
      have hb : ∀ v : Fin 256, byteAt T (v.1 : Int) = ((lg v.1 : Nat) : Int) := by rw [← hT]; decide +kernel
      have hv := hb ⟨w / 65536, a1⟩
      simp only at hv
      clear hT hb
      simp only [↓R1, R2, R3, R4, TY, reduceIte, Nat.reduceEqDiff, Nat.reduceAdd, Nat.reduceMul, Nat.reduceLT, Nat.reduceLeDiff, reduceCtorEq, decide_true, decide_false, Int.reduceLE, Int.reduceLT, Int.reduceToNat, Int.reduceAdd, Int.reduceSub, Int.reduceMul, Int.reduceEq, hs, hv, a1, i1, i2, w24, w8, u8w, UN]
      exact Ended.back hA (Xt.refl _) rfl (RB.int _ _)
  · have e1 : ((65536 : Int) ≤ (w : Nat)) = False := eq_false (by omega)
    by_cases c2 : 256 ≤ w
    · have a1 : w / 256 < 256 := by omega
      have hlg := lg_le a1
      have hw : w / 2 ^ 8 = w / 256 := by omega
      refine ⟨8 + lg (w / 256), by omega, by omega, lg_sh hw, fun A => ?_⟩
      have u8w : w / 256 % 256 = w / 256 := Nat.mod_eq_of_lt (by omega)
      have u32w : w / 256 % 4294967296 = w / 256 := Nat.mod_eq_of_lt (by omega)
      have i1 : IntKind.i64.wrap (lg (w / 256) : Nat) = (lg (w / 256) : Nat) := wrapI (by omega)
      have i2 : IntKind.i64.wrap ((8 : Int) + (lg (w / 256) : Nat)) = ((8 + lg (w / 256) : Nat) : Int) := by rw [wrapI (by omega)]; omega
      refine Sound.of mixed Tryd.func128 Tryd.ntmps128 Tryd.results128 (by kernel_rfl) rfl (by kernel_rfl) (by kernel_rfl) fun hA => ?_
      have e2 : ((256 : Int) ≤ (w : Nat)) = True := eq_true (by omega)
      simp only [↓R1, R2, R3, R4, TY, reduceIte, Nat.reduceEqDiff, Nat.reduceAdd, Nat.reduceMul, Nat.reduceLT, Nat.reduceLeDiff, reduceCtorEq, decide_true, decide_false, Int.reduceLE, Int.reduceLT, Int.reduceToNat, Int.reduceAdd, Int.reduceSub, Int.reduceMul, Int.reduceEq, e1, e2, UN, Nat.reducePow, u8w, u32w]
      generalize hT : ByteArray.mk _ = T
      have hs : T.size = 256 := by rw [← hT]; rfl
      have hb : ∀ v : Fin 256, byteAt T (v.1 : Int) = ((lg v.1 : Nat) : Int) := by rw [← hT]; decide +kernel
      have hv := hb ⟨w / 256, a1⟩
      simp only at hv
      clear hT hb
      simp only [↓R1, R2, R3, R4, TY, reduceIte, Nat.reduceEqDiff, Nat.reduceAdd, Nat.reduceMul, Nat.reduceLT, Nat.reduceLeDiff, reduceCtorEq, decide_true, decide_false, Int.reduceLE, Int.reduceLT, Int.reduceToNat, Int.reduceAdd, Int.reduceSub, Int.reduceMul, Int.reduceEq, hs, hv, a1, i1, i2, w24, w8, u8w, UN]
      exact Ended.back hA (Xt.refl _) rfl (RB.int _ _)
    · have a1 : w < 256 := by omega
      have hlg := lg_le a1
      have hlp := lg_pos h1
      refine ⟨lg w, hlp, by omega, lg_lt w, fun A => ?_⟩
      have u8w : w % 256 = w := Nat.mod_eq_of_lt (by omega)
      have i1 : IntKind.i64.wrap (lg w : Nat) = (lg w : Nat) := wrapI (by omega)
      have i2 : IntKind.i64.wrap ((0 : Int) + (lg w : Nat)) = ((lg w : Nat) : Int) := by rw [wrapI (by omega)]; omega
      refine Sound.of mixed Tryd.func128 Tryd.ntmps128 Tryd.results128 (by kernel_rfl) rfl (by kernel_rfl) (by kernel_rfl) fun hA => ?_
      have e2 : ((256 : Int) ≤ (w : Nat)) = False := eq_false (by omega)
      simp only [↓R1, R2, R3, R4, TY, reduceIte, Nat.reduceEqDiff, Nat.reduceAdd, Nat.reduceMul, Nat.reduceLT, Nat.reduceLeDiff, reduceCtorEq, decide_true, decide_false, Int.reduceLE, Int.reduceLT, Int.reduceToNat, Int.reduceAdd, Int.reduceSub, Int.reduceMul, Int.reduceEq, e1, e2, UN, u8w]
      generalize hT : ByteArray.mk _ = T
      have hs : T.size = 256 := by rw [← hT]; rfl
      have hb : ∀ v : Fin 256, byteAt T (v.1 : Int) = ((lg v.1 : Nat) : Int) := by rw [← hT]; decide +kernel
      have hv := hb ⟨w, a1⟩
      simp only at hv
      clear hT hb
      simp only [↓R1, R2, R3, R4, TY, reduceIte, Nat.reduceEqDiff, Nat.reduceAdd, Nat.reduceMul, Nat.reduceLT, Nat.reduceLeDiff, reduceCtorEq, decide_true, decide_false, Int.reduceLE, Int.reduceLT, Int.reduceToNat, Int.reduceAdd, Int.reduceSub, Int.reduceMul, Int.reduceEq, hs, hv, a1, i1, i2, w24, w8, u8w, UN]
      exact Ended.back hA (Xt.refl _) rfl (RB.int _ _)
theorem lead_ok {w : Nat} (h1 : 1 ≤ w) (h2 : w < 4294967296) : ∃ by' : Nat, by' ≤ 31 ∧ w * 2 ^ by' < 4294967296 ∧ ∀ A, Sound Tryd.prog G 121 [.int .u32 (w : Nat)] fl A (.int .i64 (by' : Nat)) A := by
  obtain ⟨n, n1, n2, n3, hn⟩ := len32_ok (G := G) (fl := fl) h1 h2
  refine ⟨32 - n, by omega, ?_, fun A => ?_⟩
  · have : w * 2 ^ (32 - n) < 2 ^ n * 2 ^ (32 - n) := Nat.mul_lt_mul_of_pos_right n3 (Nat.pow_pos (by omega))
    rw [← Nat.pow_add, show n + (32 - n) = 32 by omega] at this
    exact this
  refine Sound.of mixed Tryd.func121 Tryd.ntmps121 Tryd.results121 (by kernel_rfl) rfl (by kernel_rfl) (by kernel_rfl) fun hA => ?_
  have i1 : IntKind.i64.wrap ((32 : Int) - (n : Nat)) = ((32 - n : Nat) : Int) := by rw [wrapI (by omega)]; omega
  simp only [↓R1, R2, R3, R4, TY, reduceIte, Nat.reduceEqDiff, Nat.reduceAdd, Nat.reduceMul, Nat.reduceLT, Nat.reduceLeDiff, reduceCtorEq, decide_true, decide_false, Int.reduceLE, Int.reduceLT, Int.reduceToNat, Int.reduceAdd, Int.reduceSub, Int.reduceMul, Int.reduceEq]
  refine call_of (hn _) ?_
  simp only [↓R1, R2, R3, R4, TY, reduceIte, Nat.reduceEqDiff, Nat.reduceAdd, Nat.reduceMul, Nat.reduceLT, Nat.reduceLeDiff, reduceCtorEq, decide_true, decide_false, Int.reduceLE, Int.reduceLT, Int.reduceToNat, Int.reduceAdd, Int.reduceSub, Int.reduceMul, Int.reduceEq, i1]
  exact Ended.back hA (Xt.refl _) rfl (RB.int _ _)
end
end Go.Proofs.YtjkimjmocfjjnaaDoor.Ab

/- Digits shifted left. -/
namespace Go.Proofs.YtjkimjmocfjjnaaDoor.Ab
open Go.RowKit
set_option linter.unusedVariables false
set_option linter.unusedSimpArgs false
set_option maxRecDepth 100000

section
variable {G : Gl} {fl : Nat} {A : Hp}

theorem left_ok {id : Nat} {xs : List Nat} {s : Nat} (hs : s ≤ 31) (hb : A.blk id = some (.row (wc xs) 0 1)) (hidn : id < A.next) (hl : xs.length ≤ 100000000000) (kx : W32 xs) :
    Sound Tryd.prog G 122 [.slice (some ⟨id, 0, some 0⟩) xs.length xs.length, .int .i64 (s : Nat)] fl A (.slice (some ⟨A.next, 0, some 0⟩) (xs.length + 1) (xs.length + 1)) (A.push (.row (wc (wl (wv xs * 2 ^ s) (xs.length + 1))) 0 1)) := by
  refine Sound.of mixed Tryd.func122 Tryd.ntmps122 Tryd.results122 (by kernel_rfl) rfl (by kernel_rfl) (by kernel_rfl) fun hA => ?_
  have hfl := hA.floor
  have w1 : IntKind.i64.wrap ((xs.length : Int) + 1) = ((xs.length + 1 : Nat) : Int) := by rw [wrapI (by omega)]; omega
  have w4 : ((4 : Nat) : Int) * ((xs.length + 1 : Nat) : Int) ≤ 281474976710656 := by omega
  have w5 : ((xs.length + 1 : Nat) : Int) ≤ 9223372036854775807 := by omega
  have hc : 2 ^ s * 2 ^ (32 - s) = 4294967296 := by rw [← Nat.pow_add, show s + (32 - s) = 32 by omega]
  have hc' : 2 ^ (32 - s) * 2 ^ s = 4294967296 := by rw [Nat.mul_comm]; exact hc
  have hs0 : 0 < 2 ^ s := Nat.pow_pos (by omega)
  have hs1 : 2 ^ s < 4294967296 := Nat.pow_lt_pow_right (by omega) (show s < 32 by omega)
  have hms : min s 64 = s := by omega
  simp only [↓R1, R2, R3, R4, TY, reduceIte, Nat.reduceEqDiff, Nat.reduceAdd, Nat.reduceMul, Nat.reduceLT, Nat.reduceLeDiff, reduceCtorEq, decide_true, decide_false, Int.reduceLE, Int.reduceLT, Int.reduceToNat, Int.reduceAdd, Int.reduceSub, Int.reduceMul, Int.reduceEq, w1, w4, w5]
  refine range_of 15 xs.length (fun j τ B => ∃ (zs : List Nat) (c : Nat), Xt A.next A B ∧ B.next = A.next + 1 ∧ B.blk A.next = some (.row (wc (zs ++ c :: List.replicate (xs.length - j) 0)) 0 1) ∧ zs.length = j ∧ W32 zs ∧ c < 2 ^ s ∧ wv zs + 4294967296 ^ j * c = wv (xs.take j) * 2 ^ s ∧
    τ 1 = some (.int .i64 (s : Nat)) ∧ τ 5 = some (.slice (some ⟨A.next, 0, some 0⟩) (xs.length + 1) (xs.length + 1)) ∧ τ 13 = some (.slice (some ⟨id, 0, some 0⟩) xs.length xs.length) ∧ τ 14 = some (.int .i64 xs.length) ∧ τ 15 = some (.int .i64 j)) ?_ ?_
  · refine ⟨[], 0, (Xt.refl A).push _, rfl, ?_, rfl, by intro w hw; simp at hw, hs0, by simp [wv], rfl, rfl, rfl, rfl, rfl⟩
    rw [Hp.push_blk, if_pos rfl, zl_one, wc_zeros]; rfl
  rintro j τ B hj ⟨zs, c, hx, hn, hbB, hzl, hzw, hcs, hsum, q1, q5, q13, q14, q15⟩
  simp only [↓R1, R2, R3, R4, TY, reduceIte, Nat.reduceEqDiff, Nat.reduceAdd, Nat.reduceMul, Nat.reduceLT, Nat.reduceLeDiff, reduceCtorEq, decide_true, decide_false, Int.reduceLE, Int.reduceLT, Int.reduceToNat, Int.reduceAdd, Int.reduceSub, Int.reduceMul, Int.reduceEq, q13, q14, q15]
  refine ⟨fun hlt => ?_, fun hlt => ?_⟩
  rotate_left
  · obtain rfl : j = xs.length := by omega
    rw [List.take_length] at hsum
    rw [Nat.sub_self, List.replicate_zero] at hbB
    have hW : W32 (zs ++ [c]) := by
      intro w hw
      rcases List.mem_append.1 hw with h | h
      · exact hzw w h
      · rw [List.mem_singleton.1 h]; omega
    have hz : wl (wv xs * 2 ^ s) (xs.length + 1) = zs ++ [c] := by
      rw [← hsum]
      have := wl_wv hW
      rw [List.length_append, hzl, wv_snoc, hzl] at this
      exact this
    simp only [↓R1, R2, R3, R4, TY, reduceIte, Nat.reduceEqDiff, Nat.reduceAdd, Nat.reduceMul, Nat.reduceLT, Nat.reduceLeDiff, reduceCtorEq, decide_true, decide_false, Int.reduceLE, Int.reduceLT, Int.reduceToNat, Int.reduceAdd, Int.reduceSub, Int.reduceMul, Int.reduceEq, q5]
    rw [hz]
    exact Ended.one hA hx (Nat.le_refl _) hbB (Nat.le_refl _) (wc_rb _ _)
  have hj63 : j < 9223372036854775807 := by omega
  have hbx : B.blk id = some (.row (wc xs) 0 1) := by rw [hx.blk _ hidn]; exact hb
  have hgx : B.get G ⟨id, j, some 0⟩ = some (.int .u32 (xs[j] : Nat)) := by simp only [Hp.get, hbx, if_true]; exact wc_get hlt
  have hx32 : xs[j] < 4294967296 := kx _ (List.getElem_mem hlt)
  have hnn : xs[j] * 2 ^ s < 18446744073709551616 := by
    have : xs[j] * 2 ^ s < 4294967296 * 4294967296 := Nat.mul_lt_mul'' hx32 hs1
    omega
  have hgo : B.get G ⟨A.next, j, some 0⟩ = some (.int .u32 (c : Nat)) := by
    simp only [Hp.get, hbB, if_true]
    exact wc_getq (by rw [List.getElem?_append_right (by omega), hzl, Nat.sub_self]; rfl)
  have hlen : (wc (zs ++ c :: List.replicate (xs.length - j) 0)).length = xs.length + 1 := by rw [wc_length, List.length_append, hzl, List.length_cons, List.length_replicate]; omega
  have j1 : j + 1 ≤ xs.length + 1 := by omega
  have j2 : j + 1 + 1 ≤ xs.length + 1 := by omega
  have v1 : IntKind.i64.wrap ((j : Int) + 1) = ((j + 1 : Nat) : Int) := by rw [wrapI (by omega)]; omega
  have v2 : ((j : Int) + 1).toNat = j + 1 := by omega
  have jlt : j < xs.length + 1 := by omega
  have jlt2 : j + 1 < xs.length + 1 := by omega
  have m1 : xs[j] % 18446744073709551616 = xs[j] := Nat.mod_eq_of_lt (by omega)
  have m2 : xs[j] * 2 ^ s % 18446744073709551616 = xs[j] * 2 ^ s := Nat.mod_eq_of_lt hnn
  have m3 : c % 4294967296 = c := Nat.mod_eq_of_lt (by omega)
  have m4 : xs[j] * 2 ^ s % 4294967296 = xs[j] % 2 ^ (32 - s) * 2 ^ s := by
    have := Nat.mul_mod_mul_right (2 ^ s) xs[j] (2 ^ (32 - s))
    rw [hc'] at this; exact this
  have m5 : xs[j] * 2 ^ s % 4294967296 % 4294967296 = xs[j] * 2 ^ s % 4294967296 := Nat.mod_eq_of_lt (Nat.mod_lt _ (by omega))
  have m6 : xs[j] * 2 ^ s / 4294967296 < 2 ^ s := by
    rw [Nat.div_lt_iff_lt_mul (by omega), Nat.mul_comm (2 ^ s)]
    exact Nat.mul_lt_mul_of_pos_right hx32 hs0
  have m7 : xs[j] * 2 ^ s / 4294967296 % 4294967296 = xs[j] * 2 ^ s / 4294967296 := Nat.mod_eq_of_lt (by omega)
  have p32 : 2 ^ 32 = 4294967296 := rfl
  have hor : (c ||| xs[j] * 2 ^ s % 4294967296) = c + xs[j] * 2 ^ s % 4294967296 := by rw [m4]; exact or_add' hcs
  have hzb : c + xs[j] * 2 ^ s % 4294967296 < 4294967296 := by
    have h1 : xs[j] % 2 ^ (32 - s) + 1 ≤ 2 ^ (32 - s) := Nat.mod_lt _ (Nat.pow_pos (by omega))
    have h2 := Nat.mul_le_mul_right (2 ^ s) h1
    rw [hc', Nat.add_mul, Nat.one_mul, ← m4] at h2
    omega
  have hset : ∀ z d : Nat, ((wc (zs ++ c :: List.replicate (xs.length - j) 0)).set j (.int .u32 (z : Nat))).set (j + 1) (.int .u32 (d : Nat)) = wc ((zs ++ [z]) ++ d :: List.replicate (xs.length - (j + 1)) 0) := fun z d => by
    rw [wc_set, set_snoc hzl, wc_set, show xs.length - j = (xs.length - (j + 1)) + 1 by omega, List.replicate_succ, set_snoc (by simp [hzl])]
    simp
  simp only [↓R1, R2, R3, R4, TY, reduceIte, Nat.reduceEqDiff, Nat.reduceAdd, Nat.reduceMul, Nat.reduceLT, Nat.reduceLeDiff, reduceCtorEq, decide_true, decide_false, Int.reduceLE, Int.reduceLT, Int.reduceToNat, Int.reduceAdd, Int.reduceSub, Int.reduceMul, Int.reduceEq, q1, q5, q13, q14, q15, hlt, hj63, hgx, hgo, hbB, hfl, hms, hlen, j1, j2, v1, jlt, jlt2, List.length_set, m1, m2, m3, m5, m7, p32, hor, UN]
  refine range_on q15 hlt rfl ⟨zs ++ [c + xs[j] * 2 ^ s % 4294967296], xs[j] * 2 ^ s / 4294967296, by simp (maxDischargeDepth := 20) only [xt_put, hx, Nat.le_refl], hn, ?_, by simp [hzl], ?_, m6, ?_, q1, q5, q13, q14, rfl⟩
  · simp only [Hp.put_blk, if_true]; rw [hset, Nat.mod_eq_of_lt hzb]
  · intro w hw
    rcases List.mem_append.1 hw with h | h
    · exact hzw w h
    · rw [List.mem_singleton.1 h]; exact hzb
  · have e := Nat.div_add_mod (xs[j] * 2 ^ s) 4294967296
    rw [wv_snoc, hzl, wv_take_succ hlt, Nat.add_mul, ← hsum, Nat.pow_succ, Nat.mul_assoc (4294967296 ^ j) xs[j]]
    generalize (4294967296 : Nat) ^ j = p
    generalize xs[j] * 2 ^ s = n at e
    rw [Nat.mul_add, Nat.mul_assoc p 4294967296]
    have e' : p * n = p * (4294967296 * (n / 4294967296)) + p * (n % 4294967296) := by rw [← Nat.mul_add, e]
    omega
end
end Go.Proofs.YtjkimjmocfjjnaaDoor.Ab

/- A multiple taken away from digits in place, and put back. -/
namespace Go.Proofs.YtjkimjmocfjjnaaDoor.Ab
open Go.RowKit
set_option linter.unusedVariables false
set_option linter.unusedSimpArgs false
set_option maxRecDepth 100000

/-- The digits when d times v is taken away, and whether that was too much. -/
def tk (mid : List Nat) (d V : Nat) : List Nat := wl (if wv mid < d * V then wv mid + 4294967296 ^ mid.length - d * V else wv mid - d * V) mid.length
theorem tk_of {mid zs : List Nat} {d V b : Nat} (hm : W32 mid) (hz : W32 zs) (hl : zs.length = mid.length) (hdv : d * V < 4294967296 ^ mid.length) (hb : b ≤ 1) (h : wv zs + d * V = wv mid + 4294967296 ^ mid.length * b) :
    tk mid d V = zs ∧ (wv mid < d * V ↔ b = 1) := by
  have h1 := wv_lt hz
  have h2 := wv_lt hm
  rw [hl] at h1
  have hb' : b = 0 ∨ b = 1 := by omega
  unfold tk
  rcases hb' with rfl | rfl
  · rw [Nat.mul_zero, Nat.add_zero] at h
    have hn : ¬ wv mid < d * V := by omega
    rw [if_neg hn, show wv mid - d * V = wv zs by omega, ← hl, wl_wv hz]
    exact ⟨rfl, by omega⟩
  · rw [Nat.mul_one] at h
    have hn : wv mid < d * V := by omega
    rw [if_pos hn, show wv mid + 4294967296 ^ mid.length - d * V = wv zs by omega, ← hl, wl_wv hz]
    exact ⟨rfl, by omega⟩
theorem tk_step {B p z w x c b c' b' d s : Nat} (hB : B = 4294967296) (hs : s = c + d * w) (h1 : z + s % B + b = x + B * b') (hc : c' = s / B) {Z M V : Nat} (h : Z + d * V = M + p * (c + b)) :
    Z + p * z + d * (V + p * w) = M + p * x + p * B * (c' + b') := by
  have e := Nat.div_add_mod s B
  have e1 : p * z + p * (s % B) + p * b = p * x + p * B * b' := by
    rw [← Nat.mul_add, ← Nat.mul_add, h1, Nat.mul_add, Nat.mul_assoc]
  have e2 : p * s = p * (B * (s / B)) + p * (s % B) := by rw [← Nat.mul_add, e]
  have e3 : p * s = p * c + p * (d * w) := by rw [hs, Nat.mul_add]
  have e4 : d * (V + p * w) = d * V + p * (d * w) := by rw [Nat.mul_add, Nat.mul_left_comm]
  have e5 : p * B * (c' + b') = p * (B * (s / B)) + p * B * b' := by rw [Nat.mul_add, hc, Nat.mul_assoc]
  rw [Nat.mul_add] at h
  omega

section
variable {G : Gl} {fl : Nat} {A : Hp}

theorem takeAway_ok {iu iv k d c1 c2 : Nat} {lo mid hi vs more : List Nat} (hid : fl ≤ iu) (hidn : iu < A.next) (hne : iv ≠ iu) (hbu : A.blk iu = some (.row (wc (lo ++ (mid ++ hi))) 0 1)) (hbv : A.blk iv = some (.row (wc (vs ++ more)) 0 1)) (hk : lo.length = k) (hm : mid.length = vs.length + 1) (hkl : k + mid.length ≤ 100000000000) (km : W32 mid) (kv : W32 vs) (hd : d < 4294967296) :
    Sound Tryd.prog G 123 [.slice (some ⟨iu, k, some 0⟩) (vs.length + 1) c1, .slice (some ⟨iv, 0, some 0⟩) vs.length c2, .int .u64 (d : Nat)] fl A (.bool (decide (wv mid < d * wv vs))) (A.put iu (.row (wc (lo ++ (tk mid d (wv vs) ++ hi))) 0 1)) := by
  refine Sound.of mixed Tryd.func123 Tryd.ntmps123 Tryd.results123 (by kernel_rfl) rfl (by kernel_rfl) (by kernel_rfl) fun hA => ?_
  have hvn : iv < A.next := hA.lt hbv
  simp only [↓R1, R2, R3, R4, TY, reduceIte, Nat.reduceEqDiff, Nat.reduceAdd, Nat.reduceMul, Nat.reduceLT, Nat.reduceLeDiff, reduceCtorEq, decide_true, decide_false, Int.reduceLE, Int.reduceLT, Int.reduceToNat, Int.reduceAdd, Int.reduceSub, Int.reduceMul, Int.reduceEq]
  refine range_of 15 vs.length (fun j τ B => ∃ (zs : List Nat) (c b : Nat), B.next = A.next ∧ B.blk iu = some (.row (wc ((lo ++ zs) ++ (mid.drop j ++ hi))) 0 1) ∧ (∀ i, i < A.next → i ≠ iu → B.blk i = A.blk i) ∧ zs.length = j ∧ W32 zs ∧ c < 4294967296 ∧ b ≤ 1 ∧ wv zs + d * wv (vs.take j) = wv (mid.take j) + 4294967296 ^ j * (c + b) ∧
    τ 0 = some (.slice (some ⟨iu, k, some 0⟩) (vs.length + 1) c1) ∧ τ 1 = some (.slice (some ⟨iv, 0, some 0⟩) vs.length c2) ∧ τ 2 = some (.int .u64 (d : Nat)) ∧ τ 7 = some (.int .u64 (c : Nat)) ∧ τ 8 = some (.int .u64 (b : Nat)) ∧ τ 13 = some (.slice (some ⟨iv, 0, some 0⟩) vs.length c2) ∧ τ 14 = some (.int .i64 vs.length) ∧ τ 15 = some (.int .i64 j)) ?_ ?_
  · exact ⟨[], 0, 0, rfl, by simpa using hbu, fun _ _ _ => rfl, rfl, by intro w hw; simp at hw, by omega, by omega, by simp [wv], rfl, rfl, rfl, rfl, rfl, rfl, rfl, rfl⟩
  rintro j τ B hj ⟨zs, c, b, hn, hbB, hold, hzl, hzw, hc, hb1, hsum, q0, q1, q2, q7, q8, q13, q14, q15⟩
  have hzk : (lo ++ zs).length = k + j := by rw [List.length_append, hk, hzl]
  have hjm : j < mid.length := by omega
  have hgu : B.get G ⟨iu, k + j, some 0⟩ = some (.int .u32 (mid[j] : Nat)) := by
    simp only [Hp.get, hbB, if_true]
    exact wc_getq (by rw [List.getElem?_append_right (by omega), hzk, Nat.sub_self, List.getElem?_append_left (by rw [List.length_drop]; omega), List.getElem?_drop, Nat.add_zero, List.getElem?_eq_getElem hjm])
  have hx32 : mid[j] < 4294967296 := km _ (List.getElem_mem hjm)
  have hlen : (wc ((lo ++ zs) ++ (mid.drop j ++ hi))).length = k + mid.length + hi.length := by rw [wc_length, List.length_append, hzk, List.length_append, List.length_drop]; omega
  have hset : ∀ z : Nat, (wc ((lo ++ zs) ++ (mid.drop j ++ hi))).set (k + j) (.int .u32 (z : Nat)) = wc ((lo ++ (zs ++ [z])) ++ (mid.drop (j + 1) ++ hi)) := fun z => by
    rw [wc_set, List.drop_eq_getElem_cons hjm, List.cons_append, set_snoc hzk]
    simp
  have hj63 : j < 9223372036854775807 := by omega
  have m1 : mid[j] % 18446744073709551616 = mid[j] := Nat.mod_eq_of_lt (by omega)
  simp only [↓R1, R2, R3, R4, TY, reduceIte, Nat.reduceEqDiff, Nat.reduceAdd, Nat.reduceMul, Nat.reduceLT, Nat.reduceLeDiff, reduceCtorEq, decide_true, decide_false, Int.reduceLE, Int.reduceLT, Int.reduceToNat, Int.reduceAdd, Int.reduceSub, Int.reduceMul, Int.reduceEq, q13, q14, q15]
  refine ⟨fun hlt => ?_, fun hlt => ?_⟩
  · have hbB' : B.blk iv = some (.row (wc (vs ++ more)) 0 1) := by rw [hold iv hvn hne]; exact hbv
    have hgv : B.get G ⟨iv, j, some 0⟩ = some (.int .u32 (vs[j] : Nat)) := by
      simp only [Hp.get, hbB', if_true]
      exact wc_getq (by rw [List.getElem?_append_left hlt, List.getElem?_eq_getElem hlt])
    have hv32 : vs[j] < 4294967296 := kv _ (List.getElem_mem hlt)
    have hdw : d * vs[j] ≤ 4294967295 * 4294967295 := Nat.mul_le_mul (by omega) (by omega)
    have m2 : vs[j] % 18446744073709551616 = vs[j] := Nat.mod_eq_of_lt (by omega)
    have m3 : d * vs[j] % 18446744073709551616 = d * vs[j] := Nat.mod_eq_of_lt (by omega)
    have m4 : (c + d * vs[j]) % 18446744073709551616 = c + d * vs[j] := Nat.mod_eq_of_lt (by omega)
    have jlt : j < vs.length + 1 := by omega
    have j1 : k + j + 1 ≤ k + mid.length + hi.length := by omega
    have m5 : (c + d * vs[j]) % 4294967296 % 18446744073709551616 = (c + d * vs[j]) % 4294967296 := Nat.mod_eq_of_lt (by omega)
    have s1 := u64_sub (a := mid[j]) (b := (c + d * vs[j]) % 4294967296) (by omega)
    have s2 := u64_sub (a := (mid[j] + 18446744073709551616 - (c + d * vs[j]) % 4294967296) % 18446744073709551616) (b := b) (by omega)
    simp only [↓R1, R2, R3, R4, TY, reduceIte, Nat.reduceEqDiff, Nat.reduceAdd, Nat.reduceMul, Nat.reduceLT, Nat.reduceLeDiff, reduceCtorEq, decide_true, decide_false, Int.reduceLE, Int.reduceLT, Int.reduceToNat, Int.reduceAdd, Int.reduceSub, Int.reduceMul, Int.reduceEq, q0, q1, q2, q7, q8, q13, q14, q15, hlt, hj63, hgu, hgv, hbB, hlen, hid, m1, m2, m3, m4, m5, s1, s2, jlt, j1, UN]
    generalize hS : c + d * vs[j] = S at *
    have hSb : S < 18446744073709551616 := by omega
    refine range_on q15 hlt rfl ⟨zs ++ [((mid[j] + 18446744073709551616 - S % 4294967296) % 18446744073709551616 + 18446744073709551616 - b) % 18446744073709551616 % 4294967296], S / 4294967296,
      ((mid[j] + 18446744073709551616 - S % 4294967296) % 18446744073709551616 + 18446744073709551616 - b) % 18446744073709551616 / 2 ^ 63, hn, ?_, fun i hi hne => ?_, by simp [hzl], ?_, by omega, by omega, ?_, q0, q1, q2, rfl, rfl, q13, q14, rfl⟩
    · simp only [Hp.put_blk, if_true]; rw [hset]
    · rw [Hp.put_blk, if_neg hne]; exact hold i hi hne
    · intro w hw
      rcases List.mem_append.1 hw with h | h
      · exact hzw w h
      · rw [List.mem_singleton.1 h]; exact Nat.mod_lt _ (by omega)
    · rw [wv_snoc, hzl, wv_take_succ hlt, wv_take_succ hjm, Nat.pow_succ]
      exact tk_step rfl hS.symm (by omega) rfl hsum
  · obtain rfl : j = vs.length := by omega
    rw [List.take_length] at hsum
    have s1 := u64_sub (a := mid[vs.length]) (b := c) (by omega)
    have s2 := u64_sub (a := (mid[vs.length] + 18446744073709551616 - c) % 18446744073709551616) (b := b) (by omega)
    have jlt : vs.length < vs.length + 1 := by omega
    have j1 : k + vs.length + 1 ≤ k + mid.length + hi.length := by omega
    have hz := show (((mid[vs.length] + 18446744073709551616 - c) % 18446744073709551616 + 18446744073709551616 - b) % 18446744073709551616 % 4294967296) + (c + b) = mid[vs.length] + 4294967296 * (((mid[vs.length] + 18446744073709551616 - c) % 18446744073709551616 + 18446744073709551616 - b) % 18446744073709551616 / 2 ^ 63) by omega
    have hb2 : ((mid[vs.length] + 18446744073709551616 - c) % 18446744073709551616 + 18446744073709551616 - b) % 18446744073709551616 / 2 ^ 63 ≤ 1 := by omega
    have hz3 : ((mid[vs.length] + 18446744073709551616 - c) % 18446744073709551616 + 18446744073709551616 - b) % 18446744073709551616 % 4294967296 < 4294967296 := by omega
    simp only [↓R1, R2, R3, R4, TY, reduceIte, Nat.reduceEqDiff, Nat.reduceAdd, Nat.reduceMul, Nat.reduceLT, Nat.reduceLeDiff, reduceCtorEq, decide_true, decide_false, Int.reduceLE, Int.reduceLT, Int.reduceToNat, Int.reduceAdd, Int.reduceSub, Int.reduceMul, Int.reduceEq, q0, q1, q2, q7, q8, q13, q14, q15, hj63, hgu, hbB, hlen, hid, m1, s1, s2, jlt, j1, UN]
    generalize ((mid[vs.length] + 18446744073709551616 - c) % 18446744073709551616 + 18446744073709551616 - b) % 18446744073709551616 / 2 ^ 63 = b2 at *
    generalize ((mid[vs.length] + 18446744073709551616 - c) % 18446744073709551616 + 18446744073709551616 - b) % 18446744073709551616 % 4294967296 = z at *
    have hW : W32 (zs ++ [z]) := by
      intro w hw
      rcases List.mem_append.1 hw with h | h
      · exact hzw w h
      · rw [List.mem_singleton.1 h]; exact hz3
    have hp : 4294967296 ^ mid.length = 4294967296 ^ vs.length * 4294967296 := by rw [hm, Nat.pow_succ]
    have hmt : wv mid = wv (mid.take vs.length) + 4294967296 ^ vs.length * mid[vs.length] := by
      rw [← wv_take_succ hjm, ← hm, List.take_length]
    have hdv : d * wv vs < 4294967296 ^ mid.length := by
      rw [hp, Nat.mul_comm d]
      exact Nat.mul_lt_mul'' (wv_lt kv) hd
    have hall : wv (zs ++ [z]) + d * wv vs = wv mid + 4294967296 ^ mid.length * b2 := by
      rw [wv_snoc, hzl, hmt, hp]
      generalize (4294967296 : Nat) ^ vs.length = p at *
      have e1 : p * z + p * (c + b) = p * mid[vs.length] + p * 4294967296 * b2 := by rw [← Nat.mul_add, hz, Nat.mul_add, Nat.mul_assoc]
      omega
    obtain ⟨hr, hflag⟩ := tk_of km hW (by simp [hzl, hm]) hdv hb2 hall
    refine Ended.put hA hidn (fun i hi => ?_) ?_ (RB.bool _) (wc_rb _ _)
    · rw [Hp.put_blk, Hp.put_blk]
      split
      · rw [hset, hr, ← hm, List.drop_eq_nil_of_le (by omega)]; simp
      · rename_i h; exact hold i hi h
    · congr 1
      exact decide_eq_decide.2 (by rw [hflag]; omega)
end
end Go.Proofs.YtjkimjmocfjjnaaDoor.Ab

/- Digits put back in place. -/
namespace Go.Proofs.YtjkimjmocfjjnaaDoor.Ab
open Go.RowKit
set_option linter.unusedVariables false
set_option linter.unusedSimpArgs false
set_option maxRecDepth 100000

section
variable {G : Gl} {fl : Nat} {A : Hp}

theorem putBack_ok {iu iv k c1 c2 : Nat} {lo mid hi vs more : List Nat} (hid : fl ≤ iu) (hidn : iu < A.next) (hne : iv ≠ iu) (hbu : A.blk iu = some (.row (wc (lo ++ (mid ++ hi))) 0 1)) (hbv : A.blk iv = some (.row (wc (vs ++ more)) 0 1)) (hk : lo.length = k) (hm : mid.length = vs.length + 1) (hkl : k + mid.length ≤ 100000000000) (km : W32 mid) (kv : W32 vs) :
    Sound Tryd.prog G 124 [.slice (some ⟨iu, k, some 0⟩) (vs.length + 1) c1, .slice (some ⟨iv, 0, some 0⟩) vs.length c2] fl A (.tuple #[]) (A.put iu (.row (wc (lo ++ (wl ((wv mid + wv vs) % 4294967296 ^ mid.length) mid.length ++ hi))) 0 1)) := by
  refine Sound.of mixed Tryd.func124 Tryd.ntmps124 Tryd.results124 (by kernel_rfl) rfl (by kernel_rfl) (by kernel_rfl) fun hA => ?_
  have hvn : iv < A.next := hA.lt hbv
  simp only [↓R1, R2, R3, R4, TY, reduceIte, Nat.reduceEqDiff, Nat.reduceAdd, Nat.reduceMul, Nat.reduceLT, Nat.reduceLeDiff, reduceCtorEq, decide_true, decide_false, Int.reduceLE, Int.reduceLT, Int.reduceToNat, Int.reduceAdd, Int.reduceSub, Int.reduceMul, Int.reduceEq]
  refine range_of 9 vs.length (fun j τ B => ∃ (zs : List Nat) (c : Nat), B.next = A.next ∧ B.blk iu = some (.row (wc ((lo ++ zs) ++ (mid.drop j ++ hi))) 0 1) ∧ (∀ i, i < A.next → i ≠ iu → B.blk i = A.blk i) ∧ zs.length = j ∧ W32 zs ∧ c ≤ 1 ∧ wv zs + 4294967296 ^ j * c = wv (mid.take j) + wv (vs.take j) ∧
    τ 0 = some (.slice (some ⟨iu, k, some 0⟩) (vs.length + 1) c1) ∧ τ 1 = some (.slice (some ⟨iv, 0, some 0⟩) vs.length c2) ∧ τ 4 = some (.int .u64 (c : Nat)) ∧ τ 7 = some (.slice (some ⟨iv, 0, some 0⟩) vs.length c2) ∧ τ 8 = some (.int .i64 vs.length) ∧ τ 9 = some (.int .i64 j)) ?_ ?_
  · exact ⟨[], 0, rfl, by simpa using hbu, fun _ _ _ => rfl, rfl, by intro w hw; simp at hw, by omega, by simp [wv], rfl, rfl, rfl, rfl, rfl, rfl⟩
  rintro j τ B hj ⟨zs, c, hn, hbB, hold, hzl, hzw, hc, hsum, q0, q1, q4, q7, q8, q9⟩
  have hzk : (lo ++ zs).length = k + j := by rw [List.length_append, hk, hzl]
  have hjm : j < mid.length := by omega
  have hgu : B.get G ⟨iu, k + j, some 0⟩ = some (.int .u32 (mid[j] : Nat)) := by
    simp only [Hp.get, hbB, if_true]
    exact wc_getq (by rw [List.getElem?_append_right (by omega), hzk, Nat.sub_self, List.getElem?_append_left (by rw [List.length_drop]; omega), List.getElem?_drop, Nat.add_zero, List.getElem?_eq_getElem hjm])
  have hx32 : mid[j] < 4294967296 := km _ (List.getElem_mem hjm)
  have hlen : (wc ((lo ++ zs) ++ (mid.drop j ++ hi))).length = k + mid.length + hi.length := by rw [wc_length, List.length_append, hzk, List.length_append, List.length_drop]; omega
  have hset : ∀ z : Nat, (wc ((lo ++ zs) ++ (mid.drop j ++ hi))).set (k + j) (.int .u32 (z : Nat)) = wc ((lo ++ (zs ++ [z])) ++ (mid.drop (j + 1) ++ hi)) := fun z => by
    rw [wc_set, List.drop_eq_getElem_cons hjm, List.cons_append, set_snoc hzk]
    simp
  have hj63 : j < 9223372036854775807 := by omega
  have m1 : mid[j] % 18446744073709551616 = mid[j] := Nat.mod_eq_of_lt (by omega)
  simp only [↓R1, R2, R3, R4, TY, reduceIte, Nat.reduceEqDiff, Nat.reduceAdd, Nat.reduceMul, Nat.reduceLT, Nat.reduceLeDiff, reduceCtorEq, decide_true, decide_false, Int.reduceLE, Int.reduceLT, Int.reduceToNat, Int.reduceAdd, Int.reduceSub, Int.reduceMul, Int.reduceEq, q7, q8, q9]
  refine ⟨fun hlt => ?_, fun hlt => ?_⟩
  · have hbB' : B.blk iv = some (.row (wc (vs ++ more)) 0 1) := by rw [hold iv hvn hne]; exact hbv
    have hgv : B.get G ⟨iv, j, some 0⟩ = some (.int .u32 (vs[j] : Nat)) := by
      simp only [Hp.get, hbB', if_true]
      exact wc_getq (by rw [List.getElem?_append_left hlt, List.getElem?_eq_getElem hlt])
    have hv32 : vs[j] < 4294967296 := kv _ (List.getElem_mem hlt)
    have m2 : vs[j] % 18446744073709551616 = vs[j] := Nat.mod_eq_of_lt (by omega)
    have m3 : (mid[j] + vs[j]) % 18446744073709551616 = mid[j] + vs[j] := Nat.mod_eq_of_lt (by omega)
    have m4 : (c + (mid[j] + vs[j])) % 18446744073709551616 = c + (mid[j] + vs[j]) := Nat.mod_eq_of_lt (by omega)
    have jlt : j < vs.length + 1 := by omega
    have j1 : k + j + 1 ≤ k + mid.length + hi.length := by omega
    simp only [↓R1, R2, R3, R4, TY, reduceIte, Nat.reduceEqDiff, Nat.reduceAdd, Nat.reduceMul, Nat.reduceLT, Nat.reduceLeDiff, reduceCtorEq, decide_true, decide_false, Int.reduceLE, Int.reduceLT, Int.reduceToNat, Int.reduceAdd, Int.reduceSub, Int.reduceMul, Int.reduceEq, q0, q1, q4, q7, q8, q9, hlt, hj63, hgu, hgv, hbB, hlen, hid, m1, m2, m3, m4, jlt, j1, UN]
    refine range_on q9 hlt rfl ⟨zs ++ [(c + (mid[j] + vs[j])) % 4294967296], (c + (mid[j] + vs[j])) / 4294967296, hn, ?_, fun i hi hne => ?_, by simp [hzl], ?_, by omega, ?_, q0, q1, rfl, q7, q8, rfl⟩
    · simp only [Hp.put_blk, if_true]; rw [hset]
    · rw [Hp.put_blk, if_neg hne]; exact hold i hi hne
    · intro w hw
      rcases List.mem_append.1 hw with h | h
      · exact hzw w h
      · rw [List.mem_singleton.1 h]; exact Nat.mod_lt _ (by omega)
    · have e := Nat.div_add_mod (c + (mid[j] + vs[j])) 4294967296
      rw [wv_snoc, hzl, wv_take_succ hlt, wv_take_succ hjm, Nat.pow_succ]
      generalize (4294967296 : Nat) ^ j = p at *
      generalize hS : c + (mid[j] + vs[j]) = S at *
      have e1 : p * S = p * (4294967296 * (S / 4294967296)) + p * (S % 4294967296) := by rw [← Nat.mul_add, e]
      have e2 : p * S = p * c + p * mid[j] + p * vs[j] := by rw [← hS, Nat.mul_add, Nat.mul_add]; omega
      rw [Nat.mul_assoc]
      omega
  · obtain rfl : j = vs.length := by omega
    rw [List.take_length] at hsum
    have jlt : vs.length < vs.length + 1 := by omega
    have j1 : k + vs.length + 1 ≤ k + mid.length + hi.length := by omega
    have m3 : c % 4294967296 = c := Nat.mod_eq_of_lt (by omega)
    simp only [↓R1, R2, R3, R4, TY, reduceIte, Nat.reduceEqDiff, Nat.reduceAdd, Nat.reduceMul, Nat.reduceLT, Nat.reduceLeDiff, reduceCtorEq, decide_true, decide_false, Int.reduceLE, Int.reduceLT, Int.reduceToNat, Int.reduceAdd, Int.reduceSub, Int.reduceMul, Int.reduceEq, q0, q1, q4, q7, q8, q9, hj63, hgu, hbB, hlen, hid, m1, m3, jlt, j1, UN]
    have e := Nat.div_add_mod (mid[vs.length] + c) 4294967296
    have hz3 : (mid[vs.length] + c) % 4294967296 < 4294967296 := Nat.mod_lt _ (by omega)
    generalize (mid[vs.length] + c) / 4294967296 = q at *
    generalize (mid[vs.length] + c) % 4294967296 = z at *
    have hW : W32 (zs ++ [z]) := by
      intro w hw
      rcases List.mem_append.1 hw with h | h
      · exact hzw w h
      · rw [List.mem_singleton.1 h]; exact hz3
    have hp : 4294967296 ^ mid.length = 4294967296 ^ vs.length * 4294967296 := by rw [hm, Nat.pow_succ]
    have hmt : wv mid = wv (mid.take vs.length) + 4294967296 ^ vs.length * mid[vs.length] := by
      rw [← wv_take_succ hjm, ← hm, List.take_length]
    have hall : wv mid + wv vs = wv (zs ++ [z]) + 4294967296 ^ mid.length * q := by
      rw [wv_snoc, hzl, hmt, hp]
      generalize (4294967296 : Nat) ^ vs.length = p at *
      have e1 : p * mid[vs.length] + p * c = p * (4294967296 * q) + p * z := by rw [← Nat.mul_add, ← e, Nat.mul_add]
      rw [Nat.mul_assoc]
      omega
    have hlz : (zs ++ [z]).length = mid.length := by simp [hzl, hm]
    have hlt2 := wv_lt hW
    rw [hlz] at hlt2
    have hr : wl ((wv mid + wv vs) % 4294967296 ^ mid.length) mid.length = zs ++ [z] := by
      rw [hall, Nat.add_mul_mod_self_left, Nat.mod_eq_of_lt hlt2, ← hlz, wl_wv hW]
    refine Ended.put hA hidn (fun i hi => ?_) rfl (RB.tuple (by simp)) (wc_rb _ _)
    rw [Hp.put_blk, Hp.put_blk]
    split
    · rw [hset, hr, ← hm, List.drop_eq_nil_of_le (by omega)]; simp
    · rename_i h; exact hold i hi h
end
end Go.Proofs.YtjkimjmocfjjnaaDoor.Ab

/- Division digit by digit: the plain laws. -/
namespace Go.Proofs.YtjkimjmocfjjnaaDoor.Ab
open Go.RowKit
set_option linter.unusedVariables false
set_option linter.unusedSimpArgs false
set_option maxRecDepth 100000

theorem wl_add (n a b : Nat) : wl n (a + b) = wl n a ++ wl (n / 4294967296 ^ a) b := by
  induction b with
  | zero => simp [wl]
  | succ b ih => rw [show a + (b + 1) = (a + b) + 1 from rfl, wl_succ, ih, wl_succ, List.append_assoc, Nat.pow_add, Nat.div_div_eq_div_mul]
theorem wl_low {r x k : Nat} (j : Nat) (h : r < 4294967296 ^ k) : wl (r + 4294967296 ^ k * x) (k + j) = wl r k ++ wl x j := by
  rw [wl_add, Nat.add_mul_div_left _ _ (Nat.pow_pos (by omega)), Nat.div_eq_of_lt h, Nat.zero_add]
  congr 1
  have := wl_wv (wl_w32 (r + 4294967296 ^ k * x) k)
  rw [wl_length, wv_wl, Nat.add_mul_mod_self_left, Nat.mod_eq_of_lt h] at this
  exact this.symm
theorem wl_zero (k : Nat) : wl 0 k = List.replicate k 0 := by
  apply List.ext_getElem
  · simp [wl]
  · intro i h1 h2; simp [wl]
theorem wl_get {n k j : Nat} (h : j < k) : (wl n k)[j]? = some (n / 4294967296 ^ j % 4294967296) := by simp [wl, h]
theorem wl_set {x k d j : Nat} (hx : x < 4294967296 ^ k) (hj : j < k) (hd : d < 4294967296) (h0 : x / 4294967296 ^ j % 4294967296 = 0) : (wl x k).set j d = wl (x + 4294967296 ^ j * d) k := by
  have hw := (wl_w32 x k).set (j := j) hd
  have h1 := wv_set (wl x k) j d (by rw [wl_length]; exact hj)
  have h2 : (wl x k)[j]'(by rw [wl_length]; exact hj) = 0 := by simp [wl, h0]
  rw [h2, Nat.zero_mul, Nat.add_zero, wv_wl' hx, Nat.mul_comm d] at h1
  have h3 := wl_wv hw
  rw [h1, List.length_set, wl_length] at h3
  exact h3.symm

section
variable {B P V M v1 v2 top u2 d rest : Nat}
theorem est_zero (hB : B = 4294967296) (hV : V / P = v1 * B + v2) (hM : M / P = top * B + u2) (hu2 : u2 < B) (hP : 0 < P) (hv1 : 1 ≤ v1) : M < (top / v1 + 1) * V := by
  have h1 : M < (top * B + u2 + 1) * P := by rw [← hM, Nat.mul_comm]; exact Nat.lt_mul_div_succ _ hP
  have h2 : (v1 * B + v2) * P ≤ V := by rw [← hV]; exact Nat.div_mul_le_self _ _
  have h3 : top < (top / v1 + 1) * v1 := by rw [Nat.mul_comm]; exact Nat.lt_mul_div_succ _ hv1
  generalize top / v1 + 1 = e at *
  have h4 : (top + 1) * B ≤ e * v1 * B := Nat.mul_le_mul_right _ h3
  have h5 : (top * B + u2 + 1) * P ≤ e * v1 * B * P := Nat.mul_le_mul_right _ (by rw [Nat.add_mul] at h4; omega)
  have h6 : e * v1 * B * P ≤ e * V := by
    rw [Nat.mul_assoc e, Nat.mul_assoc e]
    refine Nat.mul_le_mul_left _ (Nat.le_trans ?_ h2)
    exact Nat.mul_le_mul_right _ (by omega)
  omega
theorem est_more (hV : V / P = v1 * B + v2) (hM : M / P = top * B + u2) (hP : 0 < P) (hMV : M < V * B) (hB0 : 0 < B) (ht : d * v1 + rest = top) (h : B ≤ d ∨ rest * B + u2 < d * v2) : 1 ≤ d ∧ M < d * V := by
  rcases h with h | h
  · refine ⟨by omega, Nat.lt_of_lt_of_le hMV ?_⟩
    rw [Nat.mul_comm]; exact Nat.mul_le_mul_right _ h
  · refine ⟨?_, ?_⟩
    · rcases Nat.eq_zero_or_pos d with h0 | h0
      · rw [h0, Nat.zero_mul] at h; omega
      · exact h0
    have h1 : M < (top * B + u2 + 1) * P := by rw [← hM, Nat.mul_comm]; exact Nat.lt_mul_div_succ _ hP
    have h2 : (v1 * B + v2) * P ≤ V := by rw [← hV]; exact Nat.div_mul_le_self _ _
    have h3 : d * ((v1 * B + v2) * P) ≤ d * V := Nat.mul_le_mul_left _ h2
    rw [← Nat.mul_assoc] at h3
    have h4 : (top * B + u2 + 1) * P ≤ d * (v1 * B + v2) * P := by
      refine Nat.mul_le_mul_right _ ?_
      rw [← ht, Nat.mul_add, ← Nat.mul_assoc, Nat.add_mul]
      omega
    omega
theorem est_end (hB : B = 4294967296) (hV : V / P = v1 * B + v2) (hM : M / P = top * B + u2) (hv2 : v2 < B) (hP : 0 < P) (hMV : M < V * B) (hv1 : 1 ≤ v1) (ht : d * v1 + rest = top) (h : B ≤ rest ∨ d < B ∧ d * v2 ≤ rest * B + u2) : d < B ∧ d * V ≤ M + V := by
  have h1 : V < (v1 * B + v2 + 1) * P := by rw [← hV, Nat.mul_comm]; exact Nat.lt_mul_div_succ _ hP
  have h2 : (v1 * B + v2) * P ≤ V := by rw [← hV]; exact Nat.div_mul_le_self _ _
  have h3 : (top * B + u2) * P ≤ M := by rw [← hM]; exact Nat.div_mul_le_self _ _
  have hB0 : 0 < B := by omega
  have hd : d < B ∧ d * v2 ≤ rest * B + u2 := by
    rcases h with h | h
    · have h4 : V ≤ (v1 + 1) * B * P := by
        refine Nat.le_trans (Nat.le_of_lt h1) (Nat.mul_le_mul_right _ ?_)
        rw [Nat.add_mul]; omega
      have h5 : top * B * P < (v1 + 1) * B * P * B := by
        refine Nat.lt_of_le_of_lt (Nat.le_trans (Nat.mul_le_mul_right _ (by omega)) h3) (Nat.lt_of_lt_of_le hMV (Nat.mul_le_mul_right _ h4))
      have h6 : top < (v1 + 1) * B := by
        have e1 : (v1 + 1) * B * P * B = (v1 + 1) * B * (B * P) := by rw [Nat.mul_assoc, Nat.mul_comm P B]
        rw [e1, Nat.mul_assoc top] at h5
        exact Nat.lt_of_mul_lt_mul_right h5
      rw [Nat.add_mul] at h6
      have h7 : d * v1 < B * v1 := by rw [Nat.mul_comm B]; omega
      have h8 : d < B := Nat.lt_of_mul_lt_mul_right h7
      refine ⟨h8, ?_⟩
      have h9 : d * v2 ≤ B * B := Nat.mul_le_mul (by omega) (by omega)
      have h10 : B * B ≤ rest * B := Nat.mul_le_mul_right _ h
      omega
    · exact h
  refine ⟨hd.1, ?_⟩
  have e := Nat.div_add_mod V P
  have hlo := Nat.mod_lt V hP
  rw [hV] at e
  have h4 : d * V = d * (v1 * B + v2) * P + d * (V % P) := by
    conv => lhs; rw [← e]
    rw [Nat.mul_add, Nat.mul_comm P, ← Nat.mul_assoc]
  have h5 : d * (v1 * B + v2) * P ≤ (top * B + u2) * P := by
    refine Nat.mul_le_mul_right _ ?_
    rw [← ht, Nat.mul_add, ← Nat.mul_assoc, Nat.add_mul]
    omega
  have h6 : d * (V % P) ≤ B * P := Nat.mul_le_mul (by omega) (by omega)
  have h7 : B * P ≤ V := by
    refine Nat.le_trans (Nat.mul_le_mul_right _ ?_) h2
    have : B * 1 ≤ B * v1 := Nat.mul_le_mul_left _ hv1
    rw [Nat.mul_comm v1]; omega
  omega
end
/-- One digit of the quotient is found. -/
theorem digit_found {R Qn U0 V M k r0 d p B : Nat} (hR : R = r0 + p * M) (hr : r0 < p) (hsum : R + Qn * V = U0) (h1 : d * V ≤ M) (h2 : M < (d + 1) * V) :
    (r0 + p * (M - d * V)) + (Qn + p * d) * V = U0 ∧ r0 + p * (M - d * V) < V * p := by
  have e : p * M = p * (M - d * V) + p * (d * V) := by rw [← Nat.mul_add]; congr 1; omega
  refine ⟨by rw [Nat.add_mul, Nat.mul_assoc]; omega, ?_⟩
  rw [Nat.add_mul] at h2
  have : p * (M - d * V + 1) ≤ p * V := Nat.mul_le_mul_left _ (by omega)
  rw [Nat.mul_add] at this
  rw [Nat.mul_comm V]
  omega
end Go.Proofs.YtjkimjmocfjjnaaDoor.Ab
