/- Leading zeros; digits shifted left. -/
import Derived.Test.YtpaffoiiipgkeaaDoorNk
namespace Go.Proofs.YtpaffoiiipgkeaaDoor.Ab
open Go.RowKit
set_option linter.unusedVariables false
set_option linter.unusedSimpArgs false
set_option maxRecDepth 100000

def lg (v : Nat) : Nat := if v = 0 then 0 else Nat.log2 v + 1
theorem w24 : IntKind.i64.wrap 24 = 24 := rfl
theorem w8 : IntKind.i64.wrap 8 = 8 := rfl
theorem lg_lt (v : Nat) : v < 2 ^ lg v := by
  unfold lg; split
  · omega
  · exact Nat.lt_log2_self
theorem lg_le {v : Nat} (h : v < 256) : lg v ≤ 8 := by
  unfold lg; split
  · omega
  · rename_i h0; have := (Nat.log2_lt h0 (k := 8)).2 h; omega
theorem lg_pos {v : Nat} (h : 1 ≤ v) : 1 ≤ lg v := by
  unfold lg; rw [if_neg (by omega)]; omega
theorem lg_sh {w k v : Nat} (h : w / 2 ^ k = v) : w < 2 ^ (k + lg v) := by
  have := lg_lt v
  rw [← h, Nat.div_lt_iff_lt_mul (Nat.pow_pos (by omega)), h] at this
  rw [Nat.pow_add, Nat.mul_comm]; exact this

section
variable {G : Gl} {fl : Nat} {A : Hp}

theorem len32_ok {w : Nat} (h1 : 1 ≤ w) (h2 : w < 4294967296) : ∃ n : Nat, 1 ≤ n ∧ n ≤ 32 ∧ w < 2 ^ n ∧ ∀ A, Sound Tryd.prog G 93 [.int .u32 (w : Nat)] fl A (.int .i64 (n : Nat)) A := by
  by_cases c1 : 65536 ≤ w
  · by_cases c2 : 256 ≤ w / 65536
    · have a1 : w / 65536 / 256 < 256 := by omega
      have hlg := lg_le a1
      have hw : w / 2 ^ 24 = w / 65536 / 256 := by omega
      refine ⟨24 + lg (w / 65536 / 256), by omega, by omega, lg_sh hw, fun A => ?_⟩
      have u8w : w / 65536 / 256 % 256 = w / 65536 / 256 := Nat.mod_eq_of_lt (by omega)
      have u32w : w / 65536 % 4294967296 = w / 65536 := Nat.mod_eq_of_lt (by omega)
      have u32x : w / 65536 / 256 % 4294967296 = w / 65536 / 256 := Nat.mod_eq_of_lt (by omega)
      have i1 : IntKind.i64.wrap (lg (w / 65536 / 256) : Nat) = (lg (w / 65536 / 256) : Nat) := wrapI (by omega)
      have i2 : IntKind.i64.wrap ((24 : Int) + (lg (w / 65536 / 256) : Nat)) = ((24 + lg (w / 65536 / 256) : Nat) : Int) := by rw [wrapI (by omega)]; omega
      refine Sound.of mixed Tryd.func93 Tryd.ntmps93 Tryd.results93 (by kernel_rfl) rfl (by kernel_rfl) (by simp) fun hA => ?_
      have e1 : ((65536 : Int) ≤ (w : Nat)) = True := eq_true (by omega)
      have e2 : ((256 : Int) ≤ (w / 65536 : Nat)) = True := eq_true (by omega)
      simp only [↓R1, R2, R3, R4, TY, reduceIte, Nat.reduceEqDiff, Nat.reduceAdd, Nat.reduceMul, Nat.reduceLT, Nat.reduceLeDiff, reduceCtorEq, decide_true, decide_false, Int.reduceLE, Int.reduceLT, Int.reduceToNat, Int.reduceAdd, Int.reduceSub, Int.reduceMul, Int.reduceEq, e1, e2, UN, Nat.reducePow, u8w, u32w, u32x]
      generalize hT : ByteArray.mk _ = T
      have hs : T.size = 256 := by rw [← hT]; rfl
      have hb : ∀ v : Fin 256, byteAt T (v.1 : Int) = ((lg v.1 : Nat) : Int) := by rw [← hT]; decide +kernel
      have hv := hb ⟨w / 65536 / 256, a1⟩
      simp only at hv
      clear hT hb
      simp only [↓R1, R2, R3, R4, TY, reduceIte, Nat.reduceEqDiff, Nat.reduceAdd, Nat.reduceMul, Nat.reduceLT, Nat.reduceLeDiff, reduceCtorEq, decide_true, decide_false, Int.reduceLE, Int.reduceLT, Int.reduceToNat, Int.reduceAdd, Int.reduceSub, Int.reduceMul, Int.reduceEq, hs, hv, a1, i1, i2, w24, w8, u8w, UN]
      exact Ended.back hA (Xt.refl _) rfl (RB.int _ _)
    · have a1 : w / 65536 < 256 := by omega
      have hlg := lg_le a1
      have hw : w / 2 ^ 16 = w / 65536 := by omega
      refine ⟨16 + lg (w / 65536), by omega, by omega, lg_sh hw, fun A => ?_⟩
      have u8w : w / 65536 % 256 = w / 65536 := Nat.mod_eq_of_lt (by omega)
      have u32w : w / 65536 % 4294967296 = w / 65536 := Nat.mod_eq_of_lt (by omega)
      have i1 : IntKind.i64.wrap (lg (w / 65536) : Nat) = (lg (w / 65536) : Nat) := wrapI (by omega)
      have i2 : IntKind.i64.wrap ((16 : Int) + (lg (w / 65536) : Nat)) = ((16 + lg (w / 65536) : Nat) : Int) := by rw [wrapI (by omega)]; omega
      refine Sound.of mixed Tryd.func93 Tryd.ntmps93 Tryd.results93 (by kernel_rfl) rfl (by kernel_rfl) (by simp) fun hA => ?_
      have e1 : ((65536 : Int) ≤ (w : Nat)) = True := eq_true (by omega)
      have e2 : ((256 : Int) ≤ (w / 65536 : Nat)) = False := eq_false (by omega)
      simp only [↓R1, R2, R3, R4, TY, reduceIte, Nat.reduceEqDiff, Nat.reduceAdd, Nat.reduceMul, Nat.reduceLT, Nat.reduceLeDiff, reduceCtorEq, decide_true, decide_false, Int.reduceLE, Int.reduceLT, Int.reduceToNat, Int.reduceAdd, Int.reduceSub, Int.reduceMul, Int.reduceEq, e1, e2, UN, Nat.reducePow, u8w, u32w]
      generalize hT : ByteArray.mk _ = T
      have hs : T.size = 256 := by rw [← hT]; rfl
      have hb : ∀ v : Fin 256, byteAt T (v.1 : Int) = ((lg v.1 : Nat) : Int) := by rw [← hT]; decide +kernel
      have hv := hb ⟨w / 65536, a1⟩
      simp only at hv
      clear hT hb
      simp only [↓R1, R2, R3, R4, TY, reduceIte, Nat.reduceEqDiff, Nat.reduceAdd, Nat.reduceMul, Nat.reduceLT, Nat.reduceLeDiff, reduceCtorEq, decide_true, decide_false, Int.reduceLE, Int.reduceLT, Int.reduceToNat, Int.reduceAdd, Int.reduceSub, Int.reduceMul, Int.reduceEq, hs, hv, a1, i1, i2, w24, w8, u8w, UN]
      exact Ended.back hA (Xt.refl _) rfl (RB.int _ _)
  · have e1 : ((65536 : Int) ≤ (w : Nat)) = False := eq_false (by omega)
    by_cases c2 : 256 ≤ w
    · have a1 : w / 256 < 256 := by omega
      have hlg := lg_le a1
      have hw : w / 2 ^ 8 = w / 256 := by omega
      refine ⟨8 + lg (w / 256), by omega, by omega, lg_sh hw, fun A => ?_⟩
      have u8w : w / 256 % 256 = w / 256 := Nat.mod_eq_of_lt (by omega)
      have u32w : w / 256 % 4294967296 = w / 256 := Nat.mod_eq_of_lt (by omega)
      have i1 : IntKind.i64.wrap (lg (w / 256) : Nat) = (lg (w / 256) : Nat) := wrapI (by omega)
      have i2 : IntKind.i64.wrap ((8 : Int) + (lg (w / 256) : Nat)) = ((8 + lg (w / 256) : Nat) : Int) := by rw [wrapI (by omega)]; omega
      refine Sound.of mixed Tryd.func93 Tryd.ntmps93 Tryd.results93 (by kernel_rfl) rfl (by kernel_rfl) (by simp) fun hA => ?_
      have e2 : ((256 : Int) ≤ (w : Nat)) = True := eq_true (by omega)
      simp only [↓R1, R2, R3, R4, TY, reduceIte, Nat.reduceEqDiff, Nat.reduceAdd, Nat.reduceMul, Nat.reduceLT, Nat.reduceLeDiff, reduceCtorEq, decide_true, decide_false, Int.reduceLE, Int.reduceLT, Int.reduceToNat, Int.reduceAdd, Int.reduceSub, Int.reduceMul, Int.reduceEq, e1, e2, UN, Nat.reducePow, u8w, u32w]
      generalize hT : ByteArray.mk _ = T
      have hs : T.size = 256 := by rw [← hT]; rfl
      have hb : ∀ v : Fin 256, byteAt T (v.1 : Int) = ((lg v.1 : Nat) : Int) := by rw [← hT]; decide +kernel
      have hv := hb ⟨w / 256, a1⟩
      simp only at hv
      clear hT hb
      simp only [↓R1, R2, R3, R4, TY, reduceIte, Nat.reduceEqDiff, Nat.reduceAdd, Nat.reduceMul, Nat.reduceLT, Nat.reduceLeDiff, reduceCtorEq, decide_true, decide_false, Int.reduceLE, Int.reduceLT, Int.reduceToNat, Int.reduceAdd, Int.reduceSub, Int.reduceMul, Int.reduceEq, hs, hv, a1, i1, i2, w24, w8, u8w, UN]
      exact Ended.back hA (Xt.refl _) rfl (RB.int _ _)
    · have a1 : w < 256 := by omega
      have hlg := lg_le a1
      have hlp := lg_pos h1
      refine ⟨lg w, hlp, by omega, lg_lt w, fun A => ?_⟩
      have u8w : w % 256 = w := Nat.mod_eq_of_lt (by omega)
      have i1 : IntKind.i64.wrap (lg w : Nat) = (lg w : Nat) := wrapI (by omega)
      have i2 : IntKind.i64.wrap ((0 : Int) + (lg w : Nat)) = ((lg w : Nat) : Int) := by rw [wrapI (by omega)]; omega
      refine Sound.of mixed Tryd.func93 Tryd.ntmps93 Tryd.results93 (by kernel_rfl) rfl (by kernel_rfl) (by simp) fun hA => ?_
      have e2 : ((256 : Int) ≤ (w : Nat)) = False := eq_false (by omega)
      simp only [↓R1, R2, R3, R4, TY, reduceIte, Nat.reduceEqDiff, Nat.reduceAdd, Nat.reduceMul, Nat.reduceLT, Nat.reduceLeDiff, reduceCtorEq, decide_true, decide_false, Int.reduceLE, Int.reduceLT, Int.reduceToNat, Int.reduceAdd, Int.reduceSub, Int.reduceMul, Int.reduceEq, e1, e2, UN, u8w]
      generalize hT : ByteArray.mk _ = T
      have hs : T.size = 256 := by rw [← hT]; rfl
      have hb : ∀ v : Fin 256, byteAt T (v.1 : Int) = ((lg v.1 : Nat) : Int) := by rw [← hT]; decide +kernel
      have hv := hb ⟨w, a1⟩
      simp only at hv
      clear hT hb
      simp only [↓R1, R2, R3, R4, TY, reduceIte, Nat.reduceEqDiff, Nat.reduceAdd, Nat.reduceMul, Nat.reduceLT, Nat.reduceLeDiff, reduceCtorEq, decide_true, decide_false, Int.reduceLE, Int.reduceLT, Int.reduceToNat, Int.reduceAdd, Int.reduceSub, Int.reduceMul, Int.reduceEq, hs, hv, a1, i1, i2, w24, w8, u8w, UN]
      exact Ended.back hA (Xt.refl _) rfl (RB.int _ _)
theorem lead_ok {w : Nat} (h1 : 1 ≤ w) (h2 : w < 4294967296) : ∃ by' : Nat, by' ≤ 31 ∧ w * 2 ^ by' < 4294967296 ∧ ∀ A, Sound Tryd.prog G 71 [.int .u32 (w : Nat)] fl A (.int .i64 (by' : Nat)) A := by
  obtain ⟨n, n1, n2, n3, hn⟩ := len32_ok (G := G) (fl := fl) h1 h2
  refine ⟨32 - n, by omega, ?_, fun A => ?_⟩
  · have : w * 2 ^ (32 - n) < 2 ^ n * 2 ^ (32 - n) := Nat.mul_lt_mul_of_pos_right n3 (Nat.pow_pos (by omega))
    rw [← Nat.pow_add, show n + (32 - n) = 32 by omega] at this
    exact this
  refine Sound.of mixed Tryd.func71 Tryd.ntmps71 Tryd.results71 (by kernel_rfl) rfl (by kernel_rfl) (by simp) fun hA => ?_
  have i1 : IntKind.i64.wrap ((32 : Int) - (n : Nat)) = ((32 - n : Nat) : Int) := by rw [wrapI (by omega)]; omega
  simp only [↓R1, R2, R3, R4, TY, reduceIte, Nat.reduceEqDiff, Nat.reduceAdd, Nat.reduceMul, Nat.reduceLT, Nat.reduceLeDiff, reduceCtorEq, decide_true, decide_false, Int.reduceLE, Int.reduceLT, Int.reduceToNat, Int.reduceAdd, Int.reduceSub, Int.reduceMul, Int.reduceEq]
  refine call_of (hn _) ?_
  simp only [↓R1, R2, R3, R4, TY, reduceIte, Nat.reduceEqDiff, Nat.reduceAdd, Nat.reduceMul, Nat.reduceLT, Nat.reduceLeDiff, reduceCtorEq, decide_true, decide_false, Int.reduceLE, Int.reduceLT, Int.reduceToNat, Int.reduceAdd, Int.reduceSub, Int.reduceMul, Int.reduceEq, i1]
  exact Ended.back hA (Xt.refl _) rfl (RB.int _ _)
end
end Go.Proofs.YtpaffoiiipgkeaaDoor.Ab
