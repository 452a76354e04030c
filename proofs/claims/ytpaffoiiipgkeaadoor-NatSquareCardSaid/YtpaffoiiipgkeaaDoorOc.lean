/- A multiple taken away from digits in place, and put back. -/
import Derived.Test.YtpaffoiiipgkeaaDoorOb
namespace Go.Proofs.YtpaffoiiipgkeaaDoor.Ab
open Go.RowKit
set_option linter.unusedVariables false
set_option linter.unusedSimpArgs false
set_option maxRecDepth 100000

/-- The digits when d times v is taken away, and whether that was too much. -/
def tk (mid : List Nat) (d V : Nat) : List Nat := wl (if wv mid < d * V then wv mid + 4294967296 ^ mid.length - d * V else wv mid - d * V) mid.length
theorem tk_of {mid zs : List Nat} {d V b : Nat} (hm : W32 mid) (hz : W32 zs) (hl : zs.length = mid.length) (hdv : d * V < 4294967296 ^ mid.length) (hb : b ≤ 1) (h : wv zs + d * V = wv mid + 4294967296 ^ mid.length * b) :
    tk mid d V = zs ∧ (wv mid < d * V ↔ b = 1) := by
  have h1 := wv_lt hz
  have h2 := wv_lt hm
  rw [hl] at h1
  have hb' : b = 0 ∨ b = 1 := by omega
  unfold tk
  rcases hb' with rfl | rfl
  · rw [Nat.mul_zero, Nat.add_zero] at h
    have hn : ¬ wv mid < d * V := by omega
    rw [if_neg hn, show wv mid - d * V = wv zs by omega, ← hl, wl_wv hz]
    exact ⟨rfl, by omega⟩
  · rw [Nat.mul_one] at h
    have hn : wv mid < d * V := by omega
    rw [if_pos hn, show wv mid + 4294967296 ^ mid.length - d * V = wv zs by omega, ← hl, wl_wv hz]
    exact ⟨rfl, by omega⟩
theorem tk_step {B p z w x c b c' b' d s : Nat} (hB : B = 4294967296) (hs : s = c + d * w) (h1 : z + s % B + b = x + B * b') (hc : c' = s / B) {Z M V : Nat} (h : Z + d * V = M + p * (c + b)) :
    Z + p * z + d * (V + p * w) = M + p * x + p * B * (c' + b') := by
  have e := Nat.div_add_mod s B
  have e1 : p * z + p * (s % B) + p * b = p * x + p * B * b' := by
    rw [← Nat.mul_add, ← Nat.mul_add, h1, Nat.mul_add, Nat.mul_assoc]
  have e2 : p * s = p * (B * (s / B)) + p * (s % B) := by rw [← Nat.mul_add, e]
  have e3 : p * s = p * c + p * (d * w) := by rw [hs, Nat.mul_add]
  have e4 : d * (V + p * w) = d * V + p * (d * w) := by rw [Nat.mul_add, Nat.mul_left_comm]
  have e5 : p * B * (c' + b') = p * (B * (s / B)) + p * B * b' := by rw [Nat.mul_add, hc, Nat.mul_assoc]
  rw [Nat.mul_add] at h
  omega

section
variable {G : Gl} {fl : Nat} {A : Hp}

theorem takeAway_ok {iu iv k d c1 c2 : Nat} {lo mid hi vs more : List Nat} (hid : fl ≤ iu) (hidn : iu < A.next) (hne : iv ≠ iu) (hbu : A.blk iu = some (.row (wc (lo ++ (mid ++ hi))) 0 1)) (hbv : A.blk iv = some (.row (wc (vs ++ more)) 0 1)) (hk : lo.length = k) (hm : mid.length = vs.length + 1) (hkl : k + mid.length ≤ 1000000) (km : W32 mid) (kv : W32 vs) (hd : d < 4294967296) :
    Sound Tryd.prog G 73 [.slice (some ⟨iu, k, some 0⟩) (vs.length + 1) c1, .slice (some ⟨iv, 0, some 0⟩) vs.length c2, .int .u64 (d : Nat)] fl A (.bool (decide (wv mid < d * wv vs))) (A.put iu (.row (wc (lo ++ (tk mid d (wv vs) ++ hi))) 0 1)) := by
  refine Sound.of mixed Tryd.func73 Tryd.ntmps73 Tryd.results73 (by kernel_rfl) rfl (by kernel_rfl) (by simp) fun hA => ?_
  have hvn : iv < A.next := hA.lt hbv
  simp only [↓R1, R2, R3, R4, TY, reduceIte, Nat.reduceEqDiff, Nat.reduceAdd, Nat.reduceMul, Nat.reduceLT, Nat.reduceLeDiff, reduceCtorEq, decide_true, decide_false, Int.reduceLE, Int.reduceLT, Int.reduceToNat, Int.reduceAdd, Int.reduceSub, Int.reduceMul, Int.reduceEq]
  refine range_of 15 vs.length (fun j τ B => ∃ (zs : List Nat) (c b : Nat), B.next = A.next ∧ B.blk iu = some (.row (wc ((lo ++ zs) ++ (mid.drop j ++ hi))) 0 1) ∧ (∀ i, i < A.next → i ≠ iu → B.blk i = A.blk i) ∧ zs.length = j ∧ W32 zs ∧ c < 4294967296 ∧ b ≤ 1 ∧ wv zs + d * wv (vs.take j) = wv (mid.take j) + 4294967296 ^ j * (c + b) ∧
    τ 0 = some (.slice (some ⟨iu, k, some 0⟩) (vs.length + 1) c1) ∧ τ 1 = some (.slice (some ⟨iv, 0, some 0⟩) vs.length c2) ∧ τ 2 = some (.int .u64 (d : Nat)) ∧ τ 7 = some (.int .u64 (c : Nat)) ∧ τ 8 = some (.int .u64 (b : Nat)) ∧ τ 13 = some (.slice (some ⟨iv, 0, some 0⟩) vs.length c2) ∧ τ 14 = some (.int .i64 vs.length) ∧ τ 15 = some (.int .i64 j)) ?_ ?_
  · exact ⟨[], 0, 0, rfl, by simpa using hbu, fun _ _ _ => rfl, rfl, by intro w hw; simp at hw, by omega, by omega, by simp [wv], rfl, rfl, rfl, rfl, rfl, rfl, rfl, rfl⟩
  rintro j τ B hj ⟨zs, c, b, hn, hbB, hold, hzl, hzw, hc, hb1, hsum, q0, q1, q2, q7, q8, q13, q14, q15⟩
  have hzk : (lo ++ zs).length = k + j := by rw [List.length_append, hk, hzl]
  have hjm : j < mid.length := by omega
  have hgu : B.get G ⟨iu, k + j, some 0⟩ = some (.int .u32 (mid[j] : Nat)) := by
    simp only [Hp.get, hbB, if_true]
    exact wc_getq (by rw [List.getElem?_append_right (by omega), hzk, Nat.sub_self, List.getElem?_append_left (by rw [List.length_drop]; omega), List.getElem?_drop, Nat.add_zero, List.getElem?_eq_getElem hjm])
  have hx32 : mid[j] < 4294967296 := km _ (List.getElem_mem hjm)
  have hlen : (wc ((lo ++ zs) ++ (mid.drop j ++ hi))).length = k + mid.length + hi.length := by rw [wc_length, List.length_append, hzk, List.length_append, List.length_drop]; omega
  have hset : ∀ z : Nat, (wc ((lo ++ zs) ++ (mid.drop j ++ hi))).set (k + j) (.int .u32 (z : Nat)) = wc ((lo ++ (zs ++ [z])) ++ (mid.drop (j + 1) ++ hi)) := fun z => by
    rw [wc_set, List.drop_eq_getElem_cons hjm, List.cons_append, set_snoc hzk]
    simp
  have hj63 : j < 9223372036854775807 := by omega
  have m1 : mid[j] % 18446744073709551616 = mid[j] := Nat.mod_eq_of_lt (by omega)
  simp only [↓R1, R2, R3, R4, TY, reduceIte, Nat.reduceEqDiff, Nat.reduceAdd, Nat.reduceMul, Nat.reduceLT, Nat.reduceLeDiff, reduceCtorEq, decide_true, decide_false, Int.reduceLE, Int.reduceLT, Int.reduceToNat, Int.reduceAdd, Int.reduceSub, Int.reduceMul, Int.reduceEq, q13, q14, q15]
  refine ⟨fun hlt => ?_, fun hlt => ?_⟩
  · have hbB' : B.blk iv = some (.row (wc (vs ++ more)) 0 1) := by rw [hold iv hvn hne]; exact hbv
    have hgv : B.get G ⟨iv, j, some 0⟩ = some (.int .u32 (vs[j] : Nat)) := by
      simp only [Hp.get, hbB', if_true]
      exact wc_getq (by rw [List.getElem?_append_left hlt, List.getElem?_eq_getElem hlt])
    have hv32 : vs[j] < 4294967296 := kv _ (List.getElem_mem hlt)
    have hdw : d * vs[j] ≤ 4294967295 * 4294967295 := Nat.mul_le_mul (by omega) (by omega)
    have m2 : vs[j] % 18446744073709551616 = vs[j] := Nat.mod_eq_of_lt (by omega)
    have m3 : d * vs[j] % 18446744073709551616 = d * vs[j] := Nat.mod_eq_of_lt (by omega)
    have m4 : (c + d * vs[j]) % 18446744073709551616 = c + d * vs[j] := Nat.mod_eq_of_lt (by omega)
    have jlt : j < vs.length + 1 := by omega
    have j1 : k + j + 1 ≤ k + mid.length + hi.length := by omega
    have m5 : (c + d * vs[j]) % 4294967296 % 18446744073709551616 = (c + d * vs[j]) % 4294967296 := Nat.mod_eq_of_lt (by omega)
    have s1 := u64_sub (a := mid[j]) (b := (c + d * vs[j]) % 4294967296) (by omega)
    have s2 := u64_sub (a := (mid[j] + 18446744073709551616 - (c + d * vs[j]) % 4294967296) % 18446744073709551616) (b := b) (by omega)
    simp only [↓R1, R2, R3, R4, TY, reduceIte, Nat.reduceEqDiff, Nat.reduceAdd, Nat.reduceMul, Nat.reduceLT, Nat.reduceLeDiff, reduceCtorEq, decide_true, decide_false, Int.reduceLE, Int.reduceLT, Int.reduceToNat, Int.reduceAdd, Int.reduceSub, Int.reduceMul, Int.reduceEq, q0, q1, q2, q7, q8, q13, q14, q15, hlt, hj63, hgu, hgv, hbB, hlen, hid, m1, m2, m3, m4, m5, s1, s2, jlt, j1, UN]
    generalize hS : c + d * vs[j] = S at *
    have hSb : S < 18446744073709551616 := by omega
    refine range_on q15 hlt rfl ⟨zs ++ [((mid[j] + 18446744073709551616 - S % 4294967296) % 18446744073709551616 + 18446744073709551616 - b) % 18446744073709551616 % 4294967296], S / 4294967296,
      ((mid[j] + 18446744073709551616 - S % 4294967296) % 18446744073709551616 + 18446744073709551616 - b) % 18446744073709551616 / 2 ^ 63, hn, ?_, fun i hi hne => ?_, by simp [hzl], ?_, by omega, by omega, ?_, q0, q1, q2, rfl, rfl, q13, q14, rfl⟩
    · simp only [Hp.put_blk, if_true]; rw [hset]
    · rw [Hp.put_blk, if_neg hne]; exact hold i hi hne
    · intro w hw
      rcases List.mem_append.1 hw with h | h
      · exact hzw w h
      · rw [List.mem_singleton.1 h]; exact Nat.mod_lt _ (by omega)
    · rw [wv_snoc, hzl, wv_take_succ hlt, wv_take_succ hjm, Nat.pow_succ]
      exact tk_step rfl hS.symm (by omega) rfl hsum
  · obtain rfl : j = vs.length := by omega
    rw [List.take_length] at hsum
    have s1 := u64_sub (a := mid[vs.length]) (b := c) (by omega)
    have s2 := u64_sub (a := (mid[vs.length] + 18446744073709551616 - c) % 18446744073709551616) (b := b) (by omega)
    have jlt : vs.length < vs.length + 1 := by omega
    have j1 : k + vs.length + 1 ≤ k + mid.length + hi.length := by omega
    have hz := show (((mid[vs.length] + 18446744073709551616 - c) % 18446744073709551616 + 18446744073709551616 - b) % 18446744073709551616 % 4294967296) + (c + b) = mid[vs.length] + 4294967296 * (((mid[vs.length] + 18446744073709551616 - c) % 18446744073709551616 + 18446744073709551616 - b) % 18446744073709551616 / 2 ^ 63) by omega
    have hb2 : ((mid[vs.length] + 18446744073709551616 - c) % 18446744073709551616 + 18446744073709551616 - b) % 18446744073709551616 / 2 ^ 63 ≤ 1 := by omega
    have hz3 : ((mid[vs.length] + 18446744073709551616 - c) % 18446744073709551616 + 18446744073709551616 - b) % 18446744073709551616 % 4294967296 < 4294967296 := by omega
    simp only [↓R1, R2, R3, R4, TY, reduceIte, Nat.reduceEqDiff, Nat.reduceAdd, Nat.reduceMul, Nat.reduceLT, Nat.reduceLeDiff, reduceCtorEq, decide_true, decide_false, Int.reduceLE, Int.reduceLT, Int.reduceToNat, Int.reduceAdd, Int.reduceSub, Int.reduceMul, Int.reduceEq, q0, q1, q2, q7, q8, q13, q14, q15, hj63, hgu, hbB, hlen, hid, m1, s1, s2, jlt, j1, UN]
    generalize ((mid[vs.length] + 18446744073709551616 - c) % 18446744073709551616 + 18446744073709551616 - b) % 18446744073709551616 / 2 ^ 63 = b2 at *
    generalize ((mid[vs.length] + 18446744073709551616 - c) % 18446744073709551616 + 18446744073709551616 - b) % 18446744073709551616 % 4294967296 = z at *
    have hW : W32 (zs ++ [z]) := by
      intro w hw
      rcases List.mem_append.1 hw with h | h
      · exact hzw w h
      · rw [List.mem_singleton.1 h]; exact hz3
    have hp : 4294967296 ^ mid.length = 4294967296 ^ vs.length * 4294967296 := by rw [hm, Nat.pow_succ]
    have hmt : wv mid = wv (mid.take vs.length) + 4294967296 ^ vs.length * mid[vs.length] := by
      rw [← wv_take_succ hjm, ← hm, List.take_length]
    have hdv : d * wv vs < 4294967296 ^ mid.length := by
      rw [hp, Nat.mul_comm d]
      exact Nat.mul_lt_mul'' (wv_lt kv) hd
    have hall : wv (zs ++ [z]) + d * wv vs = wv mid + 4294967296 ^ mid.length * b2 := by
      rw [wv_snoc, hzl, hmt, hp]
      generalize (4294967296 : Nat) ^ vs.length = p at *
      have e1 : p * z + p * (c + b) = p * mid[vs.length] + p * 4294967296 * b2 := by rw [← Nat.mul_add, hz, Nat.mul_add, Nat.mul_assoc]
      omega
    obtain ⟨hr, hflag⟩ := tk_of km hW (by simp [hzl, hm]) hdv hb2 hall
    refine Ended.put hA hidn (fun i hi => ?_) ?_ (RB.bool _) (wc_rb _ _)
    · rw [Hp.put_blk, Hp.put_blk]
      split
      · rw [hset, hr, ← hm, List.drop_eq_nil_of_le (by omega)]; simp
      · rename_i h; exact hold i hi h
    · congr 1
      exact decide_eq_decide.2 (by rw [hflag]; omega)
end
end Go.Proofs.YtpaffoiiipgkeaaDoor.Ab
