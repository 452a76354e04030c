/- Digits put back in place. -/
import Derived.Test.YtpaffoiiipgkeaaDoorOc
namespace Go.Proofs.YtpaffoiiipgkeaaDoor.Ab
open Go.RowKit
set_option linter.unusedVariables false
set_option linter.unusedSimpArgs false
set_option maxRecDepth 100000

section
variable {G : Gl} {fl : Nat} {A : Hp}

theorem putBack_ok {iu iv k c1 c2 : Nat} {lo mid hi vs more : List Nat} (hid : fl ≤ iu) (hidn : iu < A.next) (hne : iv ≠ iu) (hbu : A.blk iu = some (.row (wc (lo ++ (mid ++ hi))) 0 1)) (hbv : A.blk iv = some (.row (wc (vs ++ more)) 0 1)) (hk : lo.length = k) (hm : mid.length = vs.length + 1) (hkl : k + mid.length ≤ 1000000) (km : W32 mid) (kv : W32 vs) :
    Sound Tryd.prog G 74 [.slice (some ⟨iu, k, some 0⟩) (vs.length + 1) c1, .slice (some ⟨iv, 0, some 0⟩) vs.length c2] fl A (.tuple #[]) (A.put iu (.row (wc (lo ++ (wl ((wv mid + wv vs) % 4294967296 ^ mid.length) mid.length ++ hi))) 0 1)) := by
  refine Sound.of mixed Tryd.func74 Tryd.ntmps74 Tryd.results74 (by kernel_rfl) rfl (by kernel_rfl) (by simp) fun hA => ?_
  have hvn : iv < A.next := hA.lt hbv
  simp only [↓R1, R2, R3, R4, TY, reduceIte, Nat.reduceEqDiff, Nat.reduceAdd, Nat.reduceMul, Nat.reduceLT, Nat.reduceLeDiff, reduceCtorEq, decide_true, decide_false, Int.reduceLE, Int.reduceLT, Int.reduceToNat, Int.reduceAdd, Int.reduceSub, Int.reduceMul, Int.reduceEq]
  refine range_of 9 vs.length (fun j τ B => ∃ (zs : List Nat) (c : Nat), B.next = A.next ∧ B.blk iu = some (.row (wc ((lo ++ zs) ++ (mid.drop j ++ hi))) 0 1) ∧ (∀ i, i < A.next → i ≠ iu → B.blk i = A.blk i) ∧ zs.length = j ∧ W32 zs ∧ c ≤ 1 ∧ wv zs + 4294967296 ^ j * c = wv (mid.take j) + wv (vs.take j) ∧
    τ 0 = some (.slice (some ⟨iu, k, some 0⟩) (vs.length + 1) c1) ∧ τ 1 = some (.slice (some ⟨iv, 0, some 0⟩) vs.length c2) ∧ τ 4 = some (.int .u64 (c : Nat)) ∧ τ 7 = some (.slice (some ⟨iv, 0, some 0⟩) vs.length c2) ∧ τ 8 = some (.int .i64 vs.length) ∧ τ 9 = some (.int .i64 j)) ?_ ?_
  · exact ⟨[], 0, rfl, by simpa using hbu, fun _ _ _ => rfl, rfl, by intro w hw; simp at hw, by omega, by simp [wv], rfl, rfl, rfl, rfl, rfl, rfl⟩
  rintro j τ B hj ⟨zs, c, hn, hbB, hold, hzl, hzw, hc, hsum, q0, q1, q4, q7, q8, q9⟩
  have hzk : (lo ++ zs).length = k + j := by rw [List.length_append, hk, hzl]
  have hjm : j < mid.length := by omega
  have hgu : B.get G ⟨iu, k + j, some 0⟩ = some (.int .u32 (mid[j] : Nat)) := by
    simp only [Hp.get, hbB, if_true]
    exact wc_getq (by rw [List.getElem?_append_right (by omega), hzk, Nat.sub_self, List.getElem?_append_left (by rw [List.length_drop]; omega), List.getElem?_drop, Nat.add_zero, List.getElem?_eq_getElem hjm])
  have hx32 : mid[j] < 4294967296 := km _ (List.getElem_mem hjm)
  have hlen : (wc ((lo ++ zs) ++ (mid.drop j ++ hi))).length = k + mid.length + hi.length := by rw [wc_length, List.length_append, hzk, List.length_append, List.length_drop]; omega
  have hset : ∀ z : Nat, (wc ((lo ++ zs) ++ (mid.drop j ++ hi))).set (k + j) (.int .u32 (z : Nat)) = wc ((lo ++ (zs ++ [z])) ++ (mid.drop (j + 1) ++ hi)) := fun z => by
    rw [wc_set, List.drop_eq_getElem_cons hjm, List.cons_append, set_snoc hzk]
    simp
  have hj63 : j < 9223372036854775807 := by omega
  have m1 : mid[j] % 18446744073709551616 = mid[j] := Nat.mod_eq_of_lt (by omega)
  simp only [↓R1, R2, R3, R4, TY, reduceIte, Nat.reduceEqDiff, Nat.reduceAdd, Nat.reduceMul, Nat.reduceLT, Nat.reduceLeDiff, reduceCtorEq, decide_true, decide_false, Int.reduceLE, Int.reduceLT, Int.reduceToNat, Int.reduceAdd, Int.reduceSub, Int.reduceMul, Int.reduceEq, q7, q8, q9]
  refine ⟨fun hlt => ?_, fun hlt => ?_⟩
  · have hbB' : B.blk iv = some (.row (wc (vs ++ more)) 0 1) := by rw [hold iv hvn hne]; exact hbv
    have hgv : B.get G ⟨iv, j, some 0⟩ = some (.int .u32 (vs[j] : Nat)) := by
      simp only [Hp.get, hbB', if_true]
      exact wc_getq (by rw [List.getElem?_append_left hlt, List.getElem?_eq_getElem hlt])
    have hv32 : vs[j] < 4294967296 := kv _ (List.getElem_mem hlt)
    have m2 : vs[j] % 18446744073709551616 = vs[j] := Nat.mod_eq_of_lt (by omega)
    have m3 : (mid[j] + vs[j]) % 18446744073709551616 = mid[j] + vs[j] := Nat.mod_eq_of_lt (by omega)
    have m4 : (c + (mid[j] + vs[j])) % 18446744073709551616 = c + (mid[j] + vs[j]) := Nat.mod_eq_of_lt (by omega)
    have jlt : j < vs.length + 1 := by omega
    have j1 : k + j + 1 ≤ k + mid.length + hi.length := by omega
    simp only [↓R1, R2, R3, R4, TY, reduceIte, Nat.reduceEqDiff, Nat.reduceAdd, Nat.reduceMul, Nat.reduceLT, Nat.reduceLeDiff, reduceCtorEq, decide_true, decide_false, Int.reduceLE, Int.reduceLT, Int.reduceToNat, Int.reduceAdd, Int.reduceSub, Int.reduceMul, Int.reduceEq, q0, q1, q4, q7, q8, q9, hlt, hj63, hgu, hgv, hbB, hlen, hid, m1, m2, m3, m4, jlt, j1, UN]
    refine range_on q9 hlt rfl ⟨zs ++ [(c + (mid[j] + vs[j])) % 4294967296], (c + (mid[j] + vs[j])) / 4294967296, hn, ?_, fun i hi hne => ?_, by simp [hzl], ?_, by omega, ?_, q0, q1, rfl, q7, q8, rfl⟩
    · simp only [Hp.put_blk, if_true]; rw [hset]
    · rw [Hp.put_blk, if_neg hne]; exact hold i hi hne
    · intro w hw
      rcases List.mem_append.1 hw with h | h
      · exact hzw w h
      · rw [List.mem_singleton.1 h]; exact Nat.mod_lt _ (by omega)
    · have e := Nat.div_add_mod (c + (mid[j] + vs[j])) 4294967296
      rw [wv_snoc, hzl, wv_take_succ hlt, wv_take_succ hjm, Nat.pow_succ]
      generalize (4294967296 : Nat) ^ j = p at *
      generalize hS : c + (mid[j] + vs[j]) = S at *
      have e1 : p * S = p * (4294967296 * (S / 4294967296)) + p * (S % 4294967296) := by rw [← Nat.mul_add, e]
      have e2 : p * S = p * c + p * mid[j] + p * vs[j] := by rw [← hS, Nat.mul_add, Nat.mul_add]; omega
      rw [Nat.mul_assoc]
      omega
  · obtain rfl : j = vs.length := by omega
    rw [List.take_length] at hsum
    have jlt : vs.length < vs.length + 1 := by omega
    have j1 : k + vs.length + 1 ≤ k + mid.length + hi.length := by omega
    have m3 : c % 4294967296 = c := Nat.mod_eq_of_lt (by omega)
    simp only [↓R1, R2, R3, R4, TY, reduceIte, Nat.reduceEqDiff, Nat.reduceAdd, Nat.reduceMul, Nat.reduceLT, Nat.reduceLeDiff, reduceCtorEq, decide_true, decide_false, Int.reduceLE, Int.reduceLT, Int.reduceToNat, Int.reduceAdd, Int.reduceSub, Int.reduceMul, Int.reduceEq, q0, q1, q4, q7, q8, q9, hj63, hgu, hbB, hlen, hid, m1, m3, jlt, j1, UN]
    have e := Nat.div_add_mod (mid[vs.length] + c) 4294967296
    have hz3 : (mid[vs.length] + c) % 4294967296 < 4294967296 := Nat.mod_lt _ (by omega)
    generalize (mid[vs.length] + c) / 4294967296 = q at *
    generalize (mid[vs.length] + c) % 4294967296 = z at *
    have hW : W32 (zs ++ [z]) := by
      intro w hw
      rcases List.mem_append.1 hw with h | h
      · exact hzw w h
      · rw [List.mem_singleton.1 h]; exact hz3
    have hp : 4294967296 ^ mid.length = 4294967296 ^ vs.length * 4294967296 := by rw [hm, Nat.pow_succ]
    have hmt : wv mid = wv (mid.take vs.length) + 4294967296 ^ vs.length * mid[vs.length] := by
      rw [← wv_take_succ hjm, ← hm, List.take_length]
    have hall : wv mid + wv vs = wv (zs ++ [z]) + 4294967296 ^ mid.length * q := by
      rw [wv_snoc, hzl, hmt, hp]
      generalize (4294967296 : Nat) ^ vs.length = p at *
      have e1 : p * mid[vs.length] + p * c = p * (4294967296 * q) + p * z := by rw [← Nat.mul_add, ← e, Nat.mul_add]
      rw [Nat.mul_assoc]
      omega
    have hlz : (zs ++ [z]).length = mid.length := by simp [hzl, hm]
    have hlt2 := wv_lt hW
    rw [hlz] at hlt2
    have hr : wl ((wv mid + wv vs) % 4294967296 ^ mid.length) mid.length = zs ++ [z] := by
      rw [hall, Nat.add_mul_mod_self_left, Nat.mod_eq_of_lt hlt2, ← hlz, wl_wv hW]
    refine Ended.put hA hidn (fun i hi => ?_) rfl (RB.tuple (by simp)) (wc_rb _ _)
    rw [Hp.put_blk, Hp.put_blk]
    split
    · rw [hset, hr, ← hm, List.drop_eq_nil_of_le (by omega)]; simp
    · rename_i h; exact hold i hi h
end
end Go.Proofs.YtpaffoiiipgkeaaDoor.Ab
