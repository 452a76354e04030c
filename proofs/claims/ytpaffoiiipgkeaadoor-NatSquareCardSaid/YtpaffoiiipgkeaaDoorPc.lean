/- Digits of 64 bits shifted right in place. -/
import Derived.Test.YtpaffoiiipgkeaaDoorPb
namespace Go.Proofs.YtpaffoiiipgkeaaDoor.Ab
open Go.RowKit
set_option linter.unusedVariables false
set_option linter.unusedSimpArgs false
set_option maxRecDepth 100000

theorem shr_word64 {x Y s : Nat} (hx : x < 18446744073709551616) (hs : s ≤ 64) : (x + 18446744073709551616 * Y) / 2 ^ s % 18446744073709551616 = (x / 2 ^ s ||| Y % 18446744073709551616 * 2 ^ (64 - s) % 18446744073709551616) ∧ x / 2 ^ s % 18446744073709551616 = x / 2 ^ s := by
  have hc : 2 ^ s * 2 ^ (64 - s) = 18446744073709551616 := by rw [← Nat.pow_add, show s + (64 - s) = 64 by omega]
  have hs0 : 0 < 2 ^ s := Nat.pow_pos (by omega)
  have hq : x / 2 ^ s < 2 ^ (64 - s) := by rw [Nat.div_lt_iff_lt_mul hs0, Nat.mul_comm, hc]; exact hx
  have h1 : (x + 18446744073709551616 * Y) / 2 ^ s = x / 2 ^ s + 2 ^ (64 - s) * Y := by rw [← hc, Nat.mul_assoc, Nat.add_mul_div_left _ _ hs0]
  have h2 : Y % 18446744073709551616 * 2 ^ (64 - s) % 18446744073709551616 = Y % 2 ^ s * 2 ^ (64 - s) := by
    have := Nat.mul_mod_mul_right (2 ^ (64 - s)) (Y % 18446744073709551616) (2 ^ s)
    rw [hc] at this
    rw [this, Nat.mod_mod_of_dvd _ (⟨2 ^ (64 - s), hc.symm⟩)]
  have hle : 2 ^ (64 - s) ≤ 18446744073709551616 := by rw [← hc]; exact Nat.le_mul_of_pos_left _ hs0
  refine ⟨?_, Nat.mod_eq_of_lt (by omega)⟩
  rw [h1, h2, or_add' hq]
  have e := Nat.div_add_mod Y (2 ^ s)
  have h3 : 2 ^ (64 - s) * Y = 18446744073709551616 * (Y / 2 ^ s) + Y % 2 ^ s * 2 ^ (64 - s) := by
    conv => lhs; rw [← e]
    rw [Nat.mul_add, ← Nat.mul_assoc, Nat.mul_comm (2 ^ (64 - s)) (2 ^ s), hc, Nat.mul_comm (Y % 2 ^ s)]
  have h4 : Y % 2 ^ s + 1 ≤ 2 ^ s := Nat.mod_lt _ hs0
  have h5 := Nat.mul_le_mul_right (2 ^ (64 - s)) h4
  rw [hc, Nat.add_mul, Nat.one_mul] at h5
  rw [h3, show x / 2 ^ s + (18446744073709551616 * (Y / 2 ^ s) + Y % 2 ^ s * 2 ^ (64 - s)) = x / 2 ^ s + Y % 2 ^ s * 2 ^ (64 - s) + 18446744073709551616 * (Y / 2 ^ s) by omega, Nat.add_mul_mod_self_left, Nat.mod_eq_of_lt (by omega)]

section
variable {G : Gl} {fl : Nat} {A : Hp}

set_option maxHeartbeats 2000000 in
theorem right_ok {id n c X y : Nat} {lo hi : List Nat} (hn : nq X ≤ n) (hy : y / 64 ≤ n) (hnc : n ≤ c) (hlen : lo.length + n ≤ 1000000) (hb : A.blk id = some (.row (qc (lo ++ (ql X n ++ hi))) 0 1)) (hid : id < A.next) (hfl0 : fl ≤ id) :
    Sound Tryd.prog G 79 [.slice (some ⟨id, lo.length, some 0⟩) n c, .int .i64 (y : Nat)] fl A (.slice (some ⟨id, lo.length + y / 64, some 0⟩) (nq (X / 2 ^ y)) (c - y / 64))
      (A.put id (.row (qc (lo ++ ql X (y / 64) ++ (ql (X / 2 ^ y) (n - y / 64) ++ hi))) 0 1)) := by
  refine Sound.of mixed Tryd.func79 Tryd.ntmps79 Tryd.results79 (by kernel_rfl) rfl (by kernel_rfl) (by simp) fun hA => ?_
  have hfl := hA.floor
  have he : eszOK A id 1 := by simp [eszOK, hb]
  have hY : X / 2 ^ y = X / 18446744073709551616 ^ (y / 64) / 2 ^ (y % 64) := by
    rw [Nat.div_div_eq_div_mul, show (18446744073709551616 : Nat) ^ (y / 64) = 2 ^ (64 * (y / 64)) by rw [Nat.pow_mul], ← Nat.pow_add]
    congr 2; omega
  have hsp : lo ++ (ql X n ++ hi) = (lo ++ ql X (y / 64)) ++ (ql (X / 18446744073709551616 ^ (y / 64)) (n - y / 64) ++ hi) := by
    have := ql_add X (y / 64) (n - y / 64)
    rw [show y / 64 + (n - y / 64) = n by omega] at this
    rw [this]; simp only [List.append_assoc]
  have hnY : nq (X / 18446744073709551616 ^ (y / 64)) ≤ n - y / 64 := by
    rw [nq_le, Nat.div_lt_iff_lt_mul (Nat.pow_pos (by omega)), ← Nat.pow_add, show n - y / 64 + y / 64 = n by omega]
    exact nq_le.1 hn
  have hl2 : (lo ++ ql X (y / 64)).length = lo.length + y / 64 := by rw [List.length_append, ql_length]
  have d1 : ((y : Nat) : Int).tdiv 64 = ((y / 64 : Nat) : Int) := by rw [show (64 : Int) = ((64 : Nat) : Int) from rfl, div_n]
  have d2 : ((y : Nat) : Int).tmod 64 = ((y % 64 : Nat) : Int) := by rw [show (64 : Int) = ((64 : Nat) : Int) from rfl, mod_n]
  have w1 : IntKind.i64.wrap ((y / 64 : Nat) : Int) = ((y / 64 : Nat) : Int) := wrapI (by omega)
  have w2 : IntKind.i64.wrap ((y % 64 : Nat) : Int) = ((y % 64 : Nat) : Int) := wrapI (by omega)
  have c1 : y / 64 ≤ c := by omega
  simp only [↓R1, R2, R3, R4, TY, reduceIte, Nat.reduceEqDiff, Nat.reduceAdd, Nat.reduceMul, Nat.reduceLT, Nat.reduceLeDiff, reduceCtorEq, decide_true, decide_false, Int.reduceLE, Int.reduceLT, Int.reduceToNat, Int.reduceAdd, Int.reduceSub, Int.reduceMul, Int.reduceEq, d1, d2, w1, w2, hy, c1, hnc, he]
  rw [hY]
  rw [hsp] at hb
  have hs64 : y % 64 < 64 := Nat.mod_lt _ (by omega)
  have hNc : n - y / 64 ≤ c - y / 64 := by omega
  have hlen2 : lo.length + y / 64 + (n - y / 64) ≤ 1000000 := by omega
  have hrb : RB A.next (.slice (some ⟨id, lo.length + y / 64, some 0⟩) (nq (X / 18446744073709551616 ^ (y / 64) / 2 ^ (y % 64))) (c - y / 64)) := rb_slice hid (by
    have := nq_mono (Nat.div_le_self (X / 18446744073709551616 ^ (y / 64)) (2 ^ (y % 64)))
    omega)
  clear hsp hY d1 d2 hn hy hnc hlen c1
  have w3 : IntKind.i64.wrap ((64 : Int) - ((y % 64 : Nat) : Int)) = ((64 - y % 64 : Nat) : Int) := by rw [wrapI (by omega)]; omega
  generalize X / 18446744073709551616 ^ (y / 64) = Y at *
  generalize lo ++ ql X (y / 64) = l2 at *
  generalize n - y / 64 = N at *
  generalize c - y / 64 = c2 at *
  generalize lo.length + y / 64 = o at *
  generalize y % 64 = s at *
  subst hl2
  have hnZ : nq (Y / 2 ^ s) ≤ N := Nat.le_trans (nq_mono (Nat.div_le_self _ _)) hnY
  have hs0 : ((0 : Int) < (s : Int)) = (0 < s) := propext (by omega)
  refine ⟨fun hs => ?_, fun hs => ?_⟩
  · have hss : s < 64 := hs64
    have hms : min s 64 = s := by omega
    have hms2 : min (64 - s) 64 = 64 - s := by omega
    refine range_of 16 N (fun j τ C => (∀ i, i ≠ id → C.blk i = A.blk i) ∧ C.next = A.next ∧ C.blk id = some (.row (qc (l2 ++ (ql (Y / 2 ^ s) j ++ (ql Y N).drop j ++ hi))) 0 1) ∧
      τ 0 = some (.slice (some ⟨id, l2.length, some 0⟩) N c2) ∧ τ 1 = some (.int .i64 s) ∧ τ 15 = some (.int .i64 N) ∧ τ 16 = some (.int .i64 j)) ?_ ?_
    · exact ⟨fun _ _ => rfl, rfl, by simpa [ql] using hb, rfl, rfl, rfl, rfl⟩
    rintro j τ C hj ⟨hc, hCn, hc0, p0, p1, p15, p16⟩
    simp only [↓R1, R2, R3, R4, TY, reduceIte, Nat.reduceEqDiff, Nat.reduceAdd, Nat.reduceMul, Nat.reduceLT, Nat.reduceLeDiff, reduceCtorEq, decide_true, decide_false, Int.reduceLE, Int.reduceLT, Int.reduceToNat, Int.reduceAdd, Int.reduceSub, Int.reduceMul, Int.reduceEq, p0, p1, p15, p16]
    refine ⟨fun hlt => ?_, fun hlt => ?_⟩
    · have hjl : j < (ql Y N).length := by rw [ql_length]; omega
      have hdr : (ql Y N).drop j = (Y / 18446744073709551616 ^ j % 18446744073709551616) :: (ql Y N).drop (j + 1) := by
        rw [List.drop_eq_getElem_cons hjl]
        congr 1
        have := ql_get (n := Y) (k := N) (j := j) (by omega)
        rw [List.getElem?_eq_getElem hjl, Option.some.injEq] at this
        exact this
      have hdv : Y / 18446744073709551616 ^ j = Y / 18446744073709551616 ^ j % 18446744073709551616 + 18446744073709551616 * (Y / 18446744073709551616 ^ (j + 1)) := by
        rw [Nat.pow_succ, ← Nat.div_div_eq_div_mul]; omega
      have hx32 : Y / 18446744073709551616 ^ j % 18446744073709551616 < 18446744073709551616 := Nat.mod_lt _ (by omega)
      have hword : ql (Y / 2 ^ s) (j + 1) = ql (Y / 2 ^ s) j ++ [(Y / 18446744073709551616 ^ j % 18446744073709551616 + 18446744073709551616 * (Y / 18446744073709551616 ^ (j + 1))) / 2 ^ s % 18446744073709551616] := by
        rw [ql_succ, ← hdv, Nat.div_div_eq_div_mul, Nat.div_div_eq_div_mul, Nat.mul_comm]
      obtain ⟨sw1, sw2⟩ := shr_word64 (s := s) (Y := Y / 18446744073709551616 ^ (j + 1)) hx32 (by omega)
      rw [sw1] at hword
      have hl0 : (ql (Y / 2 ^ s) j).length = j := ql_length _ _
      rw [hdr, List.append_assoc, List.cons_append] at hc0
      have hget : ∀ a : Nat, (l2 ++ (ql (Y / 2 ^ s) j ++ a :: ((ql Y N).drop (j + 1) ++ hi)))[l2.length + j]? = some a := fun a => by
        rw [List.getElem?_append_right (by omega), Nat.add_sub_cancel_left, List.getElem?_append_right (by omega), hl0, Nat.sub_self]; rfl
      have hg1 : C.get G ⟨id, l2.length + j, some 0⟩ = some (.int .u64 ((Y / 18446744073709551616 ^ j % 18446744073709551616 : Nat) : Int)) := by
        simp only [Hp.get, hc0, if_true]
        exact qc_getq (hget _)
      have hset : ∀ a b : Nat, (qc (l2 ++ (ql (Y / 2 ^ s) j ++ a :: ((ql Y N).drop (j + 1) ++ hi)))).set (l2.length + j) (.int .u64 (b : Nat)) = qc (l2 ++ (ql (Y / 2 ^ s) j ++ b :: ((ql Y N).drop (j + 1) ++ hi))) := fun a b => by
        rw [qc_set, List.set_append_right _ _ (by omega), Nat.add_sub_cancel_left, List.set_append_right _ _ (by omega), hl0, Nat.sub_self]; rfl
      have hj63 : j < 9223372036854775807 := by omega
      have hlx : ∀ a : Nat, l2.length + j + 1 ≤ (qc (l2 ++ (ql (Y / 2 ^ s) j ++ a :: ((ql Y N).drop (j + 1) ++ hi)))).length := fun a => by
        rw [qc_length, List.length_append, List.length_append, List.length_cons, hl0]; omega
      have w14 : IntKind.i64.wrap ((j : Int) + 1) = ((j + 1 : Nat) : Int) := by rw [wrapI (by omega)]; omega
      have l0 : j < N := hlt
      generalize hXX : Y / 18446744073709551616 ^ j % 18446744073709551616 = x at *
      by_cases hjn : j + 1 < N
      · have hq2 : ∀ a : Nat, (l2 ++ (ql (Y / 2 ^ s) j ++ a :: ((ql Y N).drop (j + 1) ++ hi)))[l2.length + (j + 1)]? = some (Y / 18446744073709551616 ^ (j + 1) % 18446744073709551616) := fun a => by
          rw [List.getElem?_append_right (by omega), Nat.add_sub_cancel_left, List.getElem?_append_right (by omega), hl0, show j + 1 - j = 0 + 1 by omega, List.getElem?_cons_succ, List.getElem?_append_left (by rw [List.length_drop, ql_length]; omega), List.getElem?_drop, Nat.add_zero, ql_get hjn]
        have hg2 : C.get G ⟨id, l2.length + (j + 1), some 0⟩ = some (.int .u64 ((Y / 18446744073709551616 ^ (j + 1) % 18446744073709551616 : Nat) : Int)) := by
          simp only [Hp.get, hc0, if_true]
          exact qc_getq (hq2 _)
        have hga : ∀ a : Nat, (qc (l2 ++ (ql (Y / 2 ^ s) j ++ a :: ((ql Y N).drop (j + 1) ++ hi))))[l2.length + j]? = some (.int .u64 (a : Nat)) := fun a => qc_getq (hget _)
        have hgb : ∀ a : Nat, (qc (l2 ++ (ql (Y / 2 ^ s) j ++ a :: ((ql Y N).drop (j + 1) ++ hi))))[l2.length + (j + 1)]? = some (.int .u64 ((Y / 18446744073709551616 ^ (j + 1) % 18446744073709551616 : Nat) : Int)) := fun a => qc_getq (hq2 _)
        have hyb : Y / 18446744073709551616 ^ (j + 1) % 18446744073709551616 < 18446744073709551616 := Nat.mod_lt _ (by omega)
        generalize Y / 18446744073709551616 ^ (j + 1) % 18446744073709551616 = yy at *
        have n5 : yy * 2 ^ (64 - s) % 18446744073709551616 % 18446744073709551616 = yy * 2 ^ (64 - s) % 18446744073709551616 := Nat.mod_eq_of_lt (Nat.mod_lt _ (by omega))
        have n3 : x / 2 ^ s ||| yy * 2 ^ (64 - s) % 18446744073709551616 < 18446744073709551616 := by rw [← sw1]; exact Nat.mod_lt _ (by omega)
        have n4 : (x / 2 ^ s ||| yy * 2 ^ (64 - s) % 18446744073709551616) % 18446744073709551616 = (x / 2 ^ s ||| yy * 2 ^ (64 - s) % 18446744073709551616) := Nat.mod_eq_of_lt n3
        have p64 : 2 ^ 64 = 18446744073709551616 := rfl
        simp only [↓R1, R2, R3, R4, TY, reduceIte, Nat.reduceEqDiff, Nat.reduceAdd, Nat.reduceMul, Nat.reduceLT, Nat.reduceLeDiff, reduceCtorEq, decide_true, decide_false, Int.reduceLE, Int.reduceLT, Int.reduceToNat, Int.reduceAdd, Int.reduceSub, Int.reduceMul, Int.reduceEq, p0, p1, p15, p16, l0, hj63, hg1, hg2, hc0, hlx, hset, hga, hgb, hms, hms2, w3, w14, sw2, n4, n5, p64, hfl0, hjn, UN]
        rw [floOf_wr (by kernel_rfl)]
        simp only [↓R1, R2, R3, R4, TY, reduceIte, Nat.reduceEqDiff, Nat.reduceAdd, Nat.reduceMul, Nat.reduceLT, Nat.reduceLeDiff, reduceCtorEq, decide_true, decide_false, Int.reduceLE, Int.reduceLT, Int.reduceToNat, Int.reduceAdd, Int.reduceSub, Int.reduceMul, Int.reduceEq, p0, p1, p15, p16, l0, hj63, hg1, hg2, hc0, hlx, hset, hga, hgb, hms, hms2, w3, w14, sw2, n4, n5, p64, hfl0, hjn, UN]
        refine range_on p16 hlt rfl ⟨fun i hi => ?_, hCn, ?_, p0, p1, p15, rfl⟩
        · simp only [Hp.put_blk]; rw [if_neg hi, if_neg hi]; exact hc i hi
        · simp only [Hp.put_blk, if_true]; rw [hword]; simp
      · simp only [↓R1, R2, R3, R4, TY, reduceIte, Nat.reduceEqDiff, Nat.reduceAdd, Nat.reduceMul, Nat.reduceLT, Nat.reduceLeDiff, reduceCtorEq, decide_true, decide_false, Int.reduceLE, Int.reduceLT, Int.reduceToNat, Int.reduceAdd, Int.reduceSub, Int.reduceMul, Int.reduceEq, p0, p1, p15, p16, l0, hj63, hg1, hc0, hlx, hset, hms, w14, sw2, hfl0, hjn, UN]
        have hz : Y / 18446744073709551616 ^ (j + 1) = 0 := by rw [show j + 1 = N by omega]; exact Nat.div_eq_of_lt (nq_le.1 hnY)
        rw [hz, Nat.zero_mod, Nat.zero_mul, Nat.zero_mod, Nat.or_zero] at hword
        refine range_on p16 hlt rfl ⟨fun i hi => ?_, hCn, ?_, p0, p1, p15, rfl⟩
        · simp only [Hp.put_blk]; rw [if_neg hi]; exact hc i hi
        · simp only [Hp.put_blk, if_true]; rw [hword]; simp
    · obtain rfl : j = N := by omega
      rw [List.drop_of_length_le (by rw [ql_length]; omega), List.append_nil] at hc0
      refine call_of (cut_ok (A := C) hnZ hNc (by omega) hc0 (by omega)) ?_
      simp only [↓R1, R2, R3, R4, TY, reduceIte, Nat.reduceEqDiff, Nat.reduceAdd, Nat.reduceMul, Nat.reduceLT, Nat.reduceLeDiff, reduceCtorEq, decide_true, decide_false, Int.reduceLE, Int.reduceLT, Int.reduceToNat, Int.reduceAdd, Int.reduceSub, Int.reduceMul, Int.reduceEq]
      refine Ended.put hA hid (fun i hi => ?_) rfl hrb (qc_rb _ _)
      rw [Hp.put_blk]
      split
      · rename_i h; rw [h]; exact hc0
      · rename_i h; exact hc i h
  · obtain rfl : s = 0 := by omega
    rw [Nat.pow_zero, Nat.div_one] at *
    refine call_of (cut_ok hnZ hNc (by omega) hb (by omega)) ?_
    simp only [↓R1, R2, R3, R4, TY, reduceIte, Nat.reduceEqDiff, Nat.reduceAdd, Nat.reduceMul, Nat.reduceLT, Nat.reduceLeDiff, reduceCtorEq, decide_true, decide_false, Int.reduceLE, Int.reduceLT, Int.reduceToNat, Int.reduceAdd, Int.reduceSub, Int.reduceMul, Int.reduceEq]
    refine Ended.put hA hid (fun i hi => ?_) rfl hrb (qc_rb _ _)
    rw [Hp.put_blk]
    split
    · rename_i h; rw [h]; exact hb
    · rfl
end
end Go.Proofs.YtpaffoiiipgkeaaDoor.Ab
