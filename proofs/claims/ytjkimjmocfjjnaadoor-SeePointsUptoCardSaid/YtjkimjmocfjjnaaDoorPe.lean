/- Digits of 64 bits compared and subtracted. -/
import Derived.Test.YtjkimjmocfjjnaaDoorPc
import GoSem.Extern.MathBitsCarry
namespace Go.Proofs.YtjkimjmocfjjnaaDoor.Ab
open Go.RowKit
set_option linter.unusedVariables false
set_option linter.unusedSimpArgs false
set_option maxRecDepth 100000

/-- One digit of a difference. -/
theorem sub_digit {X Y p Q x y b : Nat} (hQ : Q = 18446744073709551616) (hp : 0 < p) (hle : Y ≤ X) (hx : x = X / p % Q) (hy : y = Y / p % Q) (hb : b = if X % p < Y % p then 1 else 0) :
    (X - Y) / p % Q = (x + Q - y - b) % Q ∧ (if x < y + b then 1 else 0) = (if X % (p * Q) < Y % (p * Q) then 1 else 0) := by
  have e1 := Nat.div_add_mod X p
  have e2 := Nat.div_add_mod Y p
  have m1 := Nat.mod_lt X hp
  have m2 := Nat.mod_lt Y hp
  rw [Nat.mod_mul, Nat.mod_mul, ← hx, ← hy]
  generalize X % p = xr at *
  generalize Y % p = yr at *
  generalize X / p = X1 at *
  generalize Y / p = Y1 at *
  have hbb : b ≤ 1 := by rw [hb]; split <;> omega
  have hle1 : Y1 + b ≤ X1 := by
    refine Classical.byContradiction fun hn => ?_
    have h1 : p * X1 + p ≤ p * (Y1 + b) := by rw [← Nat.mul_succ]; exact Nat.mul_le_mul_left _ (by omega)
    rw [Nat.mul_add] at h1
    split at hb
    · subst hb; omega
    · subst hb; omega
  refine ⟨?_, ?_⟩
  · have hd : (X - Y) / p = X1 - Y1 - b := by
      have h1 : X - Y = p * (X1 - Y1 - b) + (xr + p * b - yr) := by
        rw [Nat.mul_sub, Nat.mul_sub]
        have h2 : p * (Y1 + b) ≤ p * X1 := Nat.mul_le_mul_left _ hle1
        rw [Nat.mul_add] at h2
        split at hb
        · subst hb; omega
        · subst hb; omega
      rw [h1, Nat.mul_add_div hp, Nat.div_eq_of_lt, Nat.add_zero]
      split at hb
      · subst hb; omega
      · subst hb; omega
    rw [hd]
    subst hQ
    omega
  · have hc : ∀ a c : Nat, a < c → p * a + p ≤ p * c := fun a c h => by rw [← Nat.mul_succ]; exact Nat.mul_le_mul_left _ h
    have hxy : (x < y + b) ↔ (xr + p * x < yr + p * y) := by
      rcases Nat.lt_trichotomy x y with h | h | h
      · have := hc _ _ h
        exact ⟨fun _ => by omega, fun _ => by omega⟩
      · subst h
        split at hb
        · subst hb; exact ⟨fun _ => by omega, fun _ => by omega⟩
        · subst hb; exact ⟨fun _ => by omega, fun _ => by omega⟩
      · have := hc _ _ h
        exact ⟨fun _ => by omega, fun _ => by omega⟩
    simp only [hxy]

section
variable {G : Gl} {fl : Nat} {A : Hp}

theorem sub64_ok (x y b : Nat) (hb : b ≤ 1) : Sound Tryd.prog G 127 [.int .u64 (x : Nat), .int .u64 (y : Nat), .int .u64 (b : Nat)] fl A (.tuple [Value.int .u64 (((x + 18446744073709551616 - y - b) % 18446744073709551616 : Nat) : Int), .int .u64 ((if x < y + b then 1 else 0 : Nat) : Int)].toArray) A := by
  refine Sound.of_scalar (fun u hu => ?_) rfl fun w => ?_
  · simp only [List.mem_cons, List.not_mem_nil, or_false] at hu
    rcases hu with rfl | rfl | rfl
    · exact ⟨rfl, fun μ A u' h => by cases h; rfl⟩
    · exact ⟨rfl, fun μ A u' h => by cases h; rfl⟩
    · exact ⟨rfl, fun μ A u' h => by cases h; rfl⟩
  · refine .inr ⟨_, w, ?_, rfl, Below.refl _ _⟩
    rw [run_callFunc_extern (fn := Tryd.f127) (e := (Extern.MathBitsCarry.rows[1]).2) (by kernel_rfl) (by kernel_rfl) (by kernel_rfl) (by kernel_rfl) (by kernel_rfl)]
    have : b = 0 ∨ b = 1 := by omega
    rcases this with rfl | rfl <;> rfl

theorem nbelow_ok {i1 i2 c1 c2 X Y : Nat} {l1 h1 l2 h2 : List Nat} (k1 : nq X ≤ 100000000000) (k2 : nq Y ≤ 100000000000)
    (hb1 : A.blk i1 = some (.row (qc (l1 ++ (ql X (nq X) ++ h1))) 0 1)) (hb2 : A.blk i2 = some (.row (qc (l2 ++ (ql Y (nq Y) ++ h2))) 0 1)) :
    Sound Tryd.prog G 119 [.slice (some ⟨i1, l1.length, some 0⟩) (nq X) c1, .slice (some ⟨i2, l2.length, some 0⟩) (nq Y) c2] fl A (.bool (decide (X < Y))) A := by
  refine Sound.of mixed Tryd.func119 Tryd.ntmps119 Tryd.results119 (by kernel_rfl) rfl (by kernel_rfl) (by kernel_rfl) fun hA => ?_
  have fin : ∀ (b : Bool), b = decide (X < Y) → Ended A (.bool b) A (.bool (decide (X < Y))) A := fun b hb => Ended.back hA (Xt.refl A) (congrArg _ hb) (RB.bool _)
  have hlt : nq X < nq Y → X < Y := fun h => Classical.byContradiction fun hn => by have := nq_mono (show Y ≤ X by omega); omega
  have hgt : nq Y < nq X → ¬ X < Y := fun h hn => by have := nq_mono (show X ≤ Y by omega); omega
  have he : (((nq X : Nat) : Int) = ((nq Y : Nat) : Int)) = (nq X = nq Y) := propext (by omega)
  by_cases hq : nq X = nq Y
  · have w1 : IntKind.i64.wrap (((nq Y : Nat) : Int) - 1) = ((nq Y : Nat) : Int) - 1 := wrapI (by omega)
    have hX := lt_nq X
    have hY := lt_nq Y
    rw [hq] at he hX hb1 ⊢
    clear hlt hgt k1 hq
    generalize nq Y = N at *
    simp only [↓R1, R2, R3, R4, TY, reduceIte, Nat.reduceEqDiff, Nat.reduceAdd, Nat.reduceMul, Nat.reduceLT, Nat.reduceLeDiff, reduceCtorEq, decide_true, decide_false, Int.reduceLE, Int.reduceLT, Int.reduceToNat, Int.reduceAdd, Int.reduceSub, Int.reduceMul, Int.reduceEq, w1]
    refine loop_of (fun τ B => B = A ∧ ∃ m, m ≤ N ∧ X / 18446744073709551616 ^ m = Y / 18446744073709551616 ^ m ∧ τ 0 = some (.slice (some ⟨i1, l1.length, some 0⟩) N c1) ∧ τ 1 = some (.slice (some ⟨i2, l2.length, some 0⟩) N c2) ∧ τ 5 = some (.int .i64 ((m : Int) - 1))) (fun τ _ => match τ 5 with | some (.int _ m) => (m + 1).toNat | _ => 0) ?_ ?_
    · exact ⟨rfl, N, Nat.le_refl _, by rw [Nat.div_eq_of_lt hX, Nat.div_eq_of_lt hY], rfl, rfl, rfl⟩
    rintro τ B ⟨rfl, m, hm, hd, q0, q1, q5⟩
    have hpos : ((0 : Int) ≤ (m : Int) - 1) = (1 ≤ m) := propext (by omega)
    by_cases hp : 1 ≤ m
    · obtain ⟨k, rfl⟩ : ∃ k, m = k + 1 := ⟨m - 1, by omega⟩
      have e5 : (((k + 1 : Nat) : Int) - 1) = (k : Nat) := by omega
      rw [e5] at q5
      have hkN : k < N := by omega
      have w2 : IntKind.i64.wrap ((k : Int) - 1) = (k : Int) - 1 := wrapI (by omega)
      have g1 : B.get G ⟨i1, l1.length + k, some 0⟩ = some (.int .u64 ((X / 18446744073709551616 ^ k % 18446744073709551616 : Nat) : Int)) := by
        simp only [Hp.get, hb1, if_true]; exact mid_get hkN
      have g2 : B.get G ⟨i2, l2.length + k, some 0⟩ = some (.int .u64 ((Y / 18446744073709551616 ^ k % 18446744073709551616 : Nat) : Int)) := by
        simp only [Hp.get, hb2, if_true]; exact mid_get hkN
      have k0 : ((0 : Int) ≤ (k : Int)) = True := eq_true (by omega)
      rw [Nat.pow_succ, ← Nat.div_div_eq_div_mul, ← Nat.div_div_eq_div_mul] at hd
      have hp0 : 0 < (18446744073709551616 : Nat) ^ k := Nat.pow_pos (by omega)
      have hcmp : X / 18446744073709551616 ^ k < Y / 18446744073709551616 ^ k → X < Y := fun h => Classical.byContradiction fun hn => by
        have := Nat.div_le_div_right (c := 18446744073709551616 ^ k) (show Y ≤ X by omega); omega
      have hcmp2 : Y / 18446744073709551616 ^ k < X / 18446744073709551616 ^ k → ¬ X < Y := fun h hn => by
        have := Nat.div_le_div_right (c := 18446744073709551616 ^ k) (show X ≤ Y by omega); omega
      generalize hX1 : X / 18446744073709551616 ^ k = X1 at *
      generalize hY1 : Y / 18446744073709551616 ^ k = Y1 at *
      have hi1 : (((X1 % 18446744073709551616 : Nat) : Int) = ((Y1 % 18446744073709551616 : Nat) : Int)) = (X1 % 18446744073709551616 = Y1 % 18446744073709551616) := propext (by omega)
      have hi2 : (((X1 % 18446744073709551616 : Nat) : Int) < ((Y1 % 18446744073709551616 : Nat) : Int)) = (X1 % 18446744073709551616 < Y1 % 18446744073709551616) := propext (by omega)
      by_cases hxy : X1 % 18446744073709551616 = Y1 % 18446744073709551616
      · simp only [↓R1, R2, R3, R4, TY, reduceIte, Nat.reduceEqDiff, Nat.reduceAdd, Nat.reduceMul, Nat.reduceLT, Nat.reduceLeDiff, reduceCtorEq, decide_true, decide_false, Int.reduceLE, Int.reduceLT, Int.reduceToNat, Int.reduceAdd, Int.reduceSub, Int.reduceMul, Int.reduceEq, q0, q1, q5, k0, hkN, g1, g2, hi1, hxy, w2, not_true_eq_false, ne_eq]
        refine loop_on ⟨rfl, k, by omega, by rw [hX1, hY1]; omega, q0, q1, rfl⟩ ?_
        simp only [q5, upd, reduceIte, Nat.reduceEqDiff]
        omega
      · simp only [↓R1, R2, R3, R4, TY, reduceIte, Nat.reduceEqDiff, Nat.reduceAdd, Nat.reduceMul, Nat.reduceLT, Nat.reduceLeDiff, reduceCtorEq, decide_true, decide_false, Int.reduceLE, Int.reduceLT, Int.reduceToNat, Int.reduceAdd, Int.reduceSub, Int.reduceMul, Int.reduceEq, q0, q1, q5, k0, hkN, g1, g2, hi1, hi2, hxy, w2, not_false_eq_true, ne_eq]
        refine fin _ ?_
        by_cases h : X1 % 18446744073709551616 < Y1 % 18446744073709551616
        · rw [decide_eq_true h, decide_eq_true (hcmp (by omega))]
        · rw [decide_eq_false h, decide_eq_false (hcmp2 (by omega))]
    · obtain rfl : m = 0 := by omega
      simp only [↓R1, R2, R3, R4, TY, reduceIte, Nat.reduceEqDiff, Nat.reduceAdd, Nat.reduceMul, Nat.reduceLT, Nat.reduceLeDiff, reduceCtorEq, decide_true, decide_false, Int.reduceLE, Int.reduceLT, Int.reduceToNat, Int.reduceAdd, Int.reduceSub, Int.reduceMul, Int.reduceEq, q0, q1, q5, hpos]
      rw [Nat.pow_zero, Nat.div_one, Nat.div_one] at hd
      exact fin _ (by rw [hd]; simp)
  · have hi2 : (((nq X : Nat) : Int) < ((nq Y : Nat) : Int)) = (nq X < nq Y) := propext (by omega)
    simp only [↓R1, R2, R3, R4, TY, reduceIte, Nat.reduceEqDiff, Nat.reduceAdd, Nat.reduceMul, Nat.reduceLT, Nat.reduceLeDiff, reduceCtorEq, decide_true, decide_false, Int.reduceLE, Int.reduceLT, Int.reduceToNat, Int.reduceAdd, Int.reduceSub, Int.reduceMul, Int.reduceEq, he, hq, hi2, not_false_eq_true, ne_eq]
    refine fin _ ?_
    by_cases h : nq X < nq Y
    · rw [decide_eq_true h, decide_eq_true (hlt h)]
    · rw [decide_eq_false h, decide_eq_false (hgt (by omega))]

set_option maxHeartbeats 1000000 in
theorem minus_ok {i1 i2 n m c1 c2 X Y : Nat} {lo hi l2 h2 : List Nat} (hXY : Y ≤ X) (hn : nq X ≤ n) (hm : nq Y ≤ m) (hmn : m ≤ n) (hnc : n ≤ c1) (hlen : lo.length + n ≤ 100000000000) (hid : i1 < A.next) (hfl0 : fl ≤ i1) (hne : i2 ≠ i1)
    (hb1 : A.blk i1 = some (.row (qc (lo ++ (ql X n ++ hi))) 0 1)) (hb2 : A.blk i2 = some (.row (qc (l2 ++ (ql Y m ++ h2))) 0 1)) :
    Sound Tryd.prog G 120 [.slice (some ⟨i1, lo.length, some 0⟩) n c1, .slice (some ⟨i2, l2.length, some 0⟩) m c2] fl A (.slice (some ⟨i1, lo.length, some 0⟩) (nq (X - Y)) c1)
      (A.put i1 (.row (qc (lo ++ (ql (X - Y) n ++ hi))) 0 1)) := by
  refine Sound.of mixed Tryd.func120 Tryd.ntmps120 Tryd.results120 (by kernel_rfl) rfl (by kernel_rfl) (by kernel_rfl) fun hA => ?_
  have hnD : nq (X - Y) ≤ n := Nat.le_trans (nq_mono (Nat.sub_le _ _)) hn
  have hrb : RB A.next (.slice (some ⟨i1, lo.length, some 0⟩) (nq (X - Y)) c1) := rb_slice hid (by omega)
  simp only [↓R1, R2, R3, R4, TY, reduceIte, Nat.reduceEqDiff, Nat.reduceAdd, Nat.reduceMul, Nat.reduceLT, Nat.reduceLeDiff, reduceCtorEq, decide_true, decide_false, Int.reduceLE, Int.reduceLT, Int.reduceToNat, Int.reduceAdd, Int.reduceSub, Int.reduceMul, Int.reduceEq]
  refine range_of 10 n (fun j τ C => (∀ i, i ≠ i1 → C.blk i = A.blk i) ∧ C.next = A.next ∧ C.blk i1 = some (.row (qc (lo ++ (ql (X - Y) j ++ ((ql X n).drop j ++ hi)))) 0 1) ∧
    τ 0 = some (.slice (some ⟨i1, lo.length, some 0⟩) n c1) ∧ τ 1 = some (.slice (some ⟨i2, l2.length, some 0⟩) m c2) ∧ τ 5 = some (.int .u64 ((if X % 18446744073709551616 ^ j < Y % 18446744073709551616 ^ j then 1 else 0 : Nat) : Int)) ∧ τ 9 = some (.int .i64 n) ∧ τ 10 = some (.int .i64 j)) ?_ ?_
  · exact ⟨fun _ _ => rfl, rfl, by simpa [ql] using hb1, rfl, rfl, by simp [Nat.mod_one, upd], rfl, rfl⟩
  rintro j τ C hj ⟨hc, hCn, hc0, q0, q1, q5, q9, q10⟩
  simp only [↓R1, R2, R3, R4, TY, reduceIte, Nat.reduceEqDiff, Nat.reduceAdd, Nat.reduceMul, Nat.reduceLT, Nat.reduceLeDiff, reduceCtorEq, decide_true, decide_false, Int.reduceLE, Int.reduceLT, Int.reduceToNat, Int.reduceAdd, Int.reduceSub, Int.reduceMul, Int.reduceEq, q9, q10]
  refine ⟨fun hlt => ?_, fun hlt => ?_⟩
  · have hjl : j < (ql X n).length := by rw [ql_length]; omega
    have hdr : (ql X n).drop j = (X / 18446744073709551616 ^ j % 18446744073709551616) :: (ql X n).drop (j + 1) := by
      rw [List.drop_eq_getElem_cons hjl]
      congr 1
      have := ql_get (n := X) (k := n) (j := j) (by omega)
      rw [List.getElem?_eq_getElem hjl, Option.some.injEq] at this
      exact this
    have hl0 : (ql (X - Y) j).length = j := ql_length _ _
    have hword := ql_succ (X - Y) j
    rw [hdr, List.cons_append] at hc0
    have hget : ∀ a : Nat, (lo ++ (ql (X - Y) j ++ a :: ((ql X n).drop (j + 1) ++ hi)))[lo.length + j]? = some a := fun a => by
      rw [List.getElem?_append_right (by omega), Nat.add_sub_cancel_left, List.getElem?_append_right (by omega), hl0, Nat.sub_self]; rfl
    have hset : ∀ a b : Nat, (qc (lo ++ (ql (X - Y) j ++ a :: ((ql X n).drop (j + 1) ++ hi)))).set (lo.length + j) (.int .u64 (b : Nat)) = qc (lo ++ (ql (X - Y) j ++ b :: ((ql X n).drop (j + 1) ++ hi))) := fun a b => by
      rw [qc_set, List.set_append_right _ _ (by omega), Nat.add_sub_cancel_left, List.set_append_right _ _ (by omega), hl0, Nat.sub_self]; rfl
    have hlx : ∀ a : Nat, lo.length + j + 1 ≤ (qc (lo ++ (ql (X - Y) j ++ a :: ((ql X n).drop (j + 1) ++ hi)))).length := fun a => by
      rw [qc_length, List.length_append, List.length_append, List.length_cons, hl0]; omega
    have g1 : C.get G ⟨i1, lo.length + j, some 0⟩ = some (.int .u64 ((X / 18446744073709551616 ^ j % 18446744073709551616 : Nat) : Int)) := by
      simp only [Hp.get, hc0, if_true]
      exact qc_getq (hget _)
    have hj63 : j < 9223372036854775807 := by omega
    have l0 : j < n := hlt
    have hb : (if X % 18446744073709551616 ^ j < Y % 18446744073709551616 ^ j then 1 else 0 : Nat) ≤ 1 := by split <;> omega
    obtain ⟨s1, s2⟩ := sub_digit (p := 18446744073709551616 ^ j) (b := if X % 18446744073709551616 ^ j < Y % 18446744073709551616 ^ j then 1 else 0) rfl (Nat.pow_pos (by omega)) hXY rfl rfl rfl
    rw [← Nat.pow_succ] at s2
    rw [s1] at hword
    generalize X / 18446744073709551616 ^ j % 18446744073709551616 = x at *
    generalize hBB : (if X % 18446744073709551616 ^ j < Y % 18446744073709551616 ^ j then 1 else 0 : Nat) = b at *
    by_cases hjm : j < m
    · have g2 : C.get G ⟨i2, l2.length + j, some 0⟩ = some (.int .u64 ((Y / 18446744073709551616 ^ j % 18446744073709551616 : Nat) : Int)) := by
        simp only [Hp.get, hc _ hne, hb2, if_true]; exact mid_get hjm
      generalize Y / 18446744073709551616 ^ j % 18446744073709551616 = y at *
      simp only [↓R1, R2, R3, R4, TY, reduceIte, Nat.reduceEqDiff, Nat.reduceAdd, Nat.reduceMul, Nat.reduceLT, Nat.reduceLeDiff, reduceCtorEq, decide_true, decide_false, Int.reduceLE, Int.reduceLT, Int.reduceToNat, Int.reduceAdd, Int.reduceSub, Int.reduceMul, Int.reduceEq, q0, q1, q5, q9, q10, hjm, l0, g1, g2, hj63]
      refine call_of (sub64_ok x y b hb) ?_
      rw [s2]
      simp only [↓R1, R2, R3, R4, TY, reduceIte, Nat.reduceEqDiff, Nat.reduceAdd, Nat.reduceMul, Nat.reduceLT, Nat.reduceLeDiff, reduceCtorEq, decide_true, decide_false, Int.reduceLE, Int.reduceLT, Int.reduceToNat, Int.reduceAdd, Int.reduceSub, Int.reduceMul, Int.reduceEq, q0, q1, q5, q9, q10, hjm, l0, g1, g2, hj63, hc0, hset, hlx, hfl0]
      refine range_on q10 hlt rfl ⟨fun i hi => ?_, hCn, ?_, q0, q1, rfl, q9, rfl⟩
      · rw [Hp.put_blk, if_neg hi]; exact hc i hi
      · rw [Hp.put_blk, if_pos rfl, hword]; simp only [List.append_assoc, List.singleton_append]
    · have hy0 : Y / 18446744073709551616 ^ j % 18446744073709551616 = 0 := by
        rw [Nat.div_eq_of_lt (nq_le.1 (by omega))]
      rw [hy0] at s2 hword
      rw [Nat.sub_zero] at hword
      simp only [↓R1, R2, R3, R4, TY, reduceIte, Nat.reduceEqDiff, Nat.reduceAdd, Nat.reduceMul, Nat.reduceLT, Nat.reduceLeDiff, reduceCtorEq, decide_true, decide_false, Int.reduceLE, Int.reduceLT, Int.reduceToNat, Int.reduceAdd, Int.reduceSub, Int.reduceMul, Int.reduceEq, q0, q1, q5, q9, q10, hjm, l0, g1, hj63]
      refine call_of (sub64_ok x 0 b hb) ?_
      rw [s2]
      simp only [↓R1, R2, R3, R4, TY, reduceIte, Nat.reduceEqDiff, Nat.reduceAdd, Nat.reduceMul, Nat.reduceLT, Nat.reduceLeDiff, reduceCtorEq, decide_true, decide_false, Int.reduceLE, Int.reduceLT, Int.reduceToNat, Int.reduceAdd, Int.reduceSub, Int.reduceMul, Int.reduceEq, q0, q1, q5, q9, q10, hjm, l0, g1, hj63, hc0, hset, hlx, hfl0]
      refine range_on q10 hlt rfl ⟨fun i hi => ?_, hCn, ?_, q0, q1, rfl, q9, rfl⟩
      · rw [Hp.put_blk, if_neg hi]; exact hc i hi
      · rw [Hp.put_blk, if_pos rfl, hword]; simp only [List.append_assoc, List.singleton_append]
  · obtain rfl : j = n := by omega
    rw [List.drop_of_length_le (by rw [ql_length]; omega), List.nil_append] at hc0
    simp only [↓R1, R2, R3, R4, TY, reduceIte, Nat.reduceEqDiff, Nat.reduceAdd, Nat.reduceMul, Nat.reduceLT, Nat.reduceLeDiff, reduceCtorEq, decide_true, decide_false, Int.reduceLE, Int.reduceLT, Int.reduceToNat, Int.reduceAdd, Int.reduceSub, Int.reduceMul, Int.reduceEq, q0]
    refine call_of (cut_ok (A := C) hnD hnc (by omega) hc0 (by omega)) ?_
    simp only [↓R1, R2, R3, R4, TY, reduceIte, Nat.reduceEqDiff, Nat.reduceAdd, Nat.reduceMul, Nat.reduceLT, Nat.reduceLeDiff, reduceCtorEq, decide_true, decide_false, Int.reduceLE, Int.reduceLT, Int.reduceToNat, Int.reduceAdd, Int.reduceSub, Int.reduceMul, Int.reduceEq]
    refine Ended.put hA hid (fun i hi => ?_) rfl hrb (qc_rb _ _)
    rw [Hp.put_blk]
    split
    · rename_i h; rw [h]; exact hc0
    · rename_i h; exact hc i h
end
end Go.Proofs.YtjkimjmocfjjnaaDoor.Ab

/- Digits of 64 bits out of bytes. -/
namespace Go.Proofs.YtjkimjmocfjjnaaDoor.Ab
open Go.RowKit
set_option linter.unusedVariables false
set_option linter.unusedSimpArgs false
set_option maxRecDepth 100000

theorem pow256_8 (q : Nat) : (256 : Nat) ^ (8 * q) = 18446744073709551616 ^ q := by rw [Nat.pow_mul]
theorem ql_byte {v b i k : Nat} (hv : v < 256 ^ i) (hb : b < 256) (hk : i / 8 < k) : ql (b * 256 ^ i + v) k = (ql v k).set (i / 8) (v / 18446744073709551616 ^ (i / 8) % 18446744073709551616 + b * 256 ^ (i % 8)) := by
  have hi : (256 : Nat) ^ i = 18446744073709551616 ^ (i / 8) * 256 ^ (i % 8) := by rw [← pow256_8, ← Nat.pow_add]; congr 1; omega
  have hr8 : (256 : Nat) ^ (i % 8) * 256 ≤ 18446744073709551616 := by
    rw [← Nat.pow_succ]; exact Nat.le_trans (Nat.pow_le_pow_right (n := 256) (j := 8) (by omega) (by omega)) (by decide)
  apply List.ext_getElem?
  intro j
  rw [List.getElem?_set, ql_length]
  by_cases hj : j < k
  · have h1 : ∀ n, (ql n k)[j]? = some (n / 18446744073709551616 ^ j % 18446744073709551616) := fun n => by simp [ql, hj]
    rw [h1]
    split
    · rename_i hq
      subst hq
      have hvq : v / 18446744073709551616 ^ (i / 8) < 256 ^ (i % 8) := by
        rw [Nat.div_lt_iff_lt_mul (Nat.pow_pos (by omega)), Nat.mul_comm, ← hi]; exact hv
      rw [hi, Nat.mul_comm (18446744073709551616 ^ (i / 8)), ← Nat.mul_assoc, Nat.add_comm, Nat.add_mul_div_right _ _ (Nat.pow_pos (by omega))]
      have h2 : b * 256 ^ (i % 8) + 256 ^ (i % 8) ≤ 256 ^ (i % 8) * 256 := by
        rw [← Nat.succ_mul, Nat.mul_comm]; exact Nat.mul_le_mul_left _ (by omega)
      rw [Nat.mod_eq_of_lt (by omega), Nat.mod_eq_of_lt (a := v / _) (by omega)]
    · rename_i hq
      rw [h1]
      congr 1
      rcases Nat.lt_or_gt_of_ne hq with h | h
      · -- above
        have h3 : (256 : Nat) ^ i * 256 ≤ 18446744073709551616 ^ j := by
          rw [← Nat.pow_succ, ← pow256_8]; exact Nat.pow_le_pow_right (by omega) (by omega)
        have h4 : b * 256 ^ i + 256 ^ i ≤ 256 ^ i * 256 := by
          rw [← Nat.succ_mul, Nat.mul_comm]; exact Nat.mul_le_mul_left _ (by omega)
        rw [Nat.div_eq_of_lt (show b * 256 ^ i + v < 18446744073709551616 ^ j by omega), Nat.div_eq_of_lt (show v < 18446744073709551616 ^ j by omega)]
      · have h5 : (18446744073709551616 : Nat) ^ (i / 8) = 18446744073709551616 ^ j * 18446744073709551616 * 18446744073709551616 ^ (i / 8 - j - 1) := by
          rw [← Nat.pow_succ, ← Nat.pow_add]; congr 1; omega
        rw [hi, h5, show b * (18446744073709551616 ^ j * 18446744073709551616 * 18446744073709551616 ^ (i / 8 - j - 1) * 256 ^ (i % 8)) + v = v + (18446744073709551616 * (b * (18446744073709551616 ^ (i / 8 - j - 1) * 256 ^ (i % 8)))) * 18446744073709551616 ^ j by
          rw [Nat.add_comm]; congr 1
          simp only [Nat.mul_assoc, Nat.mul_comm, Nat.mul_left_comm]]
        rw [Nat.add_mul_div_right _ _ (Nat.pow_pos (by omega)), Nat.add_mul_mod_self_left]
  · rw [List.getElem?_eq_none (by rw [ql_length]; omega), List.getElem?_eq_none (by rw [ql_length]; omega)]
    split
    · omega
    · rfl

section
variable {G : Gl} {fl : Nat} {A : Hp}

theorem limbs_ok {l : List UInt8} (hl : l.length ≤ 100000000000) :
    Sound Tryd.prog G 116 [.string (S l)] fl A (.slice (some ⟨A.next, 0, some 0⟩) ((l.length + 7) / 8) ((l.length + 7) / 8)) (A.push (.row (qc (ql (nv l) ((l.length + 7) / 8))) 0 1)) := by
  refine Sound.of mixed Tryd.func116 Tryd.ntmps116 Tryd.results116 (by kernel_rfl) rfl (by kernel_rfl) (by kernel_rfl) fun hA => ?_
  have w1 : IntKind.i64.wrap ((l.length : Int) + 7) = ((l.length + 7 : Nat) : Int) := by rw [wrapI (by omega)]; omega
  have w2 : ((l.length + 7 : Nat) : Int).tdiv 8 = (((l.length + 7) / 8 : Nat) : Int) := by rw [show (8 : Int) = ((8 : Nat) : Int) from rfl, div_n]
  have w3 : IntKind.i64.wrap ((((l.length + 7) / 8 : Nat)) : Int) = (((l.length + 7) / 8 : Nat) : Int) := wrapI (by omega)
  have w4 : ((8 : Nat) : Int) * (((l.length + 7) / 8 : Nat) : Int) ≤ 281474976710656 := by omega
  have w5 : (((l.length + 7) / 8 : Nat) : Int) ≤ 9223372036854775807 := by omega
  simp only [↓R1, R2, R3, R4, TY, reduceIte, Nat.reduceEqDiff, Nat.reduceAdd, Nat.reduceMul, Nat.reduceLT, Nat.reduceLeDiff, reduceCtorEq, decide_true, decide_false, Int.reduceLE, Int.reduceLT, Int.reduceToNat, Int.reduceAdd, Int.reduceSub, Int.reduceMul, Int.reduceEq, S_size, w1, w2, w3, w4, w5]
  refine range_of 12 l.length (fun j τ B => Xt A.next A B ∧ B.next = A.next + 1 ∧ B.blk A.next = some (.row (qc (ql (nv (l.drop (l.length - j))) ((l.length + 7) / 8))) 0 1) ∧ τ 0 = some (.string (S l)) ∧ τ 3 = some (.slice (some ⟨A.next, 0, some 0⟩) ((l.length + 7) / 8) ((l.length + 7) / 8)) ∧ τ 11 = some (.int .i64 l.length) ∧ τ 12 = some (.int .i64 j)) ?_ ?_
  · refine ⟨(Xt.refl A).push _, rfl, ?_, rfl, rfl, rfl, rfl⟩
    rw [Hp.push_blk, if_pos rfl, zl_one, qc_zeros, show l.drop (l.length - 0) = [] by simp]
    have : ql (nv []) ((l.length + 7) / 8) = List.replicate ((l.length + 7) / 8) 0 := by
      apply List.ext_getElem
      · simp [ql]
      · intro i h1 h2; simp [ql, nv_nil]
    rw [this]
  rintro j τ B hj ⟨hx, hn1, hb, q0, q3, q11, q12⟩
  simp only [↓R1, R2, R3, R4, TY, reduceIte, Nat.reduceEqDiff, Nat.reduceAdd, Nat.reduceMul, Nat.reduceLT, Nat.reduceLeDiff, reduceCtorEq, decide_true, decide_false, Int.reduceLE, Int.reduceLT, Int.reduceToNat, Int.reduceAdd, Int.reduceSub, Int.reduceMul, Int.reduceEq, q0, q3, q11, q12]
  refine ⟨fun hlt => ?_, fun hlt => ?_⟩
  rotate_left
  · refine Ended.one hA hx (Nat.le_refl _) ?_ (Nat.le_refl _) (qc_rb _ _)
    rw [hb, show l.length - j = 0 by omega]; rfl
  have hfl : fl ≤ A.next := hA.floor
  have hj63 : j < 9223372036854775807 := by omega
  have v1 : IntKind.i64.wrap ((l.length : Int) - 1) = ((l.length - 1 : Nat) : Int) := by rw [wrapI (by omega)]; omega
  have v2 : IntKind.i64.wrap (((l.length - 1 : Nat) : Int) - (j : Int)) = ((l.length - 1 - j : Nat) : Int) := by rw [wrapI (by omega)]; omega
  have v3 : (j : Int).tdiv 8 = ((j / 8 : Nat) : Int) := by rw [show (8 : Int) = ((8 : Nat) : Int) from rfl, div_n]
  have v4 : IntKind.i64.wrap ((j / 8 : Nat) : Int) = ((j / 8 : Nat) : Int) := wrapI (by omega)
  have v5 : (j : Int).tmod 8 = ((j % 8 : Nat) : Int) := by rw [show (8 : Int) = ((8 : Nat) : Int) from rfl, mod_n]
  have v6 : IntKind.i64.wrap (((j % 8 : Nat) : Int) * 8) = ((j % 8 * 8 : Nat) : Int) := by rw [wrapI (by omega)]; omega
  have v7 : j / 8 < (l.length + 7) / 8 := by omega
  have v8 : l.length - 1 - j < l.length := by omega
  have v9 : min (j % 8 * 8) 64 = j % 8 * 8 := by omega
  have hg : B.get G ⟨A.next, j / 8, some 0⟩ = some (.int .u64 ((nv (l.drop (l.length - j)) / 18446744073709551616 ^ (j / 8) % 18446744073709551616 : Nat) : Int)) := by
    simp only [Hp.get, hb, if_true]
    exact qc_getq (ql_get v7)
  have hbyte := S_at v8
  have hlen : (qc (ql (nv (l.drop (l.length - j))) ((l.length + 7) / 8))).length = (l.length + 7) / 8 := by rw [qc_length, ql_length]
  have v10 : j / 8 + 1 ≤ (l.length + 7) / 8 := by omega
  simp only [↓R1, R2, R3, R4, TY, reduceIte, Nat.reduceEqDiff, Nat.reduceAdd, Nat.reduceMul, Nat.reduceLT, Nat.reduceLeDiff, reduceCtorEq, decide_true, decide_false, Int.reduceLE, Int.reduceLT, Int.reduceToNat, Int.reduceAdd, Int.reduceSub, Int.reduceMul, Int.reduceEq, S_size, q0, q3, q11, q12, hlt, hj63, v1, v2, v3, v4, v5, v6, v7, v8, v9, hg, hfl, hb, hbyte, hlen, v10, UN]
  rw [floOf_wr (by kernel_rfl)]
  simp only [↓R1, R2, R3, R4, TY, reduceIte, Nat.reduceEqDiff, Nat.reduceAdd, Nat.reduceMul, Nat.reduceLT, Nat.reduceLeDiff, reduceCtorEq, decide_true, decide_false, Int.reduceLE, Int.reduceLT, Int.reduceToNat, Int.reduceAdd, Int.reduceSub, Int.reduceMul, Int.reduceEq, S_size, q0, q3, q11, q12, hlt, hj63, v1, v2, v3, v4, v5, v6, v7, v8, v9, hg, hfl, hb, hbyte, hlen, v10, UN]
  refine range_on q12 hlt rfl ⟨by simp (maxDischargeDepth := 20) only [xt_put, hx, Nat.le_refl], hn1, ?_, q0, q3, q11, rfl⟩
  simp only [Hp.put_blk, if_true]
  have hb8 := l[l.length - 1 - j].toNat_lt
  have hdrop : l.drop (l.length - (j + 1)) = l[l.length - 1 - j] :: l.drop (l.length - j) := by
    rw [List.drop_eq_getElem_cons (by omega), show l.length - (j + 1) + 1 = l.length - j by omega]
    simp only [show l.length - (j + 1) = l.length - 1 - j by omega]
  have hv := nv_lt (l.drop (l.length - j))
  rw [List.length_drop, show l.length - (l.length - j) = j by omega] at hv
  rw [qc_set, hdrop, nv_cons, List.length_drop, show l.length - (l.length - j) = j by omega, ql_byte hv hb8 v7]
  generalize nv (l.drop (l.length - j)) = v at hv ⊢
  generalize l[l.length - 1 - j].toNat = b at hb8 ⊢
  have hi : (256 : Nat) ^ j = 18446744073709551616 ^ (j / 8) * 256 ^ (j % 8) := by rw [← pow256_8, ← Nat.pow_add]; congr 1; omega
  have hvq : v / 18446744073709551616 ^ (j / 8) < 256 ^ (j % 8) := by
    rw [Nat.div_lt_iff_lt_mul (Nat.pow_pos (by omega)), Nat.mul_comm, ← hi]; exact hv
  generalize v / 18446744073709551616 ^ (j / 8) = q at hvq ⊢
  have h2 : (2 : Nat) ^ (j % 8 * 8) = 256 ^ (j % 8) := by rw [Nat.mul_comm, Nat.pow_mul]
  have hr8 : (256 : Nat) ^ (j % 8) * 256 ≤ 18446744073709551616 := by
    rw [← Nat.pow_succ]; exact Nat.le_trans (Nat.pow_le_pow_right (n := 256) (j := 8) (by omega) (by omega)) (by decide)
  rw [← h2] at hvq hr8 ⊢
  generalize hm : j % 8 * 8 = e at hvq hr8 ⊢
  generalize hp : (2 : Nat) ^ e = p at hvq hr8 ⊢
  have h3 : b * p + p ≤ p * 256 := by rw [← Nat.succ_mul, Nat.mul_comm]; exact Nat.mul_le_mul_left _ (by omega)
  rw [Nat.mod_eq_of_lt (a := q) (by omega), Nat.mod_eq_of_lt (a := q) (by omega), Nat.mod_eq_of_lt (a := b) (by omega), Nat.mod_eq_of_lt (a := b * p) (by omega), Nat.mod_eq_of_lt (a := b * p) (by omega), ← hp, or_add' (by rw [hp]; exact hvq), Nat.mod_eq_of_lt (by rw [hp]; omega)]
end
end Go.Proofs.YtjkimjmocfjjnaaDoor.Ab
