/- Zeros at the end of a word; digits of 64 bits in the heap. -/
import Derived.Test.YtpaffoiiipgkeaaDoorPa
namespace Go.Proofs.YtpaffoiiipgkeaaDoor.Ab
open Go.RowKit
set_option linter.unusedVariables false
set_option linter.unusedSimpArgs false
set_option maxRecDepth 100000

/-- The table of the model's numbers for the places of one bit. -/
def tab : List Nat := [0, 1, 56, 2, 57, 49, 28, 3, 61, 58, 42, 50, 38, 29, 17, 4, 62, 47, 59, 36, 45, 43, 51, 22, 53, 39, 33, 30, 24, 18, 12, 5, 63, 55, 48, 27, 60, 41, 37, 16, 46, 35, 44, 21, 52, 32, 23, 11, 54, 26, 40, 15, 34, 20, 31, 10, 25, 14, 19, 9, 13, 8, 7, 6]
theorem tab_get : ∀ t, t < 64 → tab[2 ^ t * 285870213051353865 % 18446744073709551616 / 2 ^ 58]? = some t := by decide +kernel
def tabV : List Value := tab.map fun n => .int .u8 (n : Nat)

theorem low_bit {x t u : Nat} (hx : x = 2 ^ t * u) (hu : u % 2 = 1) (h : x < 2 ^ 64) : x &&& (2 ^ 64 - x) = 2 ^ t := by
  have h4 : 2 ^ t * 1 ≤ 2 ^ t * u := Nat.mul_le_mul_left _ (by omega)
  have ht : t < 64 := (Nat.pow_lt_pow_iff_right (a := 2) (by omega)).1 (by omega)
  have e : 2 ^ 64 = 2 ^ t * (2 * 2 ^ (63 - t)) := by rw [← Nat.pow_succ', ← Nat.pow_add]; congr 1; omega
  have hul : u < 2 * 2 ^ (63 - t) := by
    rw [hx, e] at h; exact Nat.lt_of_mul_lt_mul_left h
  obtain ⟨w, rfl⟩ : ∃ w, u = 2 * w + 1 := ⟨u / 2, by omega⟩
  have hw : w < 2 ^ (63 - t) := by omega
  have e2 : 2 ^ 64 - x = 2 ^ t * (2 * (2 ^ (63 - t) - (w + 1)) + 1) := by
    rw [hx, e, ← Nat.mul_sub]; congr 1; omega
  rw [e2, hx]
  apply Nat.eq_of_testBit_eq
  intro i
  rw [Nat.testBit_and, Nat.mul_comm (2 ^ t), Nat.mul_comm (2 ^ t), Nat.testBit_mul_two_pow, Nat.testBit_mul_two_pow, Nat.testBit_two_pow]
  by_cases hi : t ≤ i
  · rw [show decide (t ≤ i) = true from decide_eq_true hi, Bool.true_and, Bool.true_and]
    by_cases h0 : i = t
    · subst h0
      rw [Nat.sub_self]
      simp
    · obtain ⟨k, hk⟩ : ∃ k, i - t = k + 1 := ⟨i - t - 1, by omega⟩
      rw [hk, Nat.testBit_succ, Nat.testBit_succ, show (2 * w + 1) / 2 = w by omega, show (2 * (2 ^ (63 - t) - (w + 1)) + 1) / 2 = 2 ^ (63 - t) - (w + 1) by omega, Nat.testBit_two_pow_sub_succ hw, decide_eq_false (Ne.symm h0)]
      cases w.testBit k <;> simp
  · rw [decide_eq_false hi, decide_eq_false (show t ≠ i by omega)]; simp

section
variable {G : Gl} {fl : Nat} {A : Hp}

theorem trailing_ok {x : Nat} (hG : G 1 = some tabV) (h0 : x ≠ 0) (h : x < 18446744073709551616) : Sound Tryd.prog G 95 [.int .u64 (x : Nat)] fl A (.int .i64 (v2 x : Nat)) A := by
  refine Sound.of mixed Tryd.func95 Tryd.ntmps95 Tryd.results95 (by kernel_rfl) rfl (by kernel_rfl) (by simp) fun hA => ?_
  obtain ⟨u, hx, hu⟩ := v2_spec x h0
  have hb := low_bit hx hu h
  have hz : (((x : Nat) : Int) = 0) = False := eq_false (by omega)
  have h4 : 2 ^ v2 x * 1 ≤ 2 ^ v2 x * u := Nat.mul_le_mul_left _ (by omega)
  have ht : v2 x < 64 := (Nat.pow_lt_pow_iff_right (a := 2) (by omega)).1 (by omega)
  have e1 : (BitVec.ofInt IntKind.u64.bits (x : Int) &&& BitVec.ofInt IntKind.u64.bits (IntKind.u64.wrap (0 - (x : Int)))).toNat % 18446744073709551616 = 2 ^ v2 x := by
    rw [show (0 : Int) - (x : Int) = ((0 : Nat) : Int) - (x : Int) from rfl, u64_sub (by omega), bits_u64, BitVec.toNat_and, BitVec.ofInt_natCast, BitVec.ofInt_natCast, BitVec.toNat_ofNat, BitVec.toNat_ofNat, Nat.mod_eq_of_lt (show x < 2 ^ 64 by omega), show (0 + 18446744073709551616 - x) % 18446744073709551616 % 2 ^ 64 = 2 ^ 64 - x by omega, hb]
    exact Nat.mod_eq_of_lt (Nat.pow_lt_pow_right (by omega) ht)
  have e2 : ((2 ^ v2 x : Nat) : Int) * 285870213051353865 = ((2 ^ v2 x * 285870213051353865 : Nat) : Int) := by simp
  have e3 : min 58 64 = 58 := rfl
  generalize v2 x = t at *
  have hg := tab_get t ht
  have hlt : 2 ^ t * 285870213051353865 % 18446744073709551616 / 2 ^ 58 < 64 := by omega
  generalize hi : 2 ^ t * 285870213051353865 % 18446744073709551616 / 2 ^ 58 = i at *
  have hgv : tabV[i]? = some (.int .u8 (t : Nat)) := by simp [tabV, hg]
  have w1 : IntKind.i64.wrap (t : Int) = (t : Int) := wrapI (by omega)
  simp only [↓R1, R2, R3, R4, TY, reduceIte, Nat.reduceEqDiff, Nat.reduceAdd, Nat.reduceMul, Nat.reduceLT, Nat.reduceLeDiff, reduceCtorEq, decide_true, decide_false, Int.reduceLE, Int.reduceLT, Int.reduceToNat, Int.reduceAdd, Int.reduceSub, Int.reduceMul, Int.reduceEq, hz, UN, e1, e2, e3, hi, hlt, hG, hgv, w1]
  exact Ended.back hA (Xt.refl _) rfl (RB.int _ _)

/-- A row of digits of 64 bits. -/
def qc (l : List Nat) : List Value := l.map fun w => .int .u64 (w : Nat)
theorem qc_length (l : List Nat) : (qc l).length = l.length := by simp [qc]
theorem qc_getq {l : List Nat} {j w : Nat} (h : l[j]? = some w) : (qc l)[j]? = some (.int .u64 (w : Nat)) := by simp [qc, h]
theorem qc_set {l : List Nat} {j : Nat} {w : Nat} : (qc l).set j (.int .u64 (w : Nat)) = qc (l.set j w) := by simp [qc, List.map_set]
theorem qc_zeros (k : Nat) : List.replicate k (Value.int .u64 0) = qc (List.replicate k 0) := by simp [qc]
theorem qc_rb (n : Nat) (l : List Nat) : ∀ u ∈ qc l, RB n u := by
  intro u hu
  simp only [qc, List.mem_map] at hu
  obtain ⟨w, _, rfl⟩ := hu
  exact RB.int _ _
theorem rb_slice {m id o g n c : Nat} (h : id < m) (hn : n ≤ c) : RB m (.slice (some ⟨id, o, some g⟩) n c) := ⟨.slice (some ⟨id, o, none⟩) n c, .sl h (Nat.le_refl _) hn ⟨g, rfl, fun cs g e h => by cases h⟩⟩
/-- A digit in the middle of a row. -/
theorem mid_get {lo hi : List Nat} {X n j : Nat} (h : j < n) : (qc (lo ++ (ql X n ++ hi)))[lo.length + j]? = some (.int .u64 ((X / 18446744073709551616 ^ j % 18446744073709551616 : Nat) : Int)) := by
  refine qc_getq ?_
  rw [List.getElem?_append_right (by omega), Nat.add_sub_cancel_left, List.getElem?_append_left (by rw [ql_length]; exact h), ql_get h]

theorem cut_ok {id n c X : Nat} {lo hi : List Nat} (hn : nq X ≤ n) (hnc : n ≤ c) (hlen : lo.length + n ≤ 1000000) (hb : A.blk id = some (.row (qc (lo ++ (ql X n ++ hi))) 0 1)) (hid : id < A.next) :
    Sound Tryd.prog G 96 [.slice (some ⟨id, lo.length, some 0⟩) n c] fl A (.slice (some ⟨id, lo.length, some 0⟩) (nq X) c) A := by
  refine Sound.of mixed Tryd.func96 Tryd.ntmps96 Tryd.results96 (by kernel_rfl) rfl (by kernel_rfl) (by simp) fun hA => ?_
  have he : eszOK A id 1 := by simp [eszOK, hb]
  have hrb : RB A.next (.slice (some ⟨id, lo.length, some 0⟩) (nq X) c) := rb_slice hid (by omega)
  simp only [↓R1, R2, R3, R4, TY, reduceIte, Nat.reduceEqDiff, Nat.reduceAdd, Nat.reduceMul, Nat.reduceLT, Nat.reduceLeDiff, reduceCtorEq, decide_true, decide_false, Int.reduceLE, Int.reduceLT, Int.reduceToNat, Int.reduceAdd, Int.reduceSub, Int.reduceMul, Int.reduceEq]
  refine loop_of (fun τ B => B = A ∧ ∃ m, nq X ≤ m ∧ m ≤ n ∧ τ 0 = some (.slice (some ⟨id, lo.length, some 0⟩) m c)) (fun τ _ => match τ 0 with | some (.slice _ m _) => m | _ => 0) ?_ ?_
  · exact ⟨rfl, n, hn, Nat.le_refl _, rfl⟩
  rintro τ B ⟨rfl, m, hm1, hm2, q0⟩
  have hm0 : ((0 : Int) < (m : Int)) = (0 < m) := propext (by omega)
  have fin : ∀ v, v = (.slice (some ⟨id, lo.length, some 0⟩) (nq X) c) → Ended B v B (.slice (some ⟨id, lo.length, some 0⟩) (nq X) c) B := fun v hv => Ended.back hA (Xt.refl _) hv hrb
  by_cases hp : 0 < m
  · have w1 : IntKind.i64.wrap ((m : Int) - 1) = ((m - 1 : Nat) : Int) := by rw [wrapI (by omega)]; omega
    have hg : B.get G ⟨id, lo.length + (m - 1), some 0⟩ = some (.int .u64 ((X / 18446744073709551616 ^ (m - 1) % 18446744073709551616 : Nat) : Int)) := by
      simp only [Hp.get, hb, if_true]; exact mid_get (by omega)
    have l1 : m - 1 < m := by omega
    have l2 : m - 1 ≤ c := by omega
    by_cases hmm : nq X = m
    · have hz : (((X / 18446744073709551616 ^ (m - 1) % 18446744073709551616 : Nat) : Int) = 0) = False := by
        refine eq_false ?_
        have hX : X ≠ 0 := fun h => by rw [h, nq_zero] at hmm; omega
        have h1 := nq_ge hX
        have h2 := lt_nq X
        rw [hmm] at h1 h2
        have e : (18446744073709551616 : Nat) ^ m = 18446744073709551616 ^ (m - 1) * 18446744073709551616 := by rw [← Nat.pow_succ]; congr 1; omega
        have h3 : X / 18446744073709551616 ^ (m - 1) < 18446744073709551616 := by rw [Nat.div_lt_iff_lt_mul (Nat.pow_pos (by omega)), Nat.mul_comm, ← e]; exact h2
        have h4 : 1 ≤ X / 18446744073709551616 ^ (m - 1) := by rw [Nat.le_div_iff_mul_le (Nat.pow_pos (by omega)), Nat.one_mul]; exact h1
        rw [Nat.mod_eq_of_lt h3]; omega
      simp only [↓R1, R2, R3, R4, TY, reduceIte, Nat.reduceEqDiff, Nat.reduceAdd, Nat.reduceMul, Nat.reduceLT, Nat.reduceLeDiff, reduceCtorEq, decide_true, decide_false, Int.reduceLE, Int.reduceLT, Int.reduceToNat, Int.reduceAdd, Int.reduceSub, Int.reduceMul, Int.reduceEq, q0, hm0, hp, w1, hg, l1, l2, hz, he]
      exact fin _ (by rw [hmm])
    · have hz : (((X / 18446744073709551616 ^ (m - 1) % 18446744073709551616 : Nat) : Int) = 0) = True := by
        refine eq_true ?_
        rw [Nat.div_eq_of_lt (nq_le.1 (by omega))]; rfl
      simp only [↓R1, R2, R3, R4, TY, reduceIte, Nat.reduceEqDiff, Nat.reduceAdd, Nat.reduceMul, Nat.reduceLT, Nat.reduceLeDiff, reduceCtorEq, decide_true, decide_false, Int.reduceLE, Int.reduceLT, Int.reduceToNat, Int.reduceAdd, Int.reduceSub, Int.reduceMul, Int.reduceEq, q0, hm0, hp, w1, hg, l1, l2, hz, he]
      refine loop_on ⟨rfl, m - 1, by omega, by omega, rfl⟩ ?_
      simp only [q0, upd, reduceIte, Nat.reduceEqDiff]
      omega
  · obtain rfl : m = 0 := by omega
    have hp' : (0 < 0) = False := by simp
    simp only [↓R1, R2, R3, R4, TY, reduceIte, Nat.reduceEqDiff, Nat.reduceAdd, Nat.reduceMul, Nat.reduceLT, Nat.reduceLeDiff, reduceCtorEq, decide_true, decide_false, Int.reduceLE, Int.reduceLT, Int.reduceToNat, Int.reduceAdd, Int.reduceSub, Int.reduceMul, Int.reduceEq, q0, hm0, hp', Int.lt_irrefl]
    exact fin _ (by rw [show nq X = 0 by omega])

theorem evens_ok {id n c X : Nat} {lo hi : List Nat} (hG : G 1 = some tabV) (h0 : X ≠ 0) (hn : nq X ≤ n) (hlen : lo.length + n ≤ 1000000) (hb : A.blk id = some (.row (qc (lo ++ (ql X n ++ hi))) 0 1)) :
    Sound Tryd.prog G 78 [.slice (some ⟨id, lo.length, some 0⟩) n c] fl A (.int .i64 (v2 X : Nat)) A := by
  refine Sound.of mixed Tryd.func78 Tryd.ntmps78 Tryd.results78 (by kernel_rfl) rfl (by kernel_rfl) (by simp) fun hA => ?_
  simp only [↓R1, R2, R3, R4, TY, reduceIte, Nat.reduceEqDiff, Nat.reduceAdd, Nat.reduceMul, Nat.reduceLT, Nat.reduceLeDiff, reduceCtorEq, decide_true, decide_false, Int.reduceLE, Int.reduceLT, Int.reduceToNat, Int.reduceAdd, Int.reduceSub, Int.reduceMul, Int.reduceEq]
  refine loop_of (fun τ B => B = A ∧ ∃ m, X % 18446744073709551616 ^ m = 0 ∧ τ 0 = some (.slice (some ⟨id, lo.length, some 0⟩) n c) ∧ τ 3 = some (.int .i64 (m : Nat))) (fun τ _ => match τ 3 with | some (.int _ m) => (n - m).toNat | _ => 0) ?_ ?_
  · exact ⟨rfl, 0, by simp [Nat.mod_one], rfl, rfl⟩
  rintro τ B ⟨rfl, m, hm, q0, q3⟩
  have hml : m < n := by
    have h1 := Nat.le_of_dvd (by omega) (Nat.dvd_of_mod_eq_zero hm)
    have h2 := lt_nq X
    have h3 := (Nat.pow_lt_pow_iff_right (a := 18446744073709551616) (by omega)).1 (Nat.lt_of_le_of_lt h1 h2)
    omega
  have hg : B.get G ⟨id, lo.length + m, some 0⟩ = some (.int .u64 ((X / 18446744073709551616 ^ m % 18446744073709551616 : Nat) : Int)) := by
    simp only [Hp.get, hb, if_true]; exact mid_get (by omega)
  have hX : X = 18446744073709551616 ^ m * (X / 18446744073709551616 ^ m) := by
    have := Nat.div_add_mod X (18446744073709551616 ^ m); omega
  by_cases hz : X / 18446744073709551616 ^ m % 18446744073709551616 = 0
  · have hz' : (((X / 18446744073709551616 ^ m % 18446744073709551616 : Nat) : Int) = 0) = True := eq_true (by omega)
    have w1 : IntKind.i64.wrap ((m : Int) + 1) = ((m + 1 : Nat) : Int) := by rw [wrapI (by omega)]; omega
    simp only [↓R1, R2, R3, R4, TY, reduceIte, Nat.reduceEqDiff, Nat.reduceAdd, Nat.reduceMul, Nat.reduceLT, Nat.reduceLeDiff, reduceCtorEq, decide_true, decide_false, Int.reduceLE, Int.reduceLT, Int.reduceToNat, Int.reduceAdd, Int.reduceSub, Int.reduceMul, Int.reduceEq, q0, q3, hml, hg, hz', w1]
    refine loop_on ⟨rfl, m + 1, ?_, q0, rfl⟩ ?_
    · have h3 := Nat.div_add_mod (X / 18446744073709551616 ^ m) 18446744073709551616
      rw [hz, Nat.add_zero] at h3
      rw [hX, ← h3, ← Nat.mul_assoc, ← Nat.pow_succ]
      exact Nat.mul_mod_right _ _
    · simp only [q3, upd, reduceIte, Nat.reduceEqDiff]
      omega
  · have hz' : (((X / 18446744073709551616 ^ m % 18446744073709551616 : Nat) : Int) = 0) = False := eq_false (by omega)
    have w1 : IntKind.i64.wrap (64 * (m : Int)) = ((64 * m : Nat) : Int) := by rw [wrapI (by omega)]; omega
    obtain ⟨e1, e2⟩ := v2_word hX hz
    simp only [↓R1, R2, R3, R4, TY, reduceIte, Nat.reduceEqDiff, Nat.reduceAdd, Nat.reduceMul, Nat.reduceLT, Nat.reduceLeDiff, reduceCtorEq, decide_true, decide_false, Int.reduceLE, Int.reduceLT, Int.reduceToNat, Int.reduceAdd, Int.reduceSub, Int.reduceMul, Int.reduceEq, q0, q3, hml, hg, hz', w1]
    refine call_of (trailing_ok hG hz (Nat.mod_lt _ (by omega))) ?_
    have w2 : IntKind.i64.wrap (((64 * m : Nat) : Int) + ((v2 (X / 18446744073709551616 ^ m % 18446744073709551616) : Nat) : Int)) = ((v2 X : Nat) : Int) := by rw [wrapI (by omega)]; omega
    simp only [↓R1, R2, R3, R4, TY, reduceIte, Nat.reduceEqDiff, Nat.reduceAdd, Nat.reduceMul, Nat.reduceLT, Nat.reduceLeDiff, reduceCtorEq, decide_true, decide_false, Int.reduceLE, Int.reduceLT, Int.reduceToNat, Int.reduceAdd, Int.reduceSub, Int.reduceMul, Int.reduceEq, q0, q3, w1, w2]
    exact Ended.back hA (Xt.refl _) rfl (RB.int _ _)
end
end Go.Proofs.YtpaffoiiipgkeaaDoor.Ab
