/- Numbers in digits of 64 bits: plain facts. -/
import Derived.Test.YtjkimjmocfjjnaaDoorOg
namespace Go.Proofs.YtjkimjmocfjjnaaDoor.Ab
set_option linter.unusedVariables false
set_option linter.unusedSimpArgs false
set_option maxRecDepth 100000

/-- k digits of a number in base 2^64, the least first. -/
def ql (n k : Nat) : List Nat := (List.range k).map fun j => n / 18446744073709551616 ^ j % 18446744073709551616
theorem ql_length (n k : Nat) : (ql n k).length = k := by simp [ql]
theorem ql_get {n k j : Nat} (h : j < k) : (ql n k)[j]? = some (n / 18446744073709551616 ^ j % 18446744073709551616) := by simp [ql, h]
theorem ql_succ (n k : Nat) : ql n (k + 1) = ql n k ++ [n / 18446744073709551616 ^ k % 18446744073709551616] := by simp [ql, List.range_succ]
theorem ql_cons (n k : Nat) : ql n (k + 1) = n % 18446744073709551616 :: ql (n / 18446744073709551616) k := by
  induction k with
  | zero => simp [ql]
  | succ k ih => rw [ql_succ, ih, ql_succ, List.cons_append, Nat.div_div_eq_div_mul, ← Nat.pow_succ']
theorem ql_add (n a b : Nat) : ql n (a + b) = ql n a ++ ql (n / 18446744073709551616 ^ a) b := by
  induction b with
  | zero => simp [ql]
  | succ b ih => rw [← Nat.add_assoc, ql_succ, ih, ql_succ, List.append_assoc, Nat.div_div_eq_div_mul, ← Nat.pow_add]
theorem ql_zero (k : Nat) : ql 0 k = List.replicate k 0 := by
  induction k with
  | zero => rfl
  | succ k ih => rw [ql_succ, ih, Nat.zero_div, Nat.zero_mod, List.replicate_succ']

/-- How many digits a number has. -/
def nq (n : Nat) : Nat := if h : n = 0 then 0 else nq (n / 18446744073709551616) + 1
termination_by n
decreasing_by omega
theorem nq_zero : nq 0 = 0 := by rw [nq]; simp
theorem nq_pos {n : Nat} (h : n ≠ 0) : nq n = nq (n / 18446744073709551616) + 1 := by rw [nq, dif_neg h]
theorem nq_le {n k : Nat} : nq n ≤ k ↔ n < 18446744073709551616 ^ k := by
  induction k generalizing n with
  | zero =>
    by_cases h : n = 0
    · rw [h, nq_zero]; simp
    · rw [nq_pos h]; simp; omega
  | succ k ih =>
    by_cases h : n = 0
    · rw [h, nq_zero]; simp [Nat.pow_pos]
    · rw [nq_pos h, Nat.add_le_add_iff_right, ih, Nat.pow_succ, Nat.div_lt_iff_lt_mul (by omega)]
theorem lt_nq (n : Nat) : n < 18446744073709551616 ^ nq n := nq_le.1 (Nat.le_refl _)
theorem nq_eq_zero {n : Nat} : nq n = 0 ↔ n = 0 := by
  refine ⟨fun h => ?_, fun h => by rw [h, nq_zero]⟩
  have := nq_le.1 (show nq n ≤ 0 by omega)
  rw [Nat.pow_zero] at this; omega
theorem nq_mono {a b : Nat} (h : a ≤ b) : nq a ≤ nq b := nq_le.2 (Nat.lt_of_le_of_lt h (lt_nq b))
theorem nq_ge {n : Nat} (h : n ≠ 0) : 18446744073709551616 ^ (nq n - 1) ≤ n := by
  have h1 := mt nq_eq_zero.1 h
  have h2 := mt (nq_le (n := n) (k := nq n - 1)).2 (by omega)
  omega
theorem nq_one {n : Nat} (h : n ≠ 0) (h1 : n < 18446744073709551616) : nq n = 1 := by
  have h2 := nq_le.2 (show n < 18446744073709551616 ^ 1 by simpa using h1)
  have h3 := mt nq_eq_zero.1 h
  omega
theorem nq_bytes (n : Nat) : nq n = ((nb n).length + 7) / 8 := by
  have h : ∀ k, nq n ≤ k ↔ (nb n).length ≤ 8 * k := fun k => by rw [nq_le, nb_len_le, Nat.pow_mul]
  have h1 := (h (nq n)).1 (Nat.le_refl _)
  have h2 := (h (((nb n).length + 7) / 8)).2 (by omega)
  omega
/-- The rest of a number's digits are zeros. -/
theorem ql_pad {n k : Nat} (h : nq n ≤ k) : ql n k = ql n (nq n) ++ List.replicate (k - nq n) 0 := by
  have := ql_add n (nq n) (k - nq n)
  rw [show nq n + (k - nq n) = k by omega, Nat.div_eq_of_lt (lt_nq n), ql_zero] at this
  exact this
theorem ql_low {r x k : Nat} (j : Nat) (h : r < 18446744073709551616 ^ k) : ql (r + 18446744073709551616 ^ k * x) (k + j) = ql r k ++ ql x j := by
  have hp : 0 < (18446744073709551616 : Nat) ^ k := Nat.pow_pos (by omega)
  rw [ql_add, Nat.add_mul_div_left _ _ hp, Nat.div_eq_of_lt h, Nat.zero_add]
  congr 1
  clear j
  unfold ql
  refine List.map_congr_left fun i hi => ?_
  rw [List.mem_range] at hi
  have e : (18446744073709551616 : Nat) ^ k = 18446744073709551616 ^ i * (18446744073709551616 * 18446744073709551616 ^ (k - i - 1)) := by
    rw [← Nat.pow_succ', ← Nat.pow_add]; congr 1; omega
  rw [e, Nat.mul_assoc, Nat.add_mul_div_left _ _ (Nat.pow_pos (by omega)), Nat.mul_assoc, Nat.add_mul_mod_self_left]

/-- How often a number can be halved. -/
def v2 (n : Nat) : Nat := if h : n = 0 ∨ n % 2 = 1 then 0 else v2 (n / 2) + 1
termination_by n
decreasing_by omega
theorem v2_odd {n : Nat} (h : n % 2 = 1) : v2 n = 0 := by rw [v2, dif_pos (.inr h)]
theorem v2_even {n : Nat} (h0 : n ≠ 0) (h : n % 2 = 0) : v2 n = v2 (n / 2) + 1 := by rw [v2, dif_neg (by omega)]
theorem v2_spec (n : Nat) : n ≠ 0 → ∃ u, n = 2 ^ v2 n * u ∧ u % 2 = 1 := by
  induction n using Nat.strongRecOn with
  | _ n ih =>
    intro h0
    by_cases h : n % 2 = 1
    · exact ⟨n, by rw [v2_odd h]; simp, h⟩
    · obtain ⟨u, h1, h2⟩ := ih (n / 2) (by omega) (by omega)
      refine ⟨u, ?_, h2⟩
      rw [v2_even h0 (by omega), Nat.pow_succ, Nat.mul_assoc, Nat.mul_comm 2 u, ← Nat.mul_assoc, ← h1]; omega
theorem v2_mul {k u : Nat} (h : u % 2 = 1) : v2 (2 ^ k * u) = k := by
  induction k with
  | zero => rw [Nat.pow_zero, Nat.one_mul, v2_odd h]
  | succ k ih =>
    have hp : 0 < 2 ^ k * u := Nat.mul_pos (Nat.pow_pos (by omega)) (by omega)
    have e : 2 ^ (k + 1) * u = 2 * (2 ^ k * u) := by rw [Nat.pow_succ']; ac_rfl
    rw [e, v2_even (by omega) (by omega), Nat.mul_div_cancel_left _ (by omega), ih]
theorem v2_word {X j M : Nat} (hX : X = 18446744073709551616 ^ j * M) (hM : M % 18446744073709551616 ≠ 0) : v2 X = 64 * j + v2 (M % 18446744073709551616) ∧ v2 (M % 18446744073709551616) < 64 := by
  obtain ⟨u, h1, h2⟩ := v2_spec _ hM
  generalize v2 (M % 18446744073709551616) = t at *
  have ht : t < 64 := by
    have h3 : M % 18446744073709551616 < 2 ^ 64 := Nat.mod_lt _ (by omega)
    have h4 : 2 ^ t * 1 ≤ 2 ^ t * u := Nat.mul_le_mul_left _ (by omega)
    have h5 : 2 ^ t < 2 ^ 64 := by omega
    exact (Nat.pow_lt_pow_iff_right (by omega)).1 h5
  refine ⟨?_, ht⟩
  have e := Nat.div_add_mod M 18446744073709551616
  have e2 : 18446744073709551616 = 2 ^ t * (2 * 2 ^ (63 - t)) := by
    rw [← Nat.pow_succ', ← Nat.pow_add, show t + (63 - t).succ = 64 by omega]
  have e3 : M = 2 ^ t * (2 * (2 ^ (63 - t) * (M / 18446744073709551616)) + u) := by
    rw [Nat.mul_add, ← h1]
    conv => lhs; rw [← e]
    congr 1
    conv => lhs; lhs; rw [e2]
    ac_rfl
  rw [hX, e3, show (18446744073709551616 : Nat) ^ j = 2 ^ (64 * j) by rw [Nat.pow_mul], ← Nat.mul_assoc, ← Nat.pow_add]
  exact v2_mul (by omega)
theorem v2_nq {X : Nat} (h : X ≠ 0) : v2 X / 64 < nq X := by
  obtain ⟨u, h1, h2⟩ := v2_spec _ h
  have h3 := lt_nq X
  have h4 : 2 ^ v2 X * 1 ≤ 2 ^ v2 X * u := Nat.mul_le_mul_left _ (by omega)
  rw [show (18446744073709551616 : Nat) ^ nq X = 2 ^ (64 * nq X) by rw [Nat.pow_mul]] at h3
  have h5 : 2 ^ v2 X < 2 ^ (64 * nq X) := by omega
  have := (Nat.pow_lt_pow_iff_right (by omega)).1 h5
  omega

/-- The odd part. -/
def oddp (n : Nat) : Nat := n / 2 ^ v2 n
theorem oddp_spec {n : Nat} (h : n ≠ 0) : n = 2 ^ v2 n * oddp n ∧ oddp n % 2 = 1 := by
  obtain ⟨u, h1, h2⟩ := v2_spec n h
  have : oddp n = u := by
    unfold oddp
    conv => lhs; lhs; rw [h1]
    exact Nat.mul_div_cancel_left _ (Nat.pow_pos (by omega))
  rw [this]; exact ⟨h1, h2⟩
theorem oddp_le (n : Nat) : oddp n ≤ n := Nat.div_le_self _ _
theorem gcd_pow2_odd {u : Nat} (h : u % 2 = 1) : ∀ k x, Nat.gcd (2 ^ k * x) u = Nat.gcd x u := fun k x =>
  Nat.Coprime.gcd_mul_left_cancel _ (Nat.Coprime.pow_left _ (show Nat.gcd 2 u = 1 by rw [Nat.gcd_rec, h, Nat.gcd_one_left]))
theorem gcd_oddp {x u : Nat} (hx : x ≠ 0) (h : u % 2 = 1) : Nat.gcd (oddp x) u = Nat.gcd x u := by
  conv => rhs; rw [(oddp_spec hx).1]
  rw [gcd_pow2_odd h]
theorem gcd_halves {x y : Nat} (hx : x ≠ 0) (hy : y ≠ 0) : Nat.gcd x y = Nat.gcd (oddp x) (oddp y) * 2 ^ min (v2 x) (v2 y) := by
  obtain ⟨a1, a2⟩ := oddp_spec hx
  obtain ⟨b1, b2⟩ := oddp_spec hy
  conv => lhs; rw [a1, b1]
  generalize v2 x = n at *
  generalize v2 y = m at *
  by_cases h : n ≤ m
  · rw [Nat.min_eq_left h, show m = n + (m - n) by omega, Nat.pow_add, Nat.mul_assoc, Nat.gcd_mul_left, Nat.gcd_comm (oddp x), gcd_pow2_odd a2, Nat.gcd_comm, Nat.mul_comm]
  · rw [Nat.min_eq_right (by omega), show n = m + (n - m) by omega, Nat.pow_add, Nat.mul_assoc, Nat.gcd_mul_left, gcd_pow2_odd b2, Nat.mul_comm]
theorem gcd_minus {x y : Nat} (h : y ≤ x) : Nat.gcd (x - y) y = Nat.gcd x y := Nat.gcd_sub_self_left h
end Go.Proofs.YtjkimjmocfjjnaaDoor.Ab

/- Zeros at the end of a word; digits of 64 bits in the heap. -/
namespace Go.Proofs.YtjkimjmocfjjnaaDoor.Ab
open Go.RowKit
set_option linter.unusedVariables false
set_option linter.unusedSimpArgs false
set_option maxRecDepth 100000

/-- The table of the model's numbers for the places of one bit. -/
def tab : List Nat := [0, 1, 56, 2, 57, 49, 28, 3, 61, 58, 42, 50, 38, 29, 17, 4, 62, 47, 59, 36, 45, 43, 51, 22, 53, 39, 33, 30, 24, 18, 12, 5, 63, 55, 48, 27, 60, 41, 37, 16, 46, 35, 44, 21, 52, 32, 23, 11, 54, 26, 40, 15, 34, 20, 31, 10, 25, 14, 19, 9, 13, 8, 7, 6]
theorem tab_get : ∀ t, t < 64 → tab[2 ^ t * 285870213051353865 % 18446744073709551616 / 2 ^ 58]? = some t := by decide +kernel
def tabV : List Value := tab.map fun n => .int .u8 (n : Nat)

theorem low_bit {x t u : Nat} (hx : x = 2 ^ t * u) (hu : u % 2 = 1) (h : x < 2 ^ 64) : x &&& (2 ^ 64 - x) = 2 ^ t := by
  have h4 : 2 ^ t * 1 ≤ 2 ^ t * u := Nat.mul_le_mul_left _ (by omega)
  have ht : t < 64 := (Nat.pow_lt_pow_iff_right (a := 2) (by omega)).1 (by omega)
  have e : 2 ^ 64 = 2 ^ t * (2 * 2 ^ (63 - t)) := by rw [← Nat.pow_succ', ← Nat.pow_add]; congr 1; omega
  have hul : u < 2 * 2 ^ (63 - t) := by
    rw [hx, e] at h; exact Nat.lt_of_mul_lt_mul_left h
  obtain ⟨w, rfl⟩ : ∃ w, u = 2 * w + 1 := ⟨u / 2, by omega⟩
  have hw : w < 2 ^ (63 - t) := by omega
  have e2 : 2 ^ 64 - x = 2 ^ t * (2 * (2 ^ (63 - t) - (w + 1)) + 1) := by
    rw [hx, e, ← Nat.mul_sub]; congr 1; omega
  rw [e2, hx]
  apply Nat.eq_of_testBit_eq
  intro i
  rw [Nat.testBit_and, Nat.mul_comm (2 ^ t), Nat.mul_comm (2 ^ t), Nat.testBit_mul_two_pow, Nat.testBit_mul_two_pow, Nat.testBit_two_pow]
  by_cases hi : t ≤ i
  · rw [show decide (t ≤ i) = true from decide_eq_true hi, Bool.true_and, Bool.true_and]
    by_cases h0 : i = t
    · subst h0
      rw [Nat.sub_self]
      simp
    · obtain ⟨k, hk⟩ : ∃ k, i - t = k + 1 := ⟨i - t - 1, by omega⟩
      rw [hk, Nat.testBit_succ, Nat.testBit_succ, show (2 * w + 1) / 2 = w by omega, show (2 * (2 ^ (63 - t) - (w + 1)) + 1) / 2 = 2 ^ (63 - t) - (w + 1) by omega, Nat.testBit_two_pow_sub_succ hw, decide_eq_false (Ne.symm h0)]
      cases w.testBit k <;> simp
  · rw [decide_eq_false hi, decide_eq_false (show t ≠ i by omega)]; simp

section
variable {G : Gl} {fl : Nat} {A : Hp}

theorem trailing_ok {x : Nat} (hG : G 1 = some tabV) (h0 : x ≠ 0) (h : x < 18446744073709551616) : Sound Tryd.prog G 125 [.int .u64 (x : Nat)] fl A (.int .i64 (v2 x : Nat)) A := by
  refine Sound.of mixed Tryd.func125 Tryd.ntmps125 Tryd.results125 (by kernel_rfl) rfl (by kernel_rfl) (by kernel_rfl) fun hA => ?_
  obtain ⟨u, hx, hu⟩ := v2_spec x h0
  have hb := low_bit hx hu h
  have hz : (((x : Nat) : Int) = 0) = False := eq_false (by omega)
  have h4 : 2 ^ v2 x * 1 ≤ 2 ^ v2 x * u := Nat.mul_le_mul_left _ (by omega)
  have ht : v2 x < 64 := (Nat.pow_lt_pow_iff_right (a := 2) (by omega)).1 (by omega)
  have e1 : (BitVec.ofInt IntKind.u64.bits (x : Int) &&& BitVec.ofInt IntKind.u64.bits (IntKind.u64.wrap (0 - (x : Int)))).toNat % 18446744073709551616 = 2 ^ v2 x := by
    rw [show (0 : Int) - (x : Int) = ((0 : Nat) : Int) - (x : Int) from rfl, u64_sub (by omega), bits_u64, BitVec.toNat_and, BitVec.ofInt_natCast, BitVec.ofInt_natCast, BitVec.toNat_ofNat, BitVec.toNat_ofNat, Nat.mod_eq_of_lt (show x < 2 ^ 64 by omega), show (0 + 18446744073709551616 - x) % 18446744073709551616 % 2 ^ 64 = 2 ^ 64 - x by omega, hb]
    exact Nat.mod_eq_of_lt (Nat.pow_lt_pow_right (by omega) ht)
  have e2 : ((2 ^ v2 x : Nat) : Int) * 285870213051353865 = ((2 ^ v2 x * 285870213051353865 : Nat) : Int) := by simp
  have e3 : min 58 64 = 58 := rfl
  generalize v2 x = t at *
  have hg := tab_get t ht
  have hlt : 2 ^ t * 285870213051353865 % 18446744073709551616 / 2 ^ 58 < 64 := by omega
  generalize hi : 2 ^ t * 285870213051353865 % 18446744073709551616 / 2 ^ 58 = i at *
  have hgv : tabV[i]? = some (.int .u8 (t : Nat)) := by simp [tabV, hg]
  have w1 : IntKind.i64.wrap (t : Int) = (t : Int) := wrapI (by omega)
  simp only [↓R1, R2, R3, R4, TY, reduceIte, Nat.reduceEqDiff, Nat.reduceAdd, Nat.reduceMul, Nat.reduceLT, Nat.reduceLeDiff, reduceCtorEq, decide_true, decide_false, Int.reduceLE, Int.reduceLT, Int.reduceToNat, Int.reduceAdd, Int.reduceSub, Int.reduceMul, Int.reduceEq, hz, UN, e1, e2, e3, hi, hlt, hG, hgv, w1]
  exact Ended.back hA (Xt.refl _) rfl (RB.int _ _)

/-- A row of digits of 64 bits. -/
def qc (l : List Nat) : List Value := l.map fun w => .int .u64 (w : Nat)
theorem qc_length (l : List Nat) : (qc l).length = l.length := by simp [qc]
theorem qc_getq {l : List Nat} {j w : Nat} (h : l[j]? = some w) : (qc l)[j]? = some (.int .u64 (w : Nat)) := by simp [qc, h]
theorem qc_set {l : List Nat} {j : Nat} {w : Nat} : (qc l).set j (.int .u64 (w : Nat)) = qc (l.set j w) := by simp [qc, List.map_set]
theorem qc_zeros (k : Nat) : List.replicate k (Value.int .u64 0) = qc (List.replicate k 0) := by simp [qc]
theorem qc_rb (n : Nat) (l : List Nat) : ∀ u ∈ qc l, RB n u := by
  intro u hu
  simp only [qc, List.mem_map] at hu
  obtain ⟨w, _, rfl⟩ := hu
  exact RB.int _ _
theorem rb_slice {m id o g n c : Nat} (h : id < m) (hn : n ≤ c) : RB m (.slice (some ⟨id, o, some g⟩) n c) := ⟨.slice (some ⟨id, o, none⟩) n c, .sl h (Nat.le_refl _) hn ⟨g, rfl, fun cs g e h => by cases h⟩⟩
/-- A digit in the middle of a row. -/
theorem mid_get {lo hi : List Nat} {X n j : Nat} (h : j < n) : (qc (lo ++ (ql X n ++ hi)))[lo.length + j]? = some (.int .u64 ((X / 18446744073709551616 ^ j % 18446744073709551616 : Nat) : Int)) := by
  refine qc_getq ?_
  rw [List.getElem?_append_right (by omega), Nat.add_sub_cancel_left, List.getElem?_append_left (by rw [ql_length]; exact h), ql_get h]

theorem cut_ok {id n c X : Nat} {lo hi : List Nat} (hn : nq X ≤ n) (hnc : n ≤ c) (hlen : lo.length + n ≤ 100000000000) (hb : A.blk id = some (.row (qc (lo ++ (ql X n ++ hi))) 0 1)) (hid : id < A.next) :
    Sound Tryd.prog G 126 [.slice (some ⟨id, lo.length, some 0⟩) n c] fl A (.slice (some ⟨id, lo.length, some 0⟩) (nq X) c) A := by
  refine Sound.of mixed Tryd.func126 Tryd.ntmps126 Tryd.results126 (by kernel_rfl) rfl (by kernel_rfl) (by kernel_rfl) fun hA => ?_
  have he : eszOK A id 1 := by simp [eszOK, hb]
  have hrb : RB A.next (.slice (some ⟨id, lo.length, some 0⟩) (nq X) c) := rb_slice hid (by omega)
  simp only [↓R1, R2, R3, R4, TY, reduceIte, Nat.reduceEqDiff, Nat.reduceAdd, Nat.reduceMul, Nat.reduceLT, Nat.reduceLeDiff, reduceCtorEq, decide_true, decide_false, Int.reduceLE, Int.reduceLT, Int.reduceToNat, Int.reduceAdd, Int.reduceSub, Int.reduceMul, Int.reduceEq]
  refine loop_of (fun τ B => B = A ∧ ∃ m, nq X ≤ m ∧ m ≤ n ∧ τ 0 = some (.slice (some ⟨id, lo.length, some 0⟩) m c)) (fun τ _ => match τ 0 with | some (.slice _ m _) => m | _ => 0) ?_ ?_
  · exact ⟨rfl, n, hn, Nat.le_refl _, rfl⟩
  rintro τ B ⟨rfl, m, hm1, hm2, q0⟩
  have hm0 : ((0 : Int) < (m : Int)) = (0 < m) := propext (by omega)
  have fin : ∀ v, v = (.slice (some ⟨id, lo.length, some 0⟩) (nq X) c) → Ended B v B (.slice (some ⟨id, lo.length, some 0⟩) (nq X) c) B := fun v hv => Ended.back hA (Xt.refl _) hv hrb
  by_cases hp : 0 < m
  · have w1 : IntKind.i64.wrap ((m : Int) - 1) = ((m - 1 : Nat) : Int) := by rw [wrapI (by omega)]; omega
    have hg : B.get G ⟨id, lo.length + (m - 1), some 0⟩ = some (.int .u64 ((X / 18446744073709551616 ^ (m - 1) % 18446744073709551616 : Nat) : Int)) := by
      simp only [Hp.get, hb, if_true]; exact mid_get (by omega)
    have l1 : m - 1 < m := by omega
    have l2 : m - 1 ≤ c := by omega
    by_cases hmm : nq X = m
    · have hz : (((X / 18446744073709551616 ^ (m - 1) % 18446744073709551616 : Nat) : Int) = 0) = False := by
        refine eq_false ?_
        have hX : X ≠ 0 := fun h => by rw [h, nq_zero] at hmm; omega
        have h1 := nq_ge hX
        have h2 := lt_nq X
        rw [hmm] at h1 h2
        have e : (18446744073709551616 : Nat) ^ m = 18446744073709551616 ^ (m - 1) * 18446744073709551616 := by rw [← Nat.pow_succ]; congr 1; omega
        have h3 : X / 18446744073709551616 ^ (m - 1) < 18446744073709551616 := by rw [Nat.div_lt_iff_lt_mul (Nat.pow_pos (by omega)), Nat.mul_comm, ← e]; exact h2
        have h4 : 1 ≤ X / 18446744073709551616 ^ (m - 1) := by rw [Nat.le_div_iff_mul_le (Nat.pow_pos (by omega)), Nat.one_mul]; exact h1
        rw [Nat.mod_eq_of_lt h3]; omega
      simp only [↓R1, R2, R3, R4, TY, reduceIte, Nat.reduceEqDiff, Nat.reduceAdd, Nat.reduceMul, Nat.reduceLT, Nat.reduceLeDiff, reduceCtorEq, decide_true, decide_false, Int.reduceLE, Int.reduceLT, Int.reduceToNat, Int.reduceAdd, Int.reduceSub, Int.reduceMul, Int.reduceEq, q0, hm0, hp, w1, hg, l1, l2, hz, he]
      exact fin _ (by rw [hmm])
    · have hz : (((X / 18446744073709551616 ^ (m - 1) % 18446744073709551616 : Nat) : Int) = 0) = True := by
        refine eq_true ?_
        rw [Nat.div_eq_of_lt (nq_le.1 (by omega))]; rfl
      simp only [↓R1, R2, R3, R4, TY, reduceIte, Nat.reduceEqDiff, Nat.reduceAdd, Nat.reduceMul, Nat.reduceLT, Nat.reduceLeDiff, reduceCtorEq, decide_true, decide_false, Int.reduceLE, Int.reduceLT, Int.reduceToNat, Int.reduceAdd, Int.reduceSub, Int.reduceMul, Int.reduceEq, q0, hm0, hp, w1, hg, l1, l2, hz, he]
      refine loop_on ⟨rfl, m - 1, by omega, by omega, rfl⟩ ?_
      simp only [q0, upd, reduceIte, Nat.reduceEqDiff]
      omega
  · obtain rfl : m = 0 := by omega
    have hp' : (0 < 0) = False := by simp
    simp only [↓R1, R2, R3, R4, TY, reduceIte, Nat.reduceEqDiff, Nat.reduceAdd, Nat.reduceMul, Nat.reduceLT, Nat.reduceLeDiff, reduceCtorEq, decide_true, decide_false, Int.reduceLE, Int.reduceLT, Int.reduceToNat, Int.reduceAdd, Int.reduceSub, Int.reduceMul, Int.reduceEq, q0, hm0, hp', Int.lt_irrefl]
    exact fin _ (by rw [show nq X = 0 by omega])

theorem evens_ok {id n c X : Nat} {lo hi : List Nat} (hG : G 1 = some tabV) (h0 : X ≠ 0) (hn : nq X ≤ n) (hlen : lo.length + n ≤ 100000000000) (hb : A.blk id = some (.row (qc (lo ++ (ql X n ++ hi))) 0 1)) :
    Sound Tryd.prog G 117 [.slice (some ⟨id, lo.length, some 0⟩) n c] fl A (.int .i64 (v2 X : Nat)) A := by
  refine Sound.of mixed Tryd.func117 Tryd.ntmps117 Tryd.results117 (by kernel_rfl) rfl (by kernel_rfl) (by kernel_rfl) fun hA => ?_
  simp only [↓R1, R2, R3, R4, TY, reduceIte, Nat.reduceEqDiff, Nat.reduceAdd, Nat.reduceMul, Nat.reduceLT, Nat.reduceLeDiff, reduceCtorEq, decide_true, decide_false, Int.reduceLE, Int.reduceLT, Int.reduceToNat, Int.reduceAdd, Int.reduceSub, Int.reduceMul, Int.reduceEq]
  refine loop_of (fun τ B => B = A ∧ ∃ m, X % 18446744073709551616 ^ m = 0 ∧ τ 0 = some (.slice (some ⟨id, lo.length, some 0⟩) n c) ∧ τ 3 = some (.int .i64 (m : Nat))) (fun τ _ => match τ 3 with | some (.int _ m) => (n - m).toNat | _ => 0) ?_ ?_
  · exact ⟨rfl, 0, by simp [Nat.mod_one], rfl, rfl⟩
  rintro τ B ⟨rfl, m, hm, q0, q3⟩
  have hml : m < n := by
    have h1 := Nat.le_of_dvd (by omega) (Nat.dvd_of_mod_eq_zero hm)
    have h2 := lt_nq X
    have h3 := (Nat.pow_lt_pow_iff_right (a := 18446744073709551616) (by omega)).1 (Nat.lt_of_le_of_lt h1 h2)
    omega
  have hg : B.get G ⟨id, lo.length + m, some 0⟩ = some (.int .u64 ((X / 18446744073709551616 ^ m % 18446744073709551616 : Nat) : Int)) := by
    simp only [Hp.get, hb, if_true]; exact mid_get (by omega)
  have hX : X = 18446744073709551616 ^ m * (X / 18446744073709551616 ^ m) := by
    have := Nat.div_add_mod X (18446744073709551616 ^ m); omega
  by_cases hz : X / 18446744073709551616 ^ m % 18446744073709551616 = 0
  · have hz' : (((X / 18446744073709551616 ^ m % 18446744073709551616 : Nat) : Int) = 0) = True := eq_true (by omega)
    have w1 : IntKind.i64.wrap ((m : Int) + 1) = ((m + 1 : Nat) : Int) := by rw [wrapI (by omega)]; omega
    simp only [↓R1, R2, R3, R4, TY, reduceIte, Nat.reduceEqDiff, Nat.reduceAdd, Nat.reduceMul, Nat.reduceLT, Nat.reduceLeDiff, reduceCtorEq, decide_true, decide_false, Int.reduceLE, Int.reduceLT, Int.reduceToNat, Int.reduceAdd, Int.reduceSub, Int.reduceMul, Int.reduceEq, q0, q3, hml, hg, hz', w1]
    refine loop_on ⟨rfl, m + 1, ?_, q0, rfl⟩ ?_
    · have h3 := Nat.div_add_mod (X / 18446744073709551616 ^ m) 18446744073709551616
      rw [hz, Nat.add_zero] at h3
      rw [hX, ← h3, ← Nat.mul_assoc, ← Nat.pow_succ]
      exact Nat.mul_mod_right _ _
    · simp only [q3, upd, reduceIte, Nat.reduceEqDiff]
      omega
  · have hz' : (((X / 18446744073709551616 ^ m % 18446744073709551616 : Nat) : Int) = 0) = False := eq_false (by omega)
    have w1 : IntKind.i64.wrap (64 * (m : Int)) = ((64 * m : Nat) : Int) := by rw [wrapI (by omega)]; omega
    obtain ⟨e1, e2⟩ := v2_word hX hz
    simp only [↓R1, R2, R3, R4, TY, reduceIte, Nat.reduceEqDiff, Nat.reduceAdd, Nat.reduceMul, Nat.reduceLT, Nat.reduceLeDiff, reduceCtorEq, decide_true, decide_false, Int.reduceLE, Int.reduceLT, Int.reduceToNat, Int.reduceAdd, Int.reduceSub, Int.reduceMul, Int.reduceEq, q0, q3, hml, hg, hz', w1]
    refine call_of (trailing_ok hG hz (Nat.mod_lt _ (by omega))) ?_
    have w2 : IntKind.i64.wrap (((64 * m : Nat) : Int) + ((v2 (X / 18446744073709551616 ^ m % 18446744073709551616) : Nat) : Int)) = ((v2 X : Nat) : Int) := by rw [wrapI (by omega)]; omega
    simp only [↓R1, R2, R3, R4, TY, reduceIte, Nat.reduceEqDiff, Nat.reduceAdd, Nat.reduceMul, Nat.reduceLT, Nat.reduceLeDiff, reduceCtorEq, decide_true, decide_false, Int.reduceLE, Int.reduceLT, Int.reduceToNat, Int.reduceAdd, Int.reduceSub, Int.reduceMul, Int.reduceEq, q0, q3, w1, w2]
    exact Ended.back hA (Xt.refl _) rfl (RB.int _ _)
end
end Go.Proofs.YtjkimjmocfjjnaaDoor.Ab

/- Digits of 64 bits shifted right in place. -/
namespace Go.Proofs.YtjkimjmocfjjnaaDoor.Ab
open Go.RowKit
set_option linter.unusedVariables false
set_option linter.unusedSimpArgs false
set_option maxRecDepth 100000

theorem shr_word64 {x Y s : Nat} (hx : x < 18446744073709551616) (hs : s ≤ 64) : (x + 18446744073709551616 * Y) / 2 ^ s % 18446744073709551616 = (x / 2 ^ s ||| Y % 18446744073709551616 * 2 ^ (64 - s) % 18446744073709551616) ∧ x / 2 ^ s % 18446744073709551616 = x / 2 ^ s := by
  have hc : 2 ^ s * 2 ^ (64 - s) = 18446744073709551616 := by rw [← Nat.pow_add, show s + (64 - s) = 64 by omega]
  have hs0 : 0 < 2 ^ s := Nat.pow_pos (by omega)
  have hq : x / 2 ^ s < 2 ^ (64 - s) := by rw [Nat.div_lt_iff_lt_mul hs0, Nat.mul_comm, hc]; exact hx
  have h1 : (x + 18446744073709551616 * Y) / 2 ^ s = x / 2 ^ s + 2 ^ (64 - s) * Y := by rw [← hc, Nat.mul_assoc, Nat.add_mul_div_left _ _ hs0]
  have h2 : Y % 18446744073709551616 * 2 ^ (64 - s) % 18446744073709551616 = Y % 2 ^ s * 2 ^ (64 - s) := by
    have := Nat.mul_mod_mul_right (2 ^ (64 - s)) (Y % 18446744073709551616) (2 ^ s)
    rw [hc] at this
    rw [this, Nat.mod_mod_of_dvd _ (⟨2 ^ (64 - s), hc.symm⟩)]
  have hle : 2 ^ (64 - s) ≤ 18446744073709551616 := by rw [← hc]; exact Nat.le_mul_of_pos_left _ hs0
  refine ⟨?_, Nat.mod_eq_of_lt (by omega)⟩
  rw [h1, h2, or_add' hq]
  have e := Nat.div_add_mod Y (2 ^ s)
  have h3 : 2 ^ (64 - s) * Y = 18446744073709551616 * (Y / 2 ^ s) + Y % 2 ^ s * 2 ^ (64 - s) := by
    conv => lhs; rw [← e]
    rw [Nat.mul_add, ← Nat.mul_assoc, Nat.mul_comm (2 ^ (64 - s)) (2 ^ s), hc, Nat.mul_comm (Y % 2 ^ s)]
  have h4 : Y % 2 ^ s + 1 ≤ 2 ^ s := Nat.mod_lt _ hs0
  have h5 := Nat.mul_le_mul_right (2 ^ (64 - s)) h4
  rw [hc, Nat.add_mul, Nat.one_mul] at h5
  rw [h3, show x / 2 ^ s + (18446744073709551616 * (Y / 2 ^ s) + Y % 2 ^ s * 2 ^ (64 - s)) = x / 2 ^ s + Y % 2 ^ s * 2 ^ (64 - s) + 18446744073709551616 * (Y / 2 ^ s) by omega, Nat.add_mul_mod_self_left, Nat.mod_eq_of_lt (by omega)]

section
variable {G : Gl} {fl : Nat} {A : Hp}

set_option maxHeartbeats 2000000 in
theorem right_ok {id n c X y : Nat} {lo hi : List Nat} (hn : nq X ≤ n) (hy : y / 64 ≤ n) (hnc : n ≤ c) (hlen : lo.length + n ≤ 100000000000) (hb : A.blk id = some (.row (qc (lo ++ (ql X n ++ hi))) 0 1)) (hid : id < A.next) (hfl0 : fl ≤ id) :
    Sound Tryd.prog G 118 [.slice (some ⟨id, lo.length, some 0⟩) n c, .int .i64 (y : Nat)] fl A (.slice (some ⟨id, lo.length + y / 64, some 0⟩) (nq (X / 2 ^ y)) (c - y / 64))
      (A.put id (.row (qc (lo ++ ql X (y / 64) ++ (ql (X / 2 ^ y) (n - y / 64) ++ hi))) 0 1)) := by
  refine Sound.of mixed Tryd.func118 Tryd.ntmps118 Tryd.results118 (by kernel_rfl) rfl (by kernel_rfl) (by kernel_rfl) fun hA => ?_
  have hfl := hA.floor
  have he : eszOK A id 1 := by simp [eszOK, hb]
  have hY : X / 2 ^ y = X / 18446744073709551616 ^ (y / 64) / 2 ^ (y % 64) := by
    rw [Nat.div_div_eq_div_mul, show (18446744073709551616 : Nat) ^ (y / 64) = 2 ^ (64 * (y / 64)) by rw [Nat.pow_mul], ← Nat.pow_add]
    congr 2; omega
  have hsp : lo ++ (ql X n ++ hi) = (lo ++ ql X (y / 64)) ++ (ql (X / 18446744073709551616 ^ (y / 64)) (n - y / 64) ++ hi) := by
    have := ql_add X (y / 64) (n - y / 64)
    rw [show y / 64 + (n - y / 64) = n by omega] at this
    rw [this]; simp only [List.append_assoc]
  have hnY : nq (X / 18446744073709551616 ^ (y / 64)) ≤ n - y / 64 := by
    rw [nq_le, Nat.div_lt_iff_lt_mul (Nat.pow_pos (by omega)), ← Nat.pow_add, show n - y / 64 + y / 64 = n by omega]
    exact nq_le.1 hn
  have hl2 : (lo ++ ql X (y / 64)).length = lo.length + y / 64 := by rw [List.length_append, ql_length]
  have d1 : ((y : Nat) : Int).tdiv 64 = ((y / 64 : Nat) : Int) := by rw [show (64 : Int) = ((64 : Nat) : Int) from rfl, div_n]
  have d2 : ((y : Nat) : Int).tmod 64 = ((y % 64 : Nat) : Int) := by rw [show (64 : Int) = ((64 : Nat) : Int) from rfl, mod_n]
  have w1 : IntKind.i64.wrap ((y / 64 : Nat) : Int) = ((y / 64 : Nat) : Int) := wrapI (by omega)
  have w2 : IntKind.i64.wrap ((y % 64 : Nat) : Int) = ((y % 64 : Nat) : Int) := wrapI (by omega)
  have c1 : y / 64 ≤ c := by omega
  simp only [↓R1, R2, R3, R4, TY, reduceIte, Nat.reduceEqDiff, Nat.reduceAdd, Nat.reduceMul, Nat.reduceLT, Nat.reduceLeDiff, reduceCtorEq, decide_true, decide_false, Int.reduceLE, Int.reduceLT, Int.reduceToNat, Int.reduceAdd, Int.reduceSub, Int.reduceMul, Int.reduceEq, d1, d2, w1, w2, hy, c1, hnc, he]
  rw [hY]
  rw [hsp] at hb
  have hs64 : y % 64 < 64 := Nat.mod_lt _ (by omega)
  have hNc : n - y / 64 ≤ c - y / 64 := by omega
  have hlen2 : lo.length + y / 64 + (n - y / 64) ≤ 100000000000 := by omega
  have hrb : RB A.next (.slice (some ⟨id, lo.length + y / 64, some 0⟩) (nq (X / 18446744073709551616 ^ (y / 64) / 2 ^ (y % 64))) (c - y / 64)) := rb_slice hid (by
    have := nq_mono (Nat.div_le_self (X / 18446744073709551616 ^ (y / 64)) (2 ^ (y % 64)))
    omega)
  clear hsp hY d1 d2 hn hy hnc hlen c1
  have w3 : IntKind.i64.wrap ((64 : Int) - ((y % 64 : Nat) : Int)) = ((64 - y % 64 : Nat) : Int) := by rw [wrapI (by omega)]; omega
  generalize X / 18446744073709551616 ^ (y / 64) = Y at *
  generalize lo ++ ql X (y / 64) = l2 at *
  generalize n - y / 64 = N at *
  generalize c - y / 64 = c2 at *
  generalize lo.length + y / 64 = o at *
  generalize y % 64 = s at *
  subst hl2
  have hnZ : nq (Y / 2 ^ s) ≤ N := Nat.le_trans (nq_mono (Nat.div_le_self _ _)) hnY
  have hs0 : ((0 : Int) < (s : Int)) = (0 < s) := propext (by omega)
  refine ⟨fun hs => ?_, fun hs => ?_⟩
  · have hss : s < 64 := hs64
    have hms : min s 64 = s := by omega
    have hms2 : min (64 - s) 64 = 64 - s := by omega
    refine range_of 16 N (fun j τ C => (∀ i, i ≠ id → C.blk i = A.blk i) ∧ C.next = A.next ∧ C.blk id = some (.row (qc (l2 ++ (ql (Y / 2 ^ s) j ++ (ql Y N).drop j ++ hi))) 0 1) ∧
      τ 0 = some (.slice (some ⟨id, l2.length, some 0⟩) N c2) ∧ τ 1 = some (.int .i64 s) ∧ τ 15 = some (.int .i64 N) ∧ τ 16 = some (.int .i64 j)) ?_ ?_
    · exact ⟨fun _ _ => rfl, rfl, by simpa [ql] using hb, rfl, rfl, rfl, rfl⟩
    rintro j τ C hj ⟨hc, hCn, hc0, p0, p1, p15, p16⟩
    simp only [↓R1, R2, R3, R4, TY, reduceIte, Nat.reduceEqDiff, Nat.reduceAdd, Nat.reduceMul, Nat.reduceLT, Nat.reduceLeDiff, reduceCtorEq, decide_true, decide_false, Int.reduceLE, Int.reduceLT, Int.reduceToNat, Int.reduceAdd, Int.reduceSub, Int.reduceMul, Int.reduceEq, p0, p1, p15, p16]
    refine ⟨fun hlt => ?_, fun hlt => ?_⟩
    · have hjl : j < (ql Y N).length := by rw [ql_length]; omega
      have hdr : (ql Y N).drop j = (Y / 18446744073709551616 ^ j % 18446744073709551616) :: (ql Y N).drop (j + 1) := by
        rw [List.drop_eq_getElem_cons hjl]
        congr 1
        have := ql_get (n := Y) (k := N) (j := j) (by omega)
        rw [List.getElem?_eq_getElem hjl, Option.some.injEq] at this
        exact this
      have hdv : Y / 18446744073709551616 ^ j = Y / 18446744073709551616 ^ j % 18446744073709551616 + 18446744073709551616 * (Y / 18446744073709551616 ^ (j + 1)) := by
        rw [Nat.pow_succ, ← Nat.div_div_eq_div_mul]; omega
      have hx32 : Y / 18446744073709551616 ^ j % 18446744073709551616 < 18446744073709551616 := Nat.mod_lt _ (by omega)
      have hword : ql (Y / 2 ^ s) (j + 1) = ql (Y / 2 ^ s) j ++ [(Y / 18446744073709551616 ^ j % 18446744073709551616 + 18446744073709551616 * (Y / 18446744073709551616 ^ (j + 1))) / 2 ^ s % 18446744073709551616] := by
        rw [ql_succ, ← hdv, Nat.div_div_eq_div_mul, Nat.div_div_eq_div_mul, Nat.mul_comm]
      obtain ⟨sw1, sw2⟩ := shr_word64 (s := s) (Y := Y / 18446744073709551616 ^ (j + 1)) hx32 (by omega)
      rw [sw1] at hword
      have hl0 : (ql (Y / 2 ^ s) j).length = j := ql_length _ _
      rw [hdr, List.append_assoc, List.cons_append] at hc0
      have hget : ∀ a : Nat, (l2 ++ (ql (Y / 2 ^ s) j ++ a :: ((ql Y N).drop (j + 1) ++ hi)))[l2.length + j]? = some a := fun a => by
        rw [List.getElem?_append_right (by omega), Nat.add_sub_cancel_left, List.getElem?_append_right (by omega), hl0, Nat.sub_self]; rfl
      have hg1 : C.get G ⟨id, l2.length + j, some 0⟩ = some (.int .u64 ((Y / 18446744073709551616 ^ j % 18446744073709551616 : Nat) : Int)) := by
        simp only [Hp.get, hc0, if_true]
        exact qc_getq (hget _)
      have hset : ∀ a b : Nat, (qc (l2 ++ (ql (Y / 2 ^ s) j ++ a :: ((ql Y N).drop (j + 1) ++ hi)))).set (l2.length + j) (.int .u64 (b : Nat)) = qc (l2 ++ (ql (Y / 2 ^ s) j ++ b :: ((ql Y N).drop (j + 1) ++ hi))) := fun a b => by
        rw [qc_set, List.set_append_right _ _ (by omega), Nat.add_sub_cancel_left, List.set_append_right _ _ (by omega), hl0, Nat.sub_self]; rfl
      have hj63 : j < 9223372036854775807 := by omega
      have hlx : ∀ a : Nat, l2.length + j + 1 ≤ (qc (l2 ++ (ql (Y / 2 ^ s) j ++ a :: ((ql Y N).drop (j + 1) ++ hi)))).length := fun a => by
        rw [qc_length, List.length_append, List.length_append, List.length_cons, hl0]; omega
      have w14 : IntKind.i64.wrap ((j : Int) + 1) = ((j + 1 : Nat) : Int) := by rw [wrapI (by omega)]; omega
      have l0 : j < N := hlt
      generalize hXX : Y / 18446744073709551616 ^ j % 18446744073709551616 = x at *
      by_cases hjn : j + 1 < N
      · have hq2 : ∀ a : Nat, (l2 ++ (ql (Y / 2 ^ s) j ++ a :: ((ql Y N).drop (j + 1) ++ hi)))[l2.length + (j + 1)]? = some (Y / 18446744073709551616 ^ (j + 1) % 18446744073709551616) := fun a => by
          rw [List.getElem?_append_right (by omega), Nat.add_sub_cancel_left, List.getElem?_append_right (by omega), hl0, show j + 1 - j = 0 + 1 by omega, List.getElem?_cons_succ, List.getElem?_append_left (by rw [List.length_drop, ql_length]; omega), List.getElem?_drop, Nat.add_zero, ql_get hjn]
        have hg2 : C.get G ⟨id, l2.length + (j + 1), some 0⟩ = some (.int .u64 ((Y / 18446744073709551616 ^ (j + 1) % 18446744073709551616 : Nat) : Int)) := by
          simp only [Hp.get, hc0, if_true]
          exact qc_getq (hq2 _)
        have hga : ∀ a : Nat, (qc (l2 ++ (ql (Y / 2 ^ s) j ++ a :: ((ql Y N).drop (j + 1) ++ hi))))[l2.length + j]? = some (.int .u64 (a : Nat)) := fun a => qc_getq (hget _)
        have hgb : ∀ a : Nat, (qc (l2 ++ (ql (Y / 2 ^ s) j ++ a :: ((ql Y N).drop (j + 1) ++ hi))))[l2.length + (j + 1)]? = some (.int .u64 ((Y / 18446744073709551616 ^ (j + 1) % 18446744073709551616 : Nat) : Int)) := fun a => qc_getq (hq2 _)
        have hyb : Y / 18446744073709551616 ^ (j + 1) % 18446744073709551616 < 18446744073709551616 := Nat.mod_lt _ (by omega)
        generalize Y / 18446744073709551616 ^ (j + 1) % 18446744073709551616 = yy at *
        have n5 : yy * 2 ^ (64 - s) % 18446744073709551616 % 18446744073709551616 = yy * 2 ^ (64 - s) % 18446744073709551616 := Nat.mod_eq_of_lt (Nat.mod_lt _ (by omega))
        have n3 : x / 2 ^ s ||| yy * 2 ^ (64 - s) % 18446744073709551616 < 18446744073709551616 := by rw [← sw1]; exact Nat.mod_lt _ (by omega)
        have n4 : (x / 2 ^ s ||| yy * 2 ^ (64 - s) % 18446744073709551616) % 18446744073709551616 = (x / 2 ^ s ||| yy * 2 ^ (64 - s) % 18446744073709551616) := Nat.mod_eq_of_lt n3
        have p64 : 2 ^ 64 = 18446744073709551616 := rfl
        simp only [↓R1, R2, R3, R4, TY, reduceIte, Nat.reduceEqDiff, Nat.reduceAdd, Nat.reduceMul, Nat.reduceLT, Nat.reduceLeDiff, reduceCtorEq, decide_true, decide_false, Int.reduceLE, Int.reduceLT, Int.reduceToNat, Int.reduceAdd, Int.reduceSub, Int.reduceMul, Int.reduceEq, p0, p1, p15, p16, l0, hj63, hg1, hg2, hc0, hlx, hset, hga, hgb, hms, hms2, w3, w14, sw2, n4, n5, p64, hfl0, hjn, UN]
        rw [floOf_wr (by kernel_rfl)]
        simp only [↓R1, R2, R3, R4, TY, reduceIte, Nat.reduceEqDiff, Nat.reduceAdd, Nat.reduceMul, Nat.reduceLT, Nat.reduceLeDiff, reduceCtorEq, decide_true, decide_false, Int.reduceLE, Int.reduceLT, Int.reduceToNat, Int.reduceAdd, Int.reduceSub, Int.reduceMul, Int.reduceEq, p0, p1, p15, p16, l0, hj63, hg1, hg2, hc0, hlx, hset, hga, hgb, hms, hms2, w3, w14, sw2, n4, n5, p64, hfl0, hjn, UN]
        refine range_on p16 hlt rfl ⟨fun i hi => ?_, hCn, ?_, p0, p1, p15, rfl⟩
        · simp only [Hp.put_blk]; rw [if_neg hi, if_neg hi]; exact hc i hi
        · simp only [Hp.put_blk, if_true]; rw [hword]; simp
      · simp only [↓R1, R2, R3, R4, TY, reduceIte, Nat.reduceEqDiff, Nat.reduceAdd, Nat.reduceMul, Nat.reduceLT, Nat.reduceLeDiff, reduceCtorEq, decide_true, decide_false, Int.reduceLE, Int.reduceLT, Int.reduceToNat, Int.reduceAdd, Int.reduceSub, Int.reduceMul, Int.reduceEq, p0, p1, p15, p16, l0, hj63, hg1, hc0, hlx, hset, hms, w14, sw2, hfl0, hjn, UN]
        have hz : Y / 18446744073709551616 ^ (j + 1) = 0 := by rw [show j + 1 = N by omega]; exact Nat.div_eq_of_lt (nq_le.1 hnY)
        rw [hz, Nat.zero_mod, Nat.zero_mul, Nat.zero_mod, Nat.or_zero] at hword
        refine range_on p16 hlt rfl ⟨fun i hi => ?_, hCn, ?_, p0, p1, p15, rfl⟩
        · simp only [Hp.put_blk]; rw [if_neg hi]; exact hc i hi
        · simp only [Hp.put_blk, if_true]; rw [hword]; simp
    · obtain rfl : j = N := by omega
      rw [List.drop_of_length_le (by rw [ql_length]; omega), List.append_nil] at hc0
      refine call_of (cut_ok (A := C) hnZ hNc (by omega) hc0 (by omega)) ?_
      simp only [↓R1, R2, R3, R4, TY, reduceIte, Nat.reduceEqDiff, Nat.reduceAdd, Nat.reduceMul, Nat.reduceLT, Nat.reduceLeDiff, reduceCtorEq, decide_true, decide_false, Int.reduceLE, Int.reduceLT, Int.reduceToNat, Int.reduceAdd, Int.reduceSub, Int.reduceMul, Int.reduceEq]
      refine Ended.put hA hid (fun i hi => ?_) rfl hrb (qc_rb _ _)
      rw [Hp.put_blk]
      split
      · rename_i h; rw [h]; exact hc0
      · rename_i h; exact hc i h
  · obtain rfl : s = 0 := by omega
    rw [Nat.pow_zero, Nat.div_one] at *
    refine call_of (cut_ok hnZ hNc (by omega) hb (by omega)) ?_
    simp only [↓R1, R2, R3, R4, TY, reduceIte, Nat.reduceEqDiff, Nat.reduceAdd, Nat.reduceMul, Nat.reduceLT, Nat.reduceLeDiff, reduceCtorEq, decide_true, decide_false, Int.reduceLE, Int.reduceLT, Int.reduceToNat, Int.reduceAdd, Int.reduceSub, Int.reduceMul, Int.reduceEq]
    refine Ended.put hA hid (fun i hi => ?_) rfl hrb (qc_rb _ _)
    rw [Hp.put_blk]
    split
    · rename_i h; rw [h]; exact hb
    · rfl
end
end Go.Proofs.YtjkimjmocfjjnaaDoor.Ab
