/- Numbers in digits of 64 bits: plain facts. -/
import Derived.Test.YtpaffoiiipgkeaaDoorOh
namespace Go.Proofs.YtpaffoiiipgkeaaDoor.Ab
set_option linter.unusedVariables false
set_option linter.unusedSimpArgs false
set_option maxRecDepth 100000

/-- k digits of a number in base 2^64, the least first. -/
def ql (n k : Nat) : List Nat := (List.range k).map fun j => n / 18446744073709551616 ^ j % 18446744073709551616
theorem ql_length (n k : Nat) : (ql n k).length = k := by simp [ql]
theorem ql_get {n k j : Nat} (h : j < k) : (ql n k)[j]? = some (n / 18446744073709551616 ^ j % 18446744073709551616) := by simp [ql, h]
theorem ql_succ (n k : Nat) : ql n (k + 1) = ql n k ++ [n / 18446744073709551616 ^ k % 18446744073709551616] := by simp [ql, List.range_succ]
theorem ql_cons (n k : Nat) : ql n (k + 1) = n % 18446744073709551616 :: ql (n / 18446744073709551616) k := by
  induction k with
  | zero => simp [ql]
  | succ k ih => rw [ql_succ, ih, ql_succ, List.cons_append, Nat.div_div_eq_div_mul, ← Nat.pow_succ']
theorem ql_add (n a b : Nat) : ql n (a + b) = ql n a ++ ql (n / 18446744073709551616 ^ a) b := by
  induction b with
  | zero => simp [ql]
  | succ b ih => rw [← Nat.add_assoc, ql_succ, ih, ql_succ, List.append_assoc, Nat.div_div_eq_div_mul, ← Nat.pow_add]
theorem ql_zero (k : Nat) : ql 0 k = List.replicate k 0 := by
  induction k with
  | zero => rfl
  | succ k ih => rw [ql_succ, ih, Nat.zero_div, Nat.zero_mod, List.replicate_succ']

/-- How many digits a number has. -/
def nq (n : Nat) : Nat := if h : n = 0 then 0 else nq (n / 18446744073709551616) + 1
termination_by n
decreasing_by omega
theorem nq_zero : nq 0 = 0 := by rw [nq]; simp
theorem nq_pos {n : Nat} (h : n ≠ 0) : nq n = nq (n / 18446744073709551616) + 1 := by rw [nq, dif_neg h]
theorem nq_le {n k : Nat} : nq n ≤ k ↔ n < 18446744073709551616 ^ k := by
  induction k generalizing n with
  | zero =>
    by_cases h : n = 0
    · rw [h, nq_zero]; simp
    · rw [nq_pos h]; simp; omega
  | succ k ih =>
    by_cases h : n = 0
    · rw [h, nq_zero]; simp [Nat.pow_pos]
    · rw [nq_pos h, Nat.add_le_add_iff_right, ih, Nat.pow_succ, Nat.div_lt_iff_lt_mul (by omega)]
theorem lt_nq (n : Nat) : n < 18446744073709551616 ^ nq n := nq_le.1 (Nat.le_refl _)
theorem nq_eq_zero {n : Nat} : nq n = 0 ↔ n = 0 := by
  refine ⟨fun h => ?_, fun h => by rw [h, nq_zero]⟩
  have := nq_le.1 (show nq n ≤ 0 by omega)
  rw [Nat.pow_zero] at this; omega
theorem nq_mono {a b : Nat} (h : a ≤ b) : nq a ≤ nq b := nq_le.2 (Nat.lt_of_le_of_lt h (lt_nq b))
theorem nq_ge {n : Nat} (h : n ≠ 0) : 18446744073709551616 ^ (nq n - 1) ≤ n := by
  have h1 := mt nq_eq_zero.1 h
  have h2 := mt (nq_le (n := n) (k := nq n - 1)).2 (by omega)
  omega
theorem nq_one {n : Nat} (h : n ≠ 0) (h1 : n < 18446744073709551616) : nq n = 1 := by
  have h2 := nq_le.2 (show n < 18446744073709551616 ^ 1 by simpa using h1)
  have h3 := mt nq_eq_zero.1 h
  omega
theorem nq_bytes (n : Nat) : nq n = ((nb n).length + 7) / 8 := by
  have h : ∀ k, nq n ≤ k ↔ (nb n).length ≤ 8 * k := fun k => by rw [nq_le, nb_len_le, Nat.pow_mul]
  have h1 := (h (nq n)).1 (Nat.le_refl _)
  have h2 := (h (((nb n).length + 7) / 8)).2 (by omega)
  omega
/-- The rest of a number's digits are zeros. -/
theorem ql_pad {n k : Nat} (h : nq n ≤ k) : ql n k = ql n (nq n) ++ List.replicate (k - nq n) 0 := by
  have := ql_add n (nq n) (k - nq n)
  rw [show nq n + (k - nq n) = k by omega, Nat.div_eq_of_lt (lt_nq n), ql_zero] at this
  exact this
theorem ql_low {r x k : Nat} (j : Nat) (h : r < 18446744073709551616 ^ k) : ql (r + 18446744073709551616 ^ k * x) (k + j) = ql r k ++ ql x j := by
  have hp : 0 < (18446744073709551616 : Nat) ^ k := Nat.pow_pos (by omega)
  rw [ql_add, Nat.add_mul_div_left _ _ hp, Nat.div_eq_of_lt h, Nat.zero_add]
  congr 1
  clear j
  unfold ql
  refine List.map_congr_left fun i hi => ?_
  rw [List.mem_range] at hi
  have e : (18446744073709551616 : Nat) ^ k = 18446744073709551616 ^ i * (18446744073709551616 * 18446744073709551616 ^ (k - i - 1)) := by
    rw [← Nat.pow_succ', ← Nat.pow_add]; congr 1; omega
  rw [e, Nat.mul_assoc, Nat.add_mul_div_left _ _ (Nat.pow_pos (by omega)), Nat.mul_assoc, Nat.add_mul_mod_self_left]

/-- How often a number can be halved. -/
def v2 (n : Nat) : Nat := if h : n = 0 ∨ n % 2 = 1 then 0 else v2 (n / 2) + 1
termination_by n
decreasing_by omega
theorem v2_odd {n : Nat} (h : n % 2 = 1) : v2 n = 0 := by rw [v2, dif_pos (.inr h)]
theorem v2_even {n : Nat} (h0 : n ≠ 0) (h : n % 2 = 0) : v2 n = v2 (n / 2) + 1 := by rw [v2, dif_neg (by omega)]
theorem v2_spec (n : Nat) : n ≠ 0 → ∃ u, n = 2 ^ v2 n * u ∧ u % 2 = 1 := by
  induction n using Nat.strongRecOn with
  | _ n ih =>
    intro h0
    by_cases h : n % 2 = 1
    · exact ⟨n, by rw [v2_odd h]; simp, h⟩
    · obtain ⟨u, h1, h2⟩ := ih (n / 2) (by omega) (by omega)
      refine ⟨u, ?_, h2⟩
      rw [v2_even h0 (by omega), Nat.pow_succ, Nat.mul_assoc, Nat.mul_comm 2 u, ← Nat.mul_assoc, ← h1]; omega
theorem v2_mul {k u : Nat} (h : u % 2 = 1) : v2 (2 ^ k * u) = k := by
  induction k with
  | zero => rw [Nat.pow_zero, Nat.one_mul, v2_odd h]
  | succ k ih =>
    have hp : 0 < 2 ^ k * u := Nat.mul_pos (Nat.pow_pos (by omega)) (by omega)
    have e : 2 ^ (k + 1) * u = 2 * (2 ^ k * u) := by rw [Nat.pow_succ']; ac_rfl
    rw [e, v2_even (by omega) (by omega), Nat.mul_div_cancel_left _ (by omega), ih]
theorem v2_word {X j M : Nat} (hX : X = 18446744073709551616 ^ j * M) (hM : M % 18446744073709551616 ≠ 0) : v2 X = 64 * j + v2 (M % 18446744073709551616) ∧ v2 (M % 18446744073709551616) < 64 := by
  obtain ⟨u, h1, h2⟩ := v2_spec _ hM
  generalize v2 (M % 18446744073709551616) = t at *
  have ht : t < 64 := by
    have h3 : M % 18446744073709551616 < 2 ^ 64 := Nat.mod_lt _ (by omega)
    have h4 : 2 ^ t * 1 ≤ 2 ^ t * u := Nat.mul_le_mul_left _ (by omega)
    have h5 : 2 ^ t < 2 ^ 64 := by omega
    exact (Nat.pow_lt_pow_iff_right (by omega)).1 h5
  refine ⟨?_, ht⟩
  have e := Nat.div_add_mod M 18446744073709551616
  have e2 : 18446744073709551616 = 2 ^ t * (2 * 2 ^ (63 - t)) := by
    rw [← Nat.pow_succ', ← Nat.pow_add, show t + (63 - t).succ = 64 by omega]
  have e3 : M = 2 ^ t * (2 * (2 ^ (63 - t) * (M / 18446744073709551616)) + u) := by
    rw [Nat.mul_add, ← h1]
    conv => lhs; rw [← e]
    congr 1
    conv => lhs; lhs; rw [e2]
    ac_rfl
  rw [hX, e3, show (18446744073709551616 : Nat) ^ j = 2 ^ (64 * j) by rw [Nat.pow_mul], ← Nat.mul_assoc, ← Nat.pow_add]
  exact v2_mul (by omega)
theorem v2_nq {X : Nat} (h : X ≠ 0) : v2 X / 64 < nq X := by
  obtain ⟨u, h1, h2⟩ := v2_spec _ h
  have h3 := lt_nq X
  have h4 : 2 ^ v2 X * 1 ≤ 2 ^ v2 X * u := Nat.mul_le_mul_left _ (by omega)
  rw [show (18446744073709551616 : Nat) ^ nq X = 2 ^ (64 * nq X) by rw [Nat.pow_mul]] at h3
  have h5 : 2 ^ v2 X < 2 ^ (64 * nq X) := by omega
  have := (Nat.pow_lt_pow_iff_right (by omega)).1 h5
  omega

/-- The odd part. -/
def oddp (n : Nat) : Nat := n / 2 ^ v2 n
theorem oddp_spec {n : Nat} (h : n ≠ 0) : n = 2 ^ v2 n * oddp n ∧ oddp n % 2 = 1 := by
  obtain ⟨u, h1, h2⟩ := v2_spec n h
  have : oddp n = u := by
    unfold oddp
    conv => lhs; lhs; rw [h1]
    exact Nat.mul_div_cancel_left _ (Nat.pow_pos (by omega))
  rw [this]; exact ⟨h1, h2⟩
theorem oddp_le (n : Nat) : oddp n ≤ n := Nat.div_le_self _ _
theorem gcd_pow2_odd {u : Nat} (h : u % 2 = 1) : ∀ k x, Nat.gcd (2 ^ k * x) u = Nat.gcd x u := fun k x =>
  Nat.Coprime.gcd_mul_left_cancel _ (Nat.Coprime.pow_left _ (show Nat.gcd 2 u = 1 by rw [Nat.gcd_rec, h, Nat.gcd_one_left]))
theorem gcd_oddp {x u : Nat} (hx : x ≠ 0) (h : u % 2 = 1) : Nat.gcd (oddp x) u = Nat.gcd x u := by
  conv => rhs; rw [(oddp_spec hx).1]
  rw [gcd_pow2_odd h]
theorem gcd_halves {x y : Nat} (hx : x ≠ 0) (hy : y ≠ 0) : Nat.gcd x y = Nat.gcd (oddp x) (oddp y) * 2 ^ min (v2 x) (v2 y) := by
  obtain ⟨a1, a2⟩ := oddp_spec hx
  obtain ⟨b1, b2⟩ := oddp_spec hy
  conv => lhs; rw [a1, b1]
  generalize v2 x = n at *
  generalize v2 y = m at *
  by_cases h : n ≤ m
  · rw [Nat.min_eq_left h, show m = n + (m - n) by omega, Nat.pow_add, Nat.mul_assoc, Nat.gcd_mul_left, Nat.gcd_comm (oddp x), gcd_pow2_odd a2, Nat.gcd_comm, Nat.mul_comm]
  · rw [Nat.min_eq_right (by omega), show n = m + (n - m) by omega, Nat.pow_add, Nat.mul_assoc, Nat.gcd_mul_left, gcd_pow2_odd b2, Nat.mul_comm]
theorem gcd_minus {x y : Nat} (h : y ≤ x) : Nat.gcd (x - y) y = Nat.gcd x y := Nat.gcd_sub_self_left h
end Go.Proofs.YtpaffoiiipgkeaaDoor.Ab
