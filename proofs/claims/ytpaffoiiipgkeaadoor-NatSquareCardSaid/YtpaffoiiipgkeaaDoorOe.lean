/- Division digit by digit: the plain laws. -/
import Derived.Test.YtpaffoiiipgkeaaDoorOd
namespace Go.Proofs.YtpaffoiiipgkeaaDoor.Ab
open Go.RowKit
set_option linter.unusedVariables false
set_option linter.unusedSimpArgs false
set_option maxRecDepth 100000

theorem wl_add (n a b : Nat) : wl n (a + b) = wl n a ++ wl (n / 4294967296 ^ a) b := by
  induction b with
  | zero => simp [wl]
  | succ b ih => rw [show a + (b + 1) = (a + b) + 1 from rfl, wl_succ, ih, wl_succ, List.append_assoc, Nat.pow_add, Nat.div_div_eq_div_mul]
theorem wl_low {r x k : Nat} (j : Nat) (h : r < 4294967296 ^ k) : wl (r + 4294967296 ^ k * x) (k + j) = wl r k ++ wl x j := by
  rw [wl_add, Nat.add_mul_div_left _ _ (Nat.pow_pos (by omega)), Nat.div_eq_of_lt h, Nat.zero_add]
  congr 1
  have := wl_wv (wl_w32 (r + 4294967296 ^ k * x) k)
  rw [wl_length, wv_wl, Nat.add_mul_mod_self_left, Nat.mod_eq_of_lt h] at this
  exact this.symm
theorem wl_zero (k : Nat) : wl 0 k = List.replicate k 0 := by
  apply List.ext_getElem
  · simp [wl]
  · intro i h1 h2; simp [wl]
theorem wl_get {n k j : Nat} (h : j < k) : (wl n k)[j]? = some (n / 4294967296 ^ j % 4294967296) := by simp [wl, h]
theorem wl_set {x k d j : Nat} (hx : x < 4294967296 ^ k) (hj : j < k) (hd : d < 4294967296) (h0 : x / 4294967296 ^ j % 4294967296 = 0) : (wl x k).set j d = wl (x + 4294967296 ^ j * d) k := by
  have hw := (wl_w32 x k).set (j := j) hd
  have h1 := wv_set (wl x k) j d (by rw [wl_length]; exact hj)
  have h2 : (wl x k)[j]'(by rw [wl_length]; exact hj) = 0 := by simp [wl, h0]
  rw [h2, Nat.zero_mul, Nat.add_zero, wv_wl' hx, Nat.mul_comm d] at h1
  have h3 := wl_wv hw
  rw [h1, List.length_set, wl_length] at h3
  exact h3.symm

section
variable {B P V M v1 v2 top u2 d rest : Nat}
theorem est_zero (hB : B = 4294967296) (hV : V / P = v1 * B + v2) (hM : M / P = top * B + u2) (hu2 : u2 < B) (hP : 0 < P) (hv1 : 1 ≤ v1) : M < (top / v1 + 1) * V := by
  have h1 : M < (top * B + u2 + 1) * P := by rw [← hM, Nat.mul_comm]; exact Nat.lt_mul_div_succ _ hP
  have h2 : (v1 * B + v2) * P ≤ V := by rw [← hV]; exact Nat.div_mul_le_self _ _
  have h3 : top < (top / v1 + 1) * v1 := by rw [Nat.mul_comm]; exact Nat.lt_mul_div_succ _ hv1
  generalize top / v1 + 1 = e at *
  have h4 : (top + 1) * B ≤ e * v1 * B := Nat.mul_le_mul_right _ h3
  have h5 : (top * B + u2 + 1) * P ≤ e * v1 * B * P := Nat.mul_le_mul_right _ (by rw [Nat.add_mul] at h4; omega)
  have h6 : e * v1 * B * P ≤ e * V := by
    rw [Nat.mul_assoc e, Nat.mul_assoc e]
    refine Nat.mul_le_mul_left _ (Nat.le_trans ?_ h2)
    exact Nat.mul_le_mul_right _ (by omega)
  omega
theorem est_more (hV : V / P = v1 * B + v2) (hM : M / P = top * B + u2) (hP : 0 < P) (hMV : M < V * B) (hB0 : 0 < B) (ht : d * v1 + rest = top) (h : B ≤ d ∨ rest * B + u2 < d * v2) : 1 ≤ d ∧ M < d * V := by
  rcases h with h | h
  · refine ⟨by omega, Nat.lt_of_lt_of_le hMV ?_⟩
    rw [Nat.mul_comm]; exact Nat.mul_le_mul_right _ h
  · refine ⟨?_, ?_⟩
    · rcases Nat.eq_zero_or_pos d with h0 | h0
      · rw [h0, Nat.zero_mul] at h; omega
      · exact h0
    have h1 : M < (top * B + u2 + 1) * P := by rw [← hM, Nat.mul_comm]; exact Nat.lt_mul_div_succ _ hP
    have h2 : (v1 * B + v2) * P ≤ V := by rw [← hV]; exact Nat.div_mul_le_self _ _
    have h3 : d * ((v1 * B + v2) * P) ≤ d * V := Nat.mul_le_mul_left _ h2
    rw [← Nat.mul_assoc] at h3
    have h4 : (top * B + u2 + 1) * P ≤ d * (v1 * B + v2) * P := by
      refine Nat.mul_le_mul_right _ ?_
      rw [← ht, Nat.mul_add, ← Nat.mul_assoc, Nat.add_mul]
      omega
    omega
theorem est_end (hB : B = 4294967296) (hV : V / P = v1 * B + v2) (hM : M / P = top * B + u2) (hv2 : v2 < B) (hP : 0 < P) (hMV : M < V * B) (hv1 : 1 ≤ v1) (ht : d * v1 + rest = top) (h : B ≤ rest ∨ d < B ∧ d * v2 ≤ rest * B + u2) : d < B ∧ d * V ≤ M + V := by
  have h1 : V < (v1 * B + v2 + 1) * P := by rw [← hV, Nat.mul_comm]; exact Nat.lt_mul_div_succ _ hP
  have h2 : (v1 * B + v2) * P ≤ V := by rw [← hV]; exact Nat.div_mul_le_self _ _
  have h3 : (top * B + u2) * P ≤ M := by rw [← hM]; exact Nat.div_mul_le_self _ _
  have hB0 : 0 < B := by omega
  have hd : d < B ∧ d * v2 ≤ rest * B + u2 := by
    rcases h with h | h
    · have h4 : V ≤ (v1 + 1) * B * P := by
        refine Nat.le_trans (Nat.le_of_lt h1) (Nat.mul_le_mul_right _ ?_)
        rw [Nat.add_mul]; omega
      have h5 : top * B * P < (v1 + 1) * B * P * B := by
        refine Nat.lt_of_le_of_lt (Nat.le_trans (Nat.mul_le_mul_right _ (by omega)) h3) (Nat.lt_of_lt_of_le hMV (Nat.mul_le_mul_right _ h4))
      have h6 : top < (v1 + 1) * B := by
        have e1 : (v1 + 1) * B * P * B = (v1 + 1) * B * (B * P) := by rw [Nat.mul_assoc, Nat.mul_comm P B]
        rw [e1, Nat.mul_assoc top] at h5
        exact Nat.lt_of_mul_lt_mul_right h5
      rw [Nat.add_mul] at h6
      have h7 : d * v1 < B * v1 := by rw [Nat.mul_comm B]; omega
      have h8 : d < B := Nat.lt_of_mul_lt_mul_right h7
      refine ⟨h8, ?_⟩
      have h9 : d * v2 ≤ B * B := Nat.mul_le_mul (by omega) (by omega)
      have h10 : B * B ≤ rest * B := Nat.mul_le_mul_right _ h
      omega
    · exact h
  refine ⟨hd.1, ?_⟩
  have e := Nat.div_add_mod V P
  have hlo := Nat.mod_lt V hP
  rw [hV] at e
  have h4 : d * V = d * (v1 * B + v2) * P + d * (V % P) := by
    conv => lhs; rw [← e]
    rw [Nat.mul_add, Nat.mul_comm P, ← Nat.mul_assoc]
  have h5 : d * (v1 * B + v2) * P ≤ (top * B + u2) * P := by
    refine Nat.mul_le_mul_right _ ?_
    rw [← ht, Nat.mul_add, ← Nat.mul_assoc, Nat.add_mul]
    omega
  have h6 : d * (V % P) ≤ B * P := Nat.mul_le_mul (by omega) (by omega)
  have h7 : B * P ≤ V := by
    refine Nat.le_trans (Nat.mul_le_mul_right _ ?_) h2
    have : B * 1 ≤ B * v1 := Nat.mul_le_mul_left _ hv1
    rw [Nat.mul_comm v1]; omega
  omega
end
/-- One digit of the quotient is found. -/
theorem digit_found {R Qn U0 V M k r0 d p B : Nat} (hR : R = r0 + p * M) (hr : r0 < p) (hsum : R + Qn * V = U0) (h1 : d * V ≤ M) (h2 : M < (d + 1) * V) :
    (r0 + p * (M - d * V)) + (Qn + p * d) * V = U0 ∧ r0 + p * (M - d * V) < V * p := by
  have e : p * M = p * (M - d * V) + p * (d * V) := by rw [← Nat.mul_add]; congr 1; omega
  refine ⟨by rw [Nat.add_mul, Nat.mul_assoc]; omega, ?_⟩
  rw [Nat.add_mul] at h2
  have : p * (M - d * V + 1) ≤ p * V := Nat.mul_le_mul_left _ (by omega)
  rw [Nat.mul_add] at this
  rw [Nat.mul_comm V]
  omega
end Go.Proofs.YtpaffoiiipgkeaaDoor.Ab
