/- Numbers as rows of bytes, and as rows of digits in base 2^32. -/
import Derived.Test.YtjgkodhadgfbmaaDoorAb18
namespace Go.Proofs.YtjgkodhadgfbmaaDoor.Ab
set_option linter.unusedVariables false
set_option linter.unusedSimpArgs false

/-- A number's bytes, the greatest first. -/
def nv (l : List UInt8) : Nat := l.foldl (fun n b => n * 256 + b.toNat) 0
theorem nv_nil : nv [] = 0 := rfl
theorem nv_go (l : List UInt8) : ∀ n, l.foldl (fun n b => n * 256 + b.toNat) n = n * 256 ^ l.length + nv l := by
  induction l with
  | nil => intro n; simp [nv]
  | cons b l ih =>
    intro n
    have h1 := ih (n * 256 + b.toNat)
    have h2 := ih (0 * 256 + b.toNat)
    simp only [nv, List.foldl_cons, List.length_cons] at h1 h2 ⊢
    rw [h1, h2, Nat.pow_succ]
    simp only [Nat.zero_mul, Nat.zero_add, Nat.add_mul]
    rw [Nat.mul_assoc n, Nat.mul_comm 256]
    omega
theorem nv_cons (b : UInt8) (l : List UInt8) : nv (b :: l) = b.toNat * 256 ^ l.length + nv l := by
  have := nv_go l (0 * 256 + b.toNat)
  simp only [nv, List.foldl_cons] at this ⊢
  rw [this]; simp
theorem nv_append (a b : List UInt8) : nv (a ++ b) = nv a * 256 ^ b.length + nv b := by
  rw [nv, List.foldl_append, nv_go]; rfl
theorem nv_snoc (a : List UInt8) (b : UInt8) : nv (a ++ [b]) = nv a * 256 + b.toNat := by
  rw [nv_append]; simp [nv_cons, nv_nil]
theorem nv_lt (l : List UInt8) : nv l < 256 ^ l.length := by
  induction l with
  | nil => simp [nv]
  | cons b l ih =>
    rw [nv_cons, List.length_cons, Nat.pow_succ]
    have := b.toNat_lt
    have h2 : b.toNat * 256 ^ l.length + 256 ^ l.length ≤ 256 ^ l.length * 256 := by
      rw [Nat.mul_comm (256 ^ l.length) 256, ← Nat.succ_mul]
      exact Nat.mul_le_mul_right _ (by omega)
    omega
theorem nv_zeros (k : Nat) (l : List UInt8) : nv (List.replicate k 0 ++ l) = nv l := by
  induction k with
  | zero => simp
  | succ k ih => rw [List.replicate_succ, List.cons_append, nv_cons, ih]; simp
theorem nv_zero_cons (l : List UInt8) : nv (0 :: l) = nv l := by rw [nv_cons]; simp

/-- A number in bytes, without zeros ahead. -/
def nb (n : Nat) : List UInt8 := if h : n = 0 then [] else nb (n / 256) ++ [UInt8.ofNat (n % 256)]
termination_by n
decreasing_by omega
theorem nb_zero : nb 0 = [] := by rw [nb]; simp
theorem nb_pos {n : Nat} (h : n ≠ 0) : nb n = nb (n / 256) ++ [UInt8.ofNat (n % 256)] := by rw [nb, dif_neg h]
theorem ofNat_toNat8 {n : Nat} (h : n < 256) : (UInt8.ofNat n).toNat = n := by simp [UInt8.toNat_ofNat', Nat.mod_eq_of_lt h]
theorem nv_nb (n : Nat) : nv (nb n) = n := by
  induction n using Nat.strongRecOn with
  | _ n ih =>
    by_cases h : n = 0
    · rw [h, nb_zero]; rfl
    · rw [nb_pos h, nv_snoc, ih _ (by omega), ofNat_toNat8 (by omega)]; omega
theorem nb_inj {a b : Nat} (h : nb a = nb b) : a = b := by rw [← nv_nb a, ← nv_nb b, h]
theorem nb_eq_nil {n : Nat} : nb n = [] ↔ n = 0 := ⟨fun h => by rw [← nv_nb n, h]; rfl, fun h => by rw [h, nb_zero]⟩
theorem nb_len_le {n k : Nat} : (nb n).length ≤ k ↔ n < 256 ^ k := by
  induction k generalizing n with
  | zero =>
    simp only [Nat.le_zero_eq, List.length_eq_zero_iff, nb_eq_nil, Nat.pow_zero]; omega
  | succ k ih =>
    by_cases h : n = 0
    · rw [h, nb_zero]; simp [Nat.pow_pos]
    · rw [nb_pos h, List.length_append, List.length_singleton, Nat.add_le_add_iff_right, ih, Nat.pow_succ, Nat.div_lt_iff_lt_mul (by omega)]
theorem nb_head {n : Nat} {b : UInt8} {l : List UInt8} (h : nb n = b :: l) : b ≠ 0 := by
  induction n using Nat.strongRecOn generalizing b l with
  | _ n ih =>
    by_cases h0 : n = 0
    · rw [h0, nb_zero] at h; cases h
    · rw [nb_pos h0] at h
      by_cases h1 : n / 256 = 0
      · rw [h1, nb_zero] at h
        simp only [List.nil_append, List.cons.injEq] at h
        rw [← h.1]
        intro hz
        have := congrArg UInt8.toNat hz
        rw [ofNat_toNat8 (by omega)] at this
        simp at this; omega
      · cases hq : nb (n / 256) with
        | nil => rw [nb_eq_nil] at hq; exact absurd hq h1
        | cons c m =>
          rw [hq] at h
          simp only [List.cons_append, List.cons.injEq] at h
          rw [← h.1]; exact ih (n / 256) (by omega) hq
/-- A row of bytes without zeros ahead is its number's. -/
theorem nb_nv : ∀ (l : List UInt8), (∀ b m, l = b :: m → b ≠ 0) → nb (nv l) = l := by
  intro l
  have go : ∀ (k : Nat) (l : List UInt8), l.length = k → (∀ b m, l = b :: m → b ≠ 0) → nb (nv l) = l := by
    intro k
    induction k with
    | zero => intro l hl _; rw [List.length_eq_zero_iff.1 hl]; simp [nv_nil, nb_zero]
    | succ k ih =>
      intro l hl h
      have hne : l ≠ [] := by intro e; rw [e] at hl; simp at hl
      obtain ⟨a, b, rfl⟩ : ∃ a b, l = a ++ [b] := ⟨_, _, (List.dropLast_concat_getLast hne).symm⟩
      have ha : ∀ c m, a = c :: m → c ≠ 0 := fun c m e => h c (m ++ [b]) (by rw [e]; rfl)
      have hb := b.toNat_lt
      have hiv := ih a (by simp at hl; omega) ha
      rw [nv_snoc]
      have hn0 : nv a * 256 + b.toNat ≠ 0 := by
        cases a with
        | nil => simp only [nv_nil]; have := h b [] rfl; intro e; apply this; apply UInt8.toNat_inj.1; simp; omega
        | cons c m =>
          intro e
          have h0 : nv (c :: m) = 0 := by omega
          rw [h0, nb_zero] at hiv; cases hiv
      rw [nb_pos hn0]
      congr 1
      · rw [show (nv a * 256 + b.toNat) / 256 = nv a by omega]; exact hiv
      · rw [show (nv a * 256 + b.toNat) % 256 = b.toNat by omega]
        congr 1; apply UInt8.toNat_inj.1; rw [ofNat_toNat8 hb]
  exact go l.length l rfl
theorem nb_nv_nb (n : Nat) : nb (nv (nb n)) = nb n := by rw [nv_nb]
theorem nb_of_zero_cons {b : UInt8} {l : List UInt8} : nb (nv (0 :: l)) = nb (nv l) := by rw [nv_zero_cons]
theorem nb_len_mono {a b : Nat} (h : a ≤ b) : (nb a).length ≤ (nb b).length := nb_len_le.2 (Nat.lt_of_le_of_lt h (nb_len_le.1 (Nat.le_refl _)))
theorem nb_len_nv (l : List UInt8) : (nb (nv l)).length ≤ l.length := nb_len_le.2 (nv_lt l)
theorem lt_of_nb_len {a b : Nat} (h : (nb a).length < (nb b).length) : a < b := by
  rcases Nat.lt_or_ge a b with h' | h'
  · exact h'
  · have := nb_len_mono h'; omega

/-- A number's digits in base 2^32, the least first. -/
def wv : List Nat → Nat
  | [] => 0
  | w :: l => w + 4294967296 * wv l
def W32 (l : List Nat) : Prop := ∀ w ∈ l, w < 4294967296
theorem wv_append (a b : List Nat) : wv (a ++ b) = wv a + 4294967296 ^ a.length * wv b := by
  induction a with
  | nil => simp [wv]
  | cons w a ih => simp only [List.cons_append, wv, ih, List.length_cons, Nat.pow_succ, Nat.mul_add]; rw [← Nat.mul_assoc, Nat.mul_comm (4294967296 ^ a.length) 4294967296]; omega
theorem wv_snoc (a : List Nat) (w : Nat) : wv (a ++ [w]) = wv a + 4294967296 ^ a.length * w := by rw [wv_append]; simp [wv]
theorem wv_zeros (a : List Nat) (k : Nat) : wv (a ++ List.replicate k 0) = wv a := by
  have : ∀ k, wv (List.replicate k 0) = 0 := fun k => by
    induction k with
    | zero => rfl
    | succ k ih => simp [List.replicate_succ, wv, ih]
  rw [wv_append, this]; simp
theorem wv_lt {l : List Nat} (h : W32 l) : wv l < 4294967296 ^ l.length := by
  induction l with
  | nil => simp [wv]
  | cons w l ih =>
    have h1 := h w (by simp)
    have h2 := ih fun x hx => h x (by simp [hx])
    simp only [wv, List.length_cons, Nat.pow_succ]
    omega
theorem wv_set (l : List Nat) : ∀ (j : Nat) (v : Nat) (h : j < l.length), wv (l.set j v) + l[j] * 4294967296 ^ j = wv l + v * 4294967296 ^ j := by
  induction l with
  | nil => intro j v h; simp at h
  | cons w l ih =>
    intro j v h
    cases j with
    | zero => simp [wv]; omega
    | succ j =>
      have := ih j v (by simpa using h)
      simp only [List.set_cons_succ, wv, List.getElem_cons_succ, Nat.pow_succ]
      rw [← Nat.mul_assoc, ← Nat.mul_assoc]
      omega
theorem wv_take_succ {l : List Nat} {i : Nat} (h : i < l.length) : wv (l.take (i + 1)) = wv (l.take i) + 4294967296 ^ i * l[i] := by
  rw [List.take_succ_eq_append_getElem h, wv_snoc, List.length_take, Nat.min_eq_left (by omega)]
/-- The first k digits. -/
def wl (n k : Nat) : List Nat := (List.range k).map fun j => n / 4294967296 ^ j % 4294967296
theorem wl_length (n k : Nat) : (wl n k).length = k := by simp [wl]
theorem wl_w32 (n k : Nat) : W32 (wl n k) := by
  intro w hw
  simp only [wl, List.mem_map] at hw
  obtain ⟨j, _, rfl⟩ := hw
  exact Nat.mod_lt _ (by omega)
theorem wl_succ (n k : Nat) : wl n (k + 1) = wl n k ++ [n / 4294967296 ^ k % 4294967296] := by simp [wl, List.range_succ]
theorem wv_wl (n k : Nat) : wv (wl n k) = n % 4294967296 ^ k := by
  induction k with
  | zero => simp [wl, wv, Nat.mod_one]
  | succ k ih =>
    rw [wl_succ, wv_snoc, ih, wl_length, Nat.pow_succ]
    exact (Nat.mod_mul).symm
theorem wv_wl' {n k : Nat} (h : n < 4294967296 ^ k) : wv (wl n k) = n := by rw [wv_wl, Nat.mod_eq_of_lt h]
/-- A row of digits is its number's. -/
theorem wl_wv {l : List Nat} (h : W32 l) : wl (wv l) l.length = l := by
  have go : ∀ (a b : List Nat), W32 a → W32 b → a.length = b.length → wv a = wv b → a = b := by
    intro a
    induction a with
    | nil => intro b _ _ hl _; cases b with | nil => rfl | cons => simp at hl
    | cons w a ih =>
      intro b ha hb hl hv
      cases b with
      | nil => simp at hl
      | cons u b =>
        have h1 := ha w (by simp)
        have h2 := hb u (by simp)
        simp only [wv] at hv
        have : w = u := by omega
        subst this
        rw [ih b (fun x hx => ha x (by simp [hx])) (fun x hx => hb x (by simp [hx])) (by simpa using hl) (by omega)]
  exact go _ _ (wl_w32 _ _) h (by rw [wl_length]) (by rw [wv_wl, Nat.mod_eq_of_lt (wv_lt h)])

theorem pow256_4 (q : Nat) : (256 : Nat) ^ (4 * q) = 4294967296 ^ q := by rw [Nat.pow_mul]
/-- A byte more, ahead. -/
theorem wl_byte {v b i k : Nat} (hv : v < 256 ^ i) (hb : b < 256) (hk : i / 4 < k) : wl (b * 256 ^ i + v) k = (wl v k).set (i / 4) (v / 4294967296 ^ (i / 4) % 4294967296 + b * 256 ^ (i % 4)) := by
  have hi : (256 : Nat) ^ i = 4294967296 ^ (i / 4) * 256 ^ (i % 4) := by rw [← pow256_4, ← Nat.pow_add]; congr 1; omega
  have hr4 : (256 : Nat) ^ (i % 4) * 256 ≤ 4294967296 := by
    rw [← Nat.pow_succ]; exact Nat.le_trans (Nat.pow_le_pow_right (n := 256) (j := 4) (by omega) (by omega)) (by decide)
  apply List.ext_getElem?
  intro j
  rw [List.getElem?_set, wl_length]
  by_cases hj : j < k
  · have h1 : ∀ n, (wl n k)[j]? = some (n / 4294967296 ^ j % 4294967296) := fun n => by simp [wl, hj]
    rw [h1]
    split
    · rename_i hq
      subst hq
      have hvq : v / 4294967296 ^ (i / 4) < 256 ^ (i % 4) := by
        rw [Nat.div_lt_iff_lt_mul (Nat.pow_pos (by omega)), Nat.mul_comm, ← hi]; exact hv
      rw [hi, Nat.mul_comm (4294967296 ^ (i / 4)), ← Nat.mul_assoc, Nat.add_comm, Nat.add_mul_div_right _ _ (Nat.pow_pos (by omega))]
      have h2 : b * 256 ^ (i % 4) + 256 ^ (i % 4) ≤ 256 ^ (i % 4) * 256 := by
        rw [← Nat.succ_mul, Nat.mul_comm]; exact Nat.mul_le_mul_left _ (by omega)
      rw [Nat.mod_eq_of_lt (by omega), Nat.mod_eq_of_lt (a := v / _) (by omega)]
    · rename_i hq
      rw [h1]
      congr 1
      rcases Nat.lt_or_gt_of_ne hq with h | h
      · -- above
        have h3 : (256 : Nat) ^ i * 256 ≤ 4294967296 ^ j := by
          rw [← Nat.pow_succ, ← pow256_4]; exact Nat.pow_le_pow_right (by omega) (by omega)
        have h4 : b * 256 ^ i + 256 ^ i ≤ 256 ^ i * 256 := by
          rw [← Nat.succ_mul, Nat.mul_comm]; exact Nat.mul_le_mul_left _ (by omega)
        rw [Nat.div_eq_of_lt (show b * 256 ^ i + v < 4294967296 ^ j by omega), Nat.div_eq_of_lt (show v < 4294967296 ^ j by omega)]
      · have h5 : (4294967296 : Nat) ^ (i / 4) = 4294967296 ^ j * 4294967296 * 4294967296 ^ (i / 4 - j - 1) := by
          rw [← Nat.pow_succ, ← Nat.pow_add]; congr 1; omega
        rw [hi, h5, show b * (4294967296 ^ j * 4294967296 * 4294967296 ^ (i / 4 - j - 1) * 256 ^ (i % 4)) + v = v + (4294967296 * (b * (4294967296 ^ (i / 4 - j - 1) * 256 ^ (i % 4)))) * 4294967296 ^ j by
          rw [Nat.add_comm]; congr 1
          simp only [Nat.mul_assoc, Nat.mul_comm, Nat.mul_left_comm]]
        rw [Nat.add_mul_div_right _ _ (Nat.pow_pos (by omega)), Nat.add_mul_mod_self_left]
  · rw [List.getElem?_eq_none (by rw [wl_length]; omega), List.getElem?_eq_none (by rw [wl_length]; omega)]
    split
    · omega
    · rfl
/-- A number's digits. -/
def wds (n : Nat) : List Nat := wl n (((nb n).length + 3) / 4)
theorem wds_length (n : Nat) : (wds n).length = ((nb n).length + 3) / 4 := wl_length _ _
theorem wds_w32 (n : Nat) : W32 (wds n) := wl_w32 _ _
theorem wv_wds (n : Nat) : wv (wds n) = n := by
  refine wv_wl' (Nat.lt_of_lt_of_le (nb_len_le.1 (Nat.le_refl _)) ?_)
  rw [← pow256_4]; exact Nat.pow_le_pow_right (by omega) (by omega)
theorem wds_zero : wds 0 = [] := by simp [wds, nb_zero, wl]
/-- A digit's bytes. -/
def b4 (w : Nat) : List UInt8 := [UInt8.ofNat (w / 16777216 % 256), UInt8.ofNat (w / 65536 % 256), UInt8.ofNat (w / 256 % 256), UInt8.ofNat (w % 256)]
theorem nv_b4 {w : Nat} (h : w < 4294967296) : nv (b4 w) = w := by
  simp only [b4, nv, List.foldl_cons, List.foldl_nil]
  rw [ofNat_toNat8 (Nat.mod_lt _ (by omega)), ofNat_toNat8 (Nat.mod_lt _ (by omega)), ofNat_toNat8 (Nat.mod_lt _ (by omega)), ofNat_toNat8 (Nat.mod_lt _ (by omega))]
  omega
def be : List Nat → List UInt8
  | [] => []
  | w :: l => be l ++ b4 w
theorem be_length (l : List Nat) : (be l).length = 4 * l.length := by
  induction l with
  | nil => rfl
  | cons w l ih => simp [be, ih, b4]; omega
theorem be_snoc (l : List Nat) (w : Nat) : be (l ++ [w]) = b4 w ++ be l := by
  induction l with
  | nil => simp [be]
  | cons u l ih => simp [be, ih]
theorem nv_be {l : List Nat} (h : W32 l) : nv (be l) = wv l := by
  induction l with
  | nil => rfl
  | cons w l ih =>
    have hw := h w (by simp)
    rw [be, nv_append, ih fun x hx => h x (by simp [hx]), nv_b4 hw, wv]
    simp [b4]; omega
end Go.Proofs.YtjgkodhadgfbmaaDoor.Ab
