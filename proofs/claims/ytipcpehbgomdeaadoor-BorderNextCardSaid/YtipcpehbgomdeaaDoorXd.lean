/- Floating-point numbers as rational ones: the order. -/
import Derived.Test.YtipcpehbgomdeaaDoorXb
namespace Go.Proofs.YtipcpehbgomdeaaDoor.Ab
open Go.RowKit
set_option linter.unusedVariables false
set_option linter.unusedSimpArgs false
set_option maxRecDepth 100000

theorem p2_def (n : Nat) : p2 n = ((2 ^ n : Nat) : Rat) := by
  unfold p2; rw [rOf_eq]; simp
theorem p2_add (m n : Nat) : p2 (m + n) = p2 m * p2 n := by
  rw [p2_def, p2_def, p2_def, Nat.pow_add, Rat.natCast_mul]
theorem p2_one : p2 1 = 2 := by rw [p2_def]; rfl
/-- The number with the bits, in units of the least one. -/
def exN (b : Nat) : Nat := if b / 4503599627370496 = 0 then (b % 4503599627370496) * 2 else (b % 4503599627370496 + 4503599627370496) * 2 ^ (b / 4503599627370496)
theorem rOf_nat (m : Nat) : rOf ((m : Nat) : Int) = (m : Rat) := by rw [rOf_eq]; rfl
theorem div_eq_of {x y P Q : Rat} (hP : 0 < P) (hQ : 0 < Q) (h : x * Q = y * P) : x / P = y / Q := by
  have h1 : P ≠ 0 := by grind
  have h2 : Q ≠ 0 := by grind
  grind
theorem exq_eq (b : Nat) : exq b = (exN b : Rat) / p2 1075 := by
  have hT : p2 1075 = p2 1074 * 2 := by rw [show (1075 : Nat) = 1074 + 1 from rfl, p2_add, p2_one]
  have p1 := p2_pos 1074
  have p3 := p2_pos 1075
  have hs := fun (h : b / 4503599627370496 < 1075) => p2_add (1075 - b / 4503599627370496) (b / 4503599627370496)
  have hl := fun (h : ¬ b / 4503599627370496 < 1075) => p2_add (b / 4503599627370496 - 1075) 1075
  unfold exq exN
  generalize b % 4503599627370496 = m at *
  generalize b / 4503599627370496 = e at *
  have pe := p2_def e
  by_cases h0 : e = 0
  · rw [if_pos h0, if_pos h0, rOf_nat, Rat.natCast_mul]
    refine div_eq_of p1 p3 ?_
    rw [hT]
    have : ((2 : Nat) : Rat) = 2 := rfl
    rw [this]
    generalize p2 1074 = P at *
    grind
  · rw [if_neg h0, if_neg h0]
    rw [Rat.natCast_mul, ← pe, rOf_nat]
    generalize ((m + 4503599627370496 : Nat) : Rat) = M
    by_cases h1 : e < 1075
    · rw [if_pos h1]
      have hs := hs h1
      rw [Nat.sub_add_cancel (Nat.le_of_lt h1)] at hs
      have p4 := p2_pos (1075 - e)
      refine div_eq_of p4 p3 ?_
      rw [hs]
      generalize p2 (1075 - e) = P at *
      generalize p2 e = Q at *
      grind
    · rw [if_neg h1]
      have hl := hl h1
      rw [Nat.sub_add_cancel (Nat.le_of_not_lt h1)] at hl
      rw [hl]
      generalize p2 (e - 1075) = P at *
      generalize p2 1075 = Q at *
      have : Q ≠ 0 := by grind
      grind
theorem exN_step (b : Nat) : exN b < exN (b + 1) := by
  unfold exN
  by_cases h : b % 4503599627370496 + 1 < 4503599627370496
  · have h1 : (b + 1) / 4503599627370496 = b / 4503599627370496 := by omega
    have h2 : (b + 1) % 4503599627370496 = b % 4503599627370496 + 1 := by omega
    rw [h1, h2]
    generalize b % 4503599627370496 = m at *
    generalize b / 4503599627370496 = e at *
    split
    · omega
    · exact (Nat.mul_lt_mul_right (Nat.pow_pos (by omega))).2 (by omega)
  · have h1 : (b + 1) / 4503599627370496 = b / 4503599627370496 + 1 := by omega
    have h2 : (b + 1) % 4503599627370496 = 0 := by omega
    have h3 : b % 4503599627370496 < 4503599627370496 := by omega
    rw [h1, h2]
    generalize b % 4503599627370496 = m at *
    generalize b / 4503599627370496 = e at *
    rw [if_neg (show ¬ e + 1 = 0 by omega), Nat.pow_succ, Nat.zero_add]
    have hp : 0 < 2 ^ e := Nat.pow_pos (by omega)
    generalize hP : 2 ^ e = P at *
    split
    · rename_i h0
      subst h0
      have : P = 1 := by rw [← hP]
      omega
    · have : (m + 4503599627370496) * P < (4503599627370496 * 2) * P := (Nat.mul_lt_mul_right hp).2 (by omega)
      rw [Nat.mul_comm P 2, ← Nat.mul_assoc]
      exact this
theorem exN_lt {m n : Nat} (h : m < n) : exN m < exN n := by
  induction n with
  | zero => omega
  | succ n ih =>
    by_cases he : m = n
    · subst he; exact exN_step m
    · exact Nat.lt_trans (ih (by omega)) (exN_step n)
theorem exq_lt {m n : Nat} (h : m < n) : exq m < exq n := by
  rw [exq_eq, exq_eq]
  have h1 : ((exN m : Nat) : Rat) < ((exN n : Nat) : Rat) := Rat.natCast_lt_natCast.2 (exN_lt h)
  have h2 := p2_pos 1075
  generalize p2 1075 = P at *
  rw [Rat.div_lt_iff h2, Rat.div_mul_cancel (by grind)]
  exact h1
theorem exq_le {m n : Nat} (h : m ≤ n) : exq m ≤ exq n := by
  rcases Nat.lt_or_eq_of_le h with h | h
  · exact Rat.le_of_lt (exq_lt h)
  · rw [h]; exact Rat.le_refl
theorem exq_lt_iff {m n : Nat} : exq m < exq n ↔ m < n := by
  constructor
  · intro h
    by_cases h1 : m < n
    · exact h1
    · have := exq_le (Nat.le_of_not_lt h1)
      grind
  · exact exq_lt
theorem exq_zero : exq 0 = 0 := by
  rw [exq_eq]
  have : exN 0 = 0 := rfl
  rw [this]
  have : ((0 : Nat) : Rat) = 0 := rfl
  rw [this]; have := p2_pos 1075; grind
theorem exq_nonneg (b : Nat) : 0 ≤ exq b := by
  have := exq_le (Nat.zero_le b)
  rwa [exq_zero] at this
/-- The greatest floating-point number (up to the last one) that is not above a number. -/
def Un (a : Rat) (b : Nat) : Prop := b < 9218868437227405312 ∧ ∀ m, m < 9218868437227405312 → (exq m ≤ a ↔ m ≤ b)
/-- The least one that is not below a number. -/
def Ov (a : Rat) (b : Nat) : Prop := b < 9218868437227405312 ∧ ∀ m, m < 9218868437227405312 → (a ≤ exq m ↔ b ≤ m)
theorem un_ex' {a : Rat} (h : 0 ≤ a) (N : Nat) : ∃ b, b ≤ N ∧ ∀ m, m ≤ N → (exq m ≤ a ↔ m ≤ b) := by
  induction N with
  | zero =>
    refine ⟨0, Nat.le_refl _, fun m hm => ?_⟩
    have : m = 0 := by omega
    subst this
    rw [exq_zero]
    exact ⟨fun _ => Nat.le_refl _, fun _ => h⟩
  | succ N ih =>
    by_cases h1 : exq (N + 1) ≤ a
    · refine ⟨N + 1, Nat.le_refl _, fun m hm => ⟨fun _ => hm, fun _ => ?_⟩⟩
      have := exq_le hm
      exact Rat.le_trans this h1
    · obtain ⟨b, hb, hs⟩ := ih
      refine ⟨b, by omega, fun m hm => ?_⟩
      by_cases he : m = N + 1
      · subst he
        exact ⟨fun h => absurd h h1, fun h => by omega⟩
      · exact hs m (by omega)
theorem un_ex {a : Rat} (h : 0 ≤ a) : ∃ b, Un a b := by
  obtain ⟨b, hb, hs⟩ := un_ex' h 9218868437227405311
  exact ⟨b, by omega, fun m hm => hs m (by omega)⟩
theorem Un.le {a : Rat} {b : Nat} (h : Un a b) : exq b ≤ a := (h.2 b h.1).2 (Nat.le_refl _)
theorem Un.lt {a : Rat} {b : Nat} (h : Un a b) (hb : b + 1 < 9218868437227405312) : a < exq (b + 1) := by
  by_cases h1 : exq (b + 1) ≤ a
  · have := (h.2 _ hb).1 h1; omega
  · grind
theorem Un.of {a : Rat} {b : Nat} (hb : b + 1 < 9218868437227405312) (h1 : exq b ≤ a) (h2 : a < exq (b + 1)) : Un a b := by
  refine ⟨by omega, fun m hm => ⟨fun h => ?_, fun h => Rat.le_trans (exq_le h) h1⟩⟩
  have : exq m < exq (b + 1) := by grind
  have := exq_lt_iff.1 this
  omega
theorem Ov.le {a : Rat} {b : Nat} (h : Ov a b) : a ≤ exq b := (h.2 b h.1).2 (Nat.le_refl _)
theorem Ov.lt {a : Rat} {b : Nat} (h : Ov a b) (hb : 0 < b) : exq (b - 1) < a := by
  by_cases h1 : a ≤ exq (b - 1)
  · have := (h.2 _ (by have := h.1; omega)).1 h1; omega
  · grind
theorem Ov.of {a : Rat} {b : Nat} (hb : b < 9218868437227405312) (h1 : a ≤ exq b) (h2 : 0 < b → exq (b - 1) < a) : Ov a b := by
  refine ⟨hb, fun m hm => ⟨fun h => ?_, fun h => Rat.le_trans h1 (exq_le h)⟩⟩
  by_cases h0 : 0 < b
  · have h2 := h2 h0
    have : exq (b - 1) < exq m := by grind
    have := exq_lt_iff.1 this
    omega
  · omega
theorem ov_ex {a : Rat} (h : 0 ≤ a) (hm : a ≤ exq 9218868437227405311) : ∃ b, Ov a b := by
  obtain ⟨u, hu⟩ := un_ex h
  have h1 := hu.le
  have h3 := hu.1
  by_cases he : exq u < a
  · have h4 : u ≠ 9218868437227405311 := by
      intro hh; rw [hh] at he; grind
    refine ⟨u + 1, Ov.of (by omega) (Rat.le_of_lt (hu.lt (by omega))) (fun _ => ?_)⟩
    rw [Nat.add_sub_cancel]; exact he
  · have : exq u = a := by grind
    refine ⟨u, Ov.of h3 (by grind) (fun h0 => ?_)⟩
    rw [← this]; exact exq_lt (by omega)
theorem Ov.un {a : Rat} {u o : Nat} (hu : Un a u) (ho : Ov a o) : (exq u < a → o = u + 1) ∧ (¬ exq u < a → o = u) := by
  have a1 := hu.1
  have a2 := ho.1
  have a3 := hu.le
  have a4 := ho.le
  constructor
  · intro h
    have h1 : u < o := exq_lt_iff.1 (by grind)
    have h2 := ho.lt (by omega)
    have := (hu.2 (o - 1) (by omega)).1 (Rat.le_of_lt h2)
    omega
  · intro h
    have h1 : exq u = a := by grind
    have h2 := (ho.2 u a1).1 (by grind)
    have h3 := (hu.2 o a2)
    by_cases h4 : o = u
    · exact h4
    · exfalso
      have := exq_lt (show o < u by omega)
      grind
theorem exq_rz {b : Nat} (hb : b ≤ 9218868437227405312) : Rz (exq b) 150 := by
  obtain ⟨he, hm, _⟩ := parts_bd hb
  have h7 : Rz (rOf ((b % 4503599627370496 : Nat) : Int)) 7 := rz_small (Nat.lt_trans hm (by decide))
  have h8 : Rz (rOf ((b % 4503599627370496 + 4503599627370496 : Nat) : Int)) 7 := rz_small (Nat.add_lt_add_right hm 4503599627370496)
  unfold exq
  generalize b / 4503599627370496 = e at *
  split
  · exact (h7.div (p2_rz (n := 1074)) (p2_num 1074)).mono (by decide)
  · split
    · exact (h8.div (p2_rz (n := 1075 - e)) (p2_num _)).mono (by omega)
    · exact (h8.mul (p2_rz (n := e - 1075))).mono (by omega)
end Go.Proofs.YtipcpehbgomdeaaDoor.Ab

/- Floating-point numbers: under, over. -/
namespace Go.Proofs.YtipcpehbgomdeaaDoor.Ab
open Go.RowKit
set_option linter.unusedVariables false
set_option linter.unusedSimpArgs false
set_option maxRecDepth 100000
theorem rcmp_lt_iff {p q : Rat} : rcmp p q < 0 ↔ p < q := by
  unfold rcmp; split
  · simp_all
  · split <;> simp_all
theorem mid_lt {low high : Nat} (h : low < high) : (low + high) / 2 < high := by omega
theorem mid_facts {low high : Nat} (h : low < high) (hi : high ≤ 9218868437227405312) : IntKind.u64.wrap (((low : Nat) : Int) + 1) = ((low + 1 : Nat) : Int) ∧ IntKind.u64.wrap ((((low + high) % 18446744073709551616 : Nat) : Int).tdiv 2) = (((low + high) / 2 : Nat) : Int) ∧ ((((low + 1 : Nat) : Int) < ((high : Nat) : Int)) = (low + 1 < high)) ∧ low ≤ (low + high) / 2 ∧ (low + 1 < high → low < (low + high) / 2) := by
  have h1 : (low + high) % 18446744073709551616 = low + high := Nat.mod_eq_of_lt (by omega)
  refine ⟨?_, ?_, propext (by omega), by omega, by omega⟩
  · rw [show ((low : Nat) : Int) + 1 = ((low + 1 : Nat) : Int) by omega]; rw [u64_n, Nat.mod_eq_of_lt (by omega)]
  · rw [h1, show (((low + high : Nat) : Int).tdiv 2) = (((low + high) / 2 : Nat) : Int) from rfl]; rw [u64_n, Nat.mod_eq_of_lt (by omega)]

section
variable {G : Gl} {fl : Nat} {A : Hp}

set_option maxHeartbeats 2000000 in
theorem under_ok {a : Rat} {k b : Nat} (hG : G 2 = some tabV) (ha : Rz a k) (hk : k ≤ 1000) (hs : Un a b) : Sound Tryd.prog G 24 [ratV a] fl A (.int .u64 (b : Nat)) A := by
  refine Sound.of mixed Tryd.func24 Tryd.ntmps24 Tryd.results24 (by kernel_rfl) rfl (by kernel_rfl) (by simp) fun hA => ?_
  have hfl : fl ≤ A.next := by have := hA.floor; omega
  have hfl1 : fl ≤ A.next + 1 := by have := hA.floor; omega
  have hfl2 : fl ≤ A.next + 2 := by have := hA.floor; omega
  have hfl3 : fl ≤ A.next + 3 := by have := hA.floor; omega
  have hfl4 : fl ≤ A.next + 4 := by have := hA.floor; omega
  have hfl5 : fl ≤ A.next + 5 := by have := hA.floor; omega
  have hfl6 : fl ≤ A.next + 6 := by have := hA.floor; omega
  simp only [ratV_def]
  simp only [↓R1, R2, R3, R4, TY, reduceIte, Nat.reduceEqDiff, Nat.reduceAdd, Nat.reduceMul, Nat.reduceLT, Nat.reduceLeDiff, reduceCtorEq, decide_true, decide_false, Int.reduceLE, Int.reduceLT, Int.reduceToNat, Int.reduceAdd, Int.reduceSub, Int.reduceMul, Int.reduceEq, hfl, hfl1, hfl2, hfl3, hfl4, hfl5, hfl6, NE, UN, NE9, Nat.add_assoc]
  refine loop_of (fun τ C => C = A.push (Blk.row [Value.bool (decide (a.num < 0)), Value.string (S (nb a.num.natAbs)), Value.string (S (nb a.den))] 0 3) ∧ ∃ low high : Nat, low ≤ b ∧ b < high ∧ high ≤ 9218868437227405312 ∧ τ 3 = some (.int .u64 (low : Nat)) ∧ τ 4 = some (.int .u64 (high : Nat)) ∧ τ 1 = some (Value.pointer (some { block := A.next, off := 0, spot := some 0 }))) (fun τ _ => match τ 3, τ 4 with | some (.int _ x), some (.int _ y) => (y - x).toNat | _, _ => 0) ⟨rfl, 0, 9218868437227405312, Nat.zero_le _, hs.1, Nat.le_refl _, rfl, rfl, rfl⟩ ?_
  rintro τ C ⟨rfl, low, high, hl, hh, hi, q3, q4, q1⟩
  obtain ⟨w1, w2, c1, c2, c3⟩ := mid_facts (Nat.lt_of_le_of_lt hl hh) hi
  have hmi := Nat.lt_of_lt_of_le (mid_lt (Nat.lt_of_le_of_lt hl hh)) hi
  have ex := fun fl A => exact_ok (G := G) (fl := fl) (A := A) (b := (low + high) / 2) hG (Nat.le_of_lt hmi)
  have cm := fun fl A => qcmp (G := G) (fl := fl) (A := A) hG (exq_rz (Nat.le_of_lt hmi)) ha (Nat.le_trans (Nat.add_le_add_left hk 150) (by decide))
  have hc : (rcmp (exq ((low + high) / 2)) a ≤ 0) = ((low + high) / 2 ≤ b) := propext (rcmp_le_iff.trans (hs.2 _ hmi))
  generalize hmid : (low + high) / 2 = mid at *
  have hrm := ratV_rb A.next (exq mid)
  simp only [ratV_def] at ex cm
  simp only [↓R1, R2, R3, R4, TY, reduceIte, Nat.reduceEqDiff, Nat.reduceAdd, Nat.reduceMul, Nat.reduceLT, Nat.reduceLeDiff, reduceCtorEq, decide_true, decide_false, Int.reduceLE, Int.reduceLT, Int.reduceToNat, Int.reduceAdd, Int.reduceSub, Int.reduceMul, Int.reduceEq, hfl, hfl1, hfl2, hfl3, hfl4, hfl5, hfl6, NE, UN, NE9, Nat.add_assoc, q3, q4, q1, w1, w2, c1]
  refine ⟨fun h => ?_, fun h => ?_⟩
  · refine call_of (ex _ _) ?_
    simp only [↓R1, R2, R3, R4, TY, reduceIte, Nat.reduceEqDiff, Nat.reduceAdd, Nat.reduceMul, Nat.reduceLT, Nat.reduceLeDiff, reduceCtorEq, decide_true, decide_false, Int.reduceLE, Int.reduceLT, Int.reduceToNat, Int.reduceAdd, Int.reduceSub, Int.reduceMul, Int.reduceEq, hfl, hfl1, hfl2, hfl3, hfl4, hfl5, hfl6, NE, UN, NE9, Nat.add_assoc, q3, q4, q1, w1, w2, c1]
    refine call_of (cm _ _) ?_
    simp only [↓R1, R2, R3, R4, TY, reduceIte, Nat.reduceEqDiff, Nat.reduceAdd, Nat.reduceMul, Nat.reduceLT, Nat.reduceLeDiff, reduceCtorEq, decide_true, decide_false, Int.reduceLE, Int.reduceLT, Int.reduceToNat, Int.reduceAdd, Int.reduceSub, Int.reduceMul, Int.reduceEq, hfl, hfl1, hfl2, hfl3, hfl4, hfl5, hfl6, NE, UN, NE9, Nat.add_assoc, q3, q4, q1, w1, w2, c1, hc]
    refine ⟨fun h2 => ?_, fun h2 => ?_⟩
    · refine loop_on ⟨rfl, mid, high, h2, hh, hi, rfl, q4, q1⟩ ?_
      simp only [upd, if_true, reduceIte, q3, q4, Nat.reduceEqDiff]
      have := c3 h
      omega
    · refine loop_on ⟨rfl, low, mid, hl, Nat.lt_of_not_le h2, Nat.le_of_lt hmi, q3, rfl, q1⟩ ?_
      simp only [upd, if_true, reduceIte, q3, q4, Nat.reduceEqDiff]
      omega
  · have : low = b := by omega
    subst this
    refine Ended.back hA ?_ rfl (RB.int _ _)
    simp (maxDischargeDepth := 20) only [xt_push, xt_put, xt_refl, Nat.le_refl, Nat.le_add_right, Nat.add_assoc, Nat.reduceAdd]

set_option maxHeartbeats 2000000 in
theorem over_ok {a : Rat} {k u v : Nat} (hG : G 2 = some tabV) (ha : Rz a k) (hk : k ≤ 1000) (hu : Un a u) (ho : Ov a v) : Sound Tryd.prog G 26 [ratV a] fl A (.int .u64 (v : Nat)) A := by
  refine Sound.of mixed Tryd.func26 Tryd.ntmps26 Tryd.results26 (by kernel_rfl) rfl (by kernel_rfl) (by simp) fun hA => ?_
  have hfl : fl ≤ A.next := by have := hA.floor; omega
  have hfl1 : fl ≤ A.next + 1 := by have := hA.floor; omega
  have hfl2 : fl ≤ A.next + 2 := by have := hA.floor; omega
  have hfl3 : fl ≤ A.next + 3 := by have := hA.floor; omega
  have hfl4 : fl ≤ A.next + 4 := by have := hA.floor; omega
  have hfl5 : fl ≤ A.next + 5 := by have := hA.floor; omega
  have hfl6 : fl ≤ A.next + 6 := by have := hA.floor; omega
  have un := fun fl A => under_ok (G := G) (fl := fl) (A := A) hG ha hk hu
  have ex := fun fl A => exact_ok (G := G) (fl := fl) (A := A) (b := u) hG (Nat.le_of_lt hu.1)
  have cm := fun fl A => qcmp (G := G) (fl := fl) (A := A) hG (exq_rz (Nat.le_of_lt hu.1)) ha (Nat.le_trans (Nat.add_le_add_left hk 150) (by decide))
  have hc : (rcmp (exq u) a < 0) = (exq u < a) := propext rcmp_lt_iff
  have hlt := hu.1
  have hw : (u + 1) % 18446744073709551616 = u + 1 := Nat.mod_eq_of_lt (by omega)
  have hw2 : IntKind.u64.wrap (((u : Nat) : Int) + 1) = ((u + 1 : Nat) : Int) := by rw [show ((u : Nat) : Int) + 1 = ((u + 1 : Nat) : Int) by omega, u64_n, hw]
  obtain ⟨g1, g2⟩ := Ov.un hu ho
  simp only [ratV_def] at un ex cm ⊢
  simp only [↓R1, R2, R3, R4, TY, reduceIte, Nat.reduceEqDiff, Nat.reduceAdd, Nat.reduceMul, Nat.reduceLT, Nat.reduceLeDiff, reduceCtorEq, decide_true, decide_false, Int.reduceLE, Int.reduceLT, Int.reduceToNat, Int.reduceAdd, Int.reduceSub, Int.reduceMul, Int.reduceEq, hfl, hfl1, hfl2, hfl3, hfl4, hfl5, hfl6, NE, UN, NE9, Nat.add_assoc, hc]
  refine call_of (un _ _) ?_
  simp only [↓R1, R2, R3, R4, TY, reduceIte, Nat.reduceEqDiff, Nat.reduceAdd, Nat.reduceMul, Nat.reduceLT, Nat.reduceLeDiff, reduceCtorEq, decide_true, decide_false, Int.reduceLE, Int.reduceLT, Int.reduceToNat, Int.reduceAdd, Int.reduceSub, Int.reduceMul, Int.reduceEq, hfl, hfl1, hfl2, hfl3, hfl4, hfl5, hfl6, NE, UN, NE9, Nat.add_assoc, hc]
  refine call_of (ex _ _) ?_
  simp only [↓R1, R2, R3, R4, TY, reduceIte, Nat.reduceEqDiff, Nat.reduceAdd, Nat.reduceMul, Nat.reduceLT, Nat.reduceLeDiff, reduceCtorEq, decide_true, decide_false, Int.reduceLE, Int.reduceLT, Int.reduceToNat, Int.reduceAdd, Int.reduceSub, Int.reduceMul, Int.reduceEq, hfl, hfl1, hfl2, hfl3, hfl4, hfl5, hfl6, NE, UN, NE9, Nat.add_assoc, hc]
  refine call_of (cm _ _) ?_
  simp only [↓R1, R2, R3, R4, TY, reduceIte, Nat.reduceEqDiff, Nat.reduceAdd, Nat.reduceMul, Nat.reduceLT, Nat.reduceLeDiff, reduceCtorEq, decide_true, decide_false, Int.reduceLE, Int.reduceLT, Int.reduceToNat, Int.reduceAdd, Int.reduceSub, Int.reduceMul, Int.reduceEq, hfl, hfl1, hfl2, hfl3, hfl4, hfl5, hfl6, NE, UN, NE9, Nat.add_assoc, hc]
  refine ⟨fun h => ?_, fun h => ?_⟩
  · simp only [↓R1, R2, R3, R4, TY, reduceIte, Nat.reduceEqDiff, Nat.reduceAdd, Nat.reduceMul, Nat.reduceLT, Nat.reduceLeDiff, reduceCtorEq, decide_true, decide_false, Int.reduceLE, Int.reduceLT, Int.reduceToNat, Int.reduceAdd, Int.reduceSub, Int.reduceMul, Int.reduceEq, hfl, hfl1, hfl2, hfl3, hfl4, hfl5, hfl6, NE, UN, NE9, Nat.add_assoc, hc, hw2, hw]
    rw [g1 h]
    refine Ended.back hA ?_ rfl (RB.int _ _)
    simp (maxDischargeDepth := 20) only [xt_push, xt_put, xt_refl, Nat.le_refl, Nat.le_add_right, Nat.add_assoc, Nat.reduceAdd]
  · rw [g2 h]
    refine Ended.back hA ?_ rfl (RB.int _ _)
    simp (maxDischargeDepth := 20) only [xt_push, xt_put, xt_refl, Nat.le_refl, Nat.le_add_right, Nat.add_assoc, Nat.reduceAdd]

end
end Go.Proofs.YtipcpehbgomdeaaDoor.Ab
