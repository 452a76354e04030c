/- Spans: their values; Good, fit, Of. -/
import Derived.Test.YtjkimjmocfjjnaaDoorQc
namespace Go.Proofs.YtjkimjmocfjjnaaDoor.Ab
open Go.RowKit
set_option linter.unusedVariables false
set_option linter.unusedSimpArgs false
set_option maxRecDepth 100000

/-- The value of a struct of two numbers. -/
def prV (p q : Rat) : Value := .agg #[.bool (decide (p.num < 0)), .string (S (nb p.num.natAbs)), .string (S (nb p.den)), .bool (decide (q.num < 0)), .string (S (nb q.num.natAbs)), .string (S (nb q.den))]
theorem prV_def (p q : Rat) : prV p q = .agg #[.bool (decide (p.num < 0)), .string (S (nb p.num.natAbs)), .string (S (nb p.den)), .bool (decide (q.num < 0)), .string (S (nb q.num.natAbs)), .string (S (nb q.den))] := rfl
theorem prV_rb (n : Nat) (p q : Rat) : RB n (prV p q) := RB.agg fun v hv => by
  simp only [List.mem_cons, List.not_mem_nil, or_false] at hv
  rcases hv with rfl | rfl | rfl | rfl | rfl | rfl <;> exact RB.zc rfl
theorem rcmp_le_iff {p q : Rat} : rcmp p q ≤ 0 ↔ p ≤ q := by
  refine ⟨fun h => Rat.not_lt.1 fun hn => ?_, rcmp_le⟩
  rw [rcmp, if_neg (rlt_asymm hn), if_pos hn] at h; omega

/-- A good span. -/
structure Sp (a b : Rat) (k : Nat) : Prop where
  low : Rz a k
  high : Rz b k
  le : a ≤ b

section
variable {G : Gl} {fl : Nat} {A : Hp}

theorem sgood {a b : Rat} {k : Nat} (hG : G 1 = some tabV) (ha : Rz a k) (hb : Rz b k) (hk : k ≤ 10000000000) : Sound Tryd.prog G 85 [prV a b] fl A (.bool (decide (a ≤ b))) A := by
  refine Sound.of mixed Tryd.func85 Tryd.ntmps85 Tryd.results85 (by kernel_rfl) rfl (by kernel_rfl) (by kernel_rfl) fun hA => ?_
  have hfl : fl ≤ A.next := hA.floor
  rw [prV_def]
  simp only [↓R1, R2, R3, R4, TY, reduceIte, Nat.reduceEqDiff, Nat.reduceAdd, Nat.reduceMul, Nat.reduceLT, Nat.reduceLeDiff, reduceCtorEq, decide_true, decide_false, Int.reduceLE, Int.reduceLT, Int.reduceToNat, Int.reduceAdd, Int.reduceSub, Int.reduceMul, Int.reduceEq, hfl]
  refine call_of (qgood (q := a) hG (Nat.le_trans ha.1 (by omega)) (Nat.le_trans ha.2 (by omega))) ?_
  simp only [↓R1, R2, R3, R4, TY, reduceIte, Nat.reduceEqDiff, Nat.reduceAdd, Nat.reduceMul, Nat.reduceLT, Nat.reduceLeDiff, reduceCtorEq, decide_true, decide_false, Int.reduceLE, Int.reduceLT, Int.reduceToNat, Int.reduceAdd, Int.reduceSub, Int.reduceMul, Int.reduceEq, hfl]
  refine call_of (qgood (q := b) hG (Nat.le_trans hb.1 (by omega)) (Nat.le_trans hb.2 (by omega))) ?_
  simp only [↓R1, R2, R3, R4, TY, reduceIte, Nat.reduceEqDiff, Nat.reduceAdd, Nat.reduceMul, Nat.reduceLT, Nat.reduceLeDiff, reduceCtorEq, decide_true, decide_false, Int.reduceLE, Int.reduceLT, Int.reduceToNat, Int.reduceAdd, Int.reduceSub, Int.reduceMul, Int.reduceEq, hfl]
  refine call_of (qcmp hG ha hb (by omega)) ?_
  simp only [↓R1, R2, R3, R4, TY, reduceIte, Nat.reduceEqDiff, Nat.reduceAdd, Nat.reduceMul, Nat.reduceLT, Nat.reduceLeDiff, reduceCtorEq, decide_true, decide_false, Int.reduceLE, Int.reduceLT, Int.reduceToNat, Int.reduceAdd, Int.reduceSub, Int.reduceMul, Int.reduceEq, hfl, rcmp_le_iff]
  exact Ended.back hA (by simp (maxDischargeDepth := 20) only [xt_push, xt_put, xt_refl, Nat.le_refl, Nat.le_add_right]) rfl (RB.bool _)

theorem sfit {a b : Rat} {k : Nat} (hG : G 1 = some tabV) (h : Sp a b k) (hk : k ≤ 10000000000) : Sound Tryd.prog G 86 [prV a b] fl A (prV a b) A := by
  refine Sound.of mixed Tryd.func86 Tryd.ntmps86 Tryd.results86 (by kernel_rfl) rfl (by kernel_rfl) (by kernel_rfl) fun hA => ?_
  have hfl : fl ≤ A.next := hA.floor
  have hfl1 : fl ≤ A.next + 1 := by omega
  have hd : decide (a ≤ b) = true := decide_eq_true h.le
  have hrb := prV_rb A.next a b
  rw [prV_def] at hrb ⊢
  simp only [↓R1, R2, R3, R4, TY, reduceIte, Nat.reduceEqDiff, Nat.reduceAdd, Nat.reduceMul, Nat.reduceLT, Nat.reduceLeDiff, reduceCtorEq, decide_true, decide_false, Int.reduceLE, Int.reduceLT, Int.reduceToNat, Int.reduceAdd, Int.reduceSub, Int.reduceMul, Int.reduceEq, hfl, hfl1]
  refine call_of (sgood (a := a) (b := b) hG h.low h.high hk) ?_
  rw [hd]
  simp only [↓R1, R2, R3, R4, TY, reduceIte, Nat.reduceEqDiff, Nat.reduceAdd, Nat.reduceMul, Nat.reduceLT, Nat.reduceLeDiff, reduceCtorEq, decide_true, decide_false, Int.reduceLE, Int.reduceLT, Int.reduceToNat, Int.reduceAdd, Int.reduceSub, Int.reduceMul, Int.reduceEq, hfl, hfl1, NE]
  exact Ended.back hA (by simp (maxDischargeDepth := 20) only [xt_push, xt_put, xt_refl, Nat.le_refl, Nat.le_add_right]) rfl hrb

theorem sof {a : Rat} {k : Nat} (hG : G 1 = some tabV) (h : Rz a k) (hk : k ≤ 10000000000) : Sound Tryd.prog G 56 [ratV a] fl A (prV a a) A := by
  refine Sound.of mixed Tryd.func56 Tryd.ntmps56 Tryd.results56 (by kernel_rfl) rfl (by kernel_rfl) (by kernel_rfl) fun hA => ?_
  have hfl : fl ≤ A.next := hA.floor
  have hfl1 : fl ≤ A.next + 1 := by omega
  have hrb := prV_rb A.next a a
  have hmin : rmin a a = a := by unfold rmin; split <;> rfl
  have hm := fun fl A => qmin (G := G) (fl := fl) (A := A) hG h h (by omega)
  rw [hmin, ratV_def] at hm
  rw [prV_def] at hrb ⊢
  rw [ratV_def]
  simp only [↓R1, R2, R3, R4, TY, reduceIte, Nat.reduceEqDiff, Nat.reduceAdd, Nat.reduceMul, Nat.reduceLT, Nat.reduceLeDiff, reduceCtorEq, decide_true, decide_false, Int.reduceLE, Int.reduceLT, Int.reduceToNat, Int.reduceAdd, Int.reduceSub, Int.reduceMul, Int.reduceEq, hfl, hfl1, NE]
  refine call_of (hm _ _) ?_
  simp only [↓R1, R2, R3, R4, TY, reduceIte, Nat.reduceEqDiff, Nat.reduceAdd, Nat.reduceMul, Nat.reduceLT, Nat.reduceLeDiff, reduceCtorEq, decide_true, decide_false, Int.reduceLE, Int.reduceLT, Int.reduceToNat, Int.reduceAdd, Int.reduceSub, Int.reduceMul, Int.reduceEq, hfl, hfl1, NE]
  exact Ended.back hA (by simp (maxDischargeDepth := 20) only [xt_push, xt_put, xt_refl, Nat.le_refl, Nat.le_add_right]) rfl hrb

theorem sjoin {a b c d : Rat} {j k : Nat} (hG : G 1 = some tabV) (h : Sp a b j) (h' : Sp c d k) (hk : j + k ≤ 10000000000) : Sound Tryd.prog G 100 [prV a b, prV c d] fl A (prV (rmin a c) (rmax b d)) A := by
  refine Sound.of mixed Tryd.func100 Tryd.ntmps100 Tryd.results100 (by kernel_rfl) rfl (by kernel_rfl) (by kernel_rfl) fun hA => ?_
  have hfl : fl ≤ A.next := by have := hA.floor; omega
  have hfl1 : fl ≤ A.next + 1 := by have := hA.floor; omega
  have hfl2 : fl ≤ A.next + 2 := by have := hA.floor; omega
  have hfl3 : fl ≤ A.next + 3 := by have := hA.floor; omega
  have hfl4 : fl ≤ A.next + 4 := by have := hA.floor; omega
  have hfl5 : fl ≤ A.next + 5 := by have := hA.floor; omega
  have hfl6 : fl ≤ A.next + 6 := by have := hA.floor; omega
  have f1 := fun fl A => sfit (G := G) (fl := fl) (A := A) hG h (by omega)
  have f2 := fun fl A => sfit (G := G) (fl := fl) (A := A) hG h' (by omega)
  have o1 := fun fl A => qmin (G := G) (fl := fl) (A := A) hG h.low h'.low (by omega)
  have o2 := fun fl A => qmax (G := G) (fl := fl) (A := A) hG h.high h'.high (by omega)
  have hrb := prV_rb A.next (rmin a c) (rmax b d)
  rw [ratV_def (rmin a c)] at o1
  rw [ratV_def (rmax b d)] at o2
  rw [prV_def] at f1 f2
  rw [prV_def] at hrb ⊢
  rw [prV_def, prV_def]
  simp only [↓R1, R2, R3, R4, TY, reduceIte, Nat.reduceEqDiff, Nat.reduceAdd, Nat.reduceMul, Nat.reduceLT, Nat.reduceLeDiff, reduceCtorEq, decide_true, decide_false, Int.reduceLE, Int.reduceLT, Int.reduceToNat, Int.reduceAdd, Int.reduceSub, Int.reduceMul, Int.reduceEq, hfl, hfl1, hfl2, hfl3, hfl4, hfl5, hfl6, NE]
  refine call_of (f1 _ _) ?_
  simp only [↓R1, R2, R3, R4, TY, reduceIte, Nat.reduceEqDiff, Nat.reduceAdd, Nat.reduceMul, Nat.reduceLT, Nat.reduceLeDiff, reduceCtorEq, decide_true, decide_false, Int.reduceLE, Int.reduceLT, Int.reduceToNat, Int.reduceAdd, Int.reduceSub, Int.reduceMul, Int.reduceEq, hfl, hfl1, hfl2, hfl3, hfl4, hfl5, hfl6, NE]
  refine call_of (f2 _ _) ?_
  simp only [↓R1, R2, R3, R4, TY, reduceIte, Nat.reduceEqDiff, Nat.reduceAdd, Nat.reduceMul, Nat.reduceLT, Nat.reduceLeDiff, reduceCtorEq, decide_true, decide_false, Int.reduceLE, Int.reduceLT, Int.reduceToNat, Int.reduceAdd, Int.reduceSub, Int.reduceMul, Int.reduceEq, hfl, hfl1, hfl2, hfl3, hfl4, hfl5, hfl6, NE]
  rw [floOf_wr (by kernel_rfl)]
  simp only [↓R1, R2, R3, R4, TY, reduceIte, Nat.reduceEqDiff, Nat.reduceAdd, Nat.reduceMul, Nat.reduceLT, Nat.reduceLeDiff, reduceCtorEq, decide_true, decide_false, Int.reduceLE, Int.reduceLT, Int.reduceToNat, Int.reduceAdd, Int.reduceSub, Int.reduceMul, Int.reduceEq, hfl, hfl1, hfl2, hfl3, hfl4, hfl5, hfl6, NE]
  rw [floOf_wr (by kernel_rfl)]
  simp only [↓R1, R2, R3, R4, TY, reduceIte, Nat.reduceEqDiff, Nat.reduceAdd, Nat.reduceMul, Nat.reduceLT, Nat.reduceLeDiff, reduceCtorEq, decide_true, decide_false, Int.reduceLE, Int.reduceLT, Int.reduceToNat, Int.reduceAdd, Int.reduceSub, Int.reduceMul, Int.reduceEq, hfl, hfl1, hfl2, hfl3, hfl4, hfl5, hfl6, NE]
  refine call_of (o1 _ _) ?_
  simp only [↓R1, R2, R3, R4, TY, reduceIte, Nat.reduceEqDiff, Nat.reduceAdd, Nat.reduceMul, Nat.reduceLT, Nat.reduceLeDiff, reduceCtorEq, decide_true, decide_false, Int.reduceLE, Int.reduceLT, Int.reduceToNat, Int.reduceAdd, Int.reduceSub, Int.reduceMul, Int.reduceEq, hfl, hfl1, hfl2, hfl3, hfl4, hfl5, hfl6, NE]
  refine call_of (o2 _ _) ?_
  simp only [↓R1, R2, R3, R4, TY, reduceIte, Nat.reduceEqDiff, Nat.reduceAdd, Nat.reduceMul, Nat.reduceLT, Nat.reduceLeDiff, reduceCtorEq, decide_true, decide_false, Int.reduceLE, Int.reduceLT, Int.reduceToNat, Int.reduceAdd, Int.reduceSub, Int.reduceMul, Int.reduceEq, hfl, hfl1, hfl2, hfl3, hfl4, hfl5, hfl6, NE]
  rw [floOf_wr (by kernel_rfl)]
  simp only [↓R1, R2, R3, R4, TY, reduceIte, Nat.reduceEqDiff, Nat.reduceAdd, Nat.reduceMul, Nat.reduceLT, Nat.reduceLeDiff, reduceCtorEq, decide_true, decide_false, Int.reduceLE, Int.reduceLT, Int.reduceToNat, Int.reduceAdd, Int.reduceSub, Int.reduceMul, Int.reduceEq, hfl, hfl1, hfl2, hfl3, hfl4, hfl5, hfl6, NE]
  refine Ended.back hA ?_ rfl hrb
  simp (maxDischargeDepth := 20) only [xt_push, xt_put, xt_refl, Nat.le_refl, Nat.le_add_right, Nat.add_assoc, Nat.reduceAdd]

theorem shas {a b c : Rat} {j k : Nat} (hG : G 1 = some tabV) (h : Sp a b j) (hc : Rz c k) (hk : j + k ≤ 10000000000) : Sound Tryd.prog G 50 [prV a b, ratV c] fl A (.bool (decide (a ≤ c ∧ c ≤ b))) A := by
  refine Sound.of mixed Tryd.func50 Tryd.ntmps50 Tryd.results50 (by kernel_rfl) rfl (by kernel_rfl) (by kernel_rfl) fun hA => ?_
  have hfl : fl ≤ A.next := by have := hA.floor; omega
  have hfl1 : fl ≤ A.next + 1 := by have := hA.floor; omega
  have hfl2 : fl ≤ A.next + 2 := by have := hA.floor; omega
  have hfl3 : fl ≤ A.next + 3 := by have := hA.floor; omega
  have hfl4 : fl ≤ A.next + 4 := by have := hA.floor; omega
  have hfl5 : fl ≤ A.next + 5 := by have := hA.floor; omega
  have hfl6 : fl ≤ A.next + 6 := by have := hA.floor; omega
  have f1 := fun fl A => sfit (G := G) (fl := fl) (A := A) hG h (by omega)
  have o1 := fun fl A => qcmp (G := G) (fl := fl) (A := A) hG h.low hc (by omega)
  have o2 := fun fl A => qcmp (G := G) (fl := fl) (A := A) hG hc h.high (by omega)
  rw [prV_def] at f1
  rw [prV_def, ratV_def]
  simp only [↓R1, R2, R3, R4, TY, reduceIte, Nat.reduceEqDiff, Nat.reduceAdd, Nat.reduceMul, Nat.reduceLT, Nat.reduceLeDiff, reduceCtorEq, decide_true, decide_false, Int.reduceLE, Int.reduceLT, Int.reduceToNat, Int.reduceAdd, Int.reduceSub, Int.reduceMul, Int.reduceEq, hfl, hfl1, hfl2, hfl3, hfl4, hfl5, hfl6, NE, rcmp_le_iff]
  refine call_of (f1 _ _) ?_
  simp only [↓R1, R2, R3, R4, TY, reduceIte, Nat.reduceEqDiff, Nat.reduceAdd, Nat.reduceMul, Nat.reduceLT, Nat.reduceLeDiff, reduceCtorEq, decide_true, decide_false, Int.reduceLE, Int.reduceLT, Int.reduceToNat, Int.reduceAdd, Int.reduceSub, Int.reduceMul, Int.reduceEq, hfl, hfl1, hfl2, hfl3, hfl4, hfl5, hfl6, NE, rcmp_le_iff]
  refine call_of (o1 _ _) ?_
  simp only [↓R1, R2, R3, R4, TY, reduceIte, Nat.reduceEqDiff, Nat.reduceAdd, Nat.reduceMul, Nat.reduceLT, Nat.reduceLeDiff, reduceCtorEq, decide_true, decide_false, Int.reduceLE, Int.reduceLT, Int.reduceToNat, Int.reduceAdd, Int.reduceSub, Int.reduceMul, Int.reduceEq, hfl, hfl1, hfl2, hfl3, hfl4, hfl5, hfl6, NE, rcmp_le_iff]
  refine ⟨fun h1 => ?_, fun h1 => ?_⟩
  · refine call_of (o2 _ _) ?_
    simp only [↓R1, R2, R3, R4, TY, reduceIte, Nat.reduceEqDiff, Nat.reduceAdd, Nat.reduceMul, Nat.reduceLT, Nat.reduceLeDiff, reduceCtorEq, decide_true, decide_false, Int.reduceLE, Int.reduceLT, Int.reduceToNat, Int.reduceAdd, Int.reduceSub, Int.reduceMul, Int.reduceEq, hfl, hfl1, hfl2, hfl3, hfl4, hfl5, hfl6, NE, rcmp_le_iff]
    refine Ended.back hA ?_ ?_ (RB.bool _)
    · simp (maxDischargeDepth := 20) only [xt_push, xt_put, xt_refl, Nat.le_refl, Nat.le_add_right, Nat.add_assoc, Nat.reduceAdd]
    · simp [h1]
  · refine Ended.back hA ?_ ?_ (RB.bool _)
    · simp (maxDischargeDepth := 20) only [xt_push, xt_put, xt_refl, Nat.le_refl, Nat.le_add_right, Nat.add_assoc, Nat.reduceAdd]
    · simp [h1]

end
end Go.Proofs.YtjkimjmocfjjnaaDoor.Ab

/- Spans: the least span around numbers; products. -/
namespace Go.Proofs.YtjkimjmocfjjnaaDoor.Ab
open Go.RowKit
set_option linter.unusedVariables false
set_option linter.unusedSimpArgs false
set_option maxRecDepth 100000

def ratC (q : Rat) : List Value := [.bool (decide (q.num < 0)), .string (S (nb q.num.natAbs)), .string (S (nb q.den))]
theorem ratC_length (q : Rat) : (ratC q).length = 3 := rfl
theorem flat3 {l : List Rat} {j : Nat} (h : j < l.length) (i : Nat) (hi : i < 3) : ((l.map ratC).flatten)[3 * j + i]? = (ratC l[j])[i]? := by
  induction l generalizing j with
  | nil => simp at h
  | cons a l ih =>
    cases j with
    | zero =>
      rw [List.map_cons, List.flatten_cons, Nat.mul_zero, Nat.zero_add, List.getElem?_append_left (by rw [ratC_length]; exact hi)]; rfl
    | succ j =>
      rw [List.map_cons, List.flatten_cons, List.getElem?_append_right (by rw [ratC_length]; omega), ratC_length, show 3 * (j + 1) + i - 3 = 3 * j + i by omega, ih (by simpa using h)]; rfl
theorem Rz.lo {l : List Rat} {k : Nat} : ∀ {r : Rat}, Rz r k → (∀ x ∈ l, Rz x k) → Rz (l.foldl rmin r) k := by
  induction l with
  | nil => intro r h _; exact h
  | cons a l ih => intro r h hl; exact ih (h.min (hl a (by simp))) fun x hx => hl x (by simp [hx])
theorem Rz.hi {l : List Rat} {k : Nat} : ∀ {r : Rat}, Rz r k → (∀ x ∈ l, Rz x k) → Rz (l.foldl rmax r) k := by
  induction l with
  | nil => intro r h _; exact h
  | cons a l ih => intro r h hl; exact ih (h.max (hl a (by simp))) fun x hx => hl x (by simp [hx])

section
variable {G : Gl} {fl : Nat} {A : Hp}

set_option maxHeartbeats 1000000 in
theorem saround {id n k : Nat} {r : Rat} {l : List Rat} (hG : G 1 = some tabV) (hid : id < A.next) (hn : l.length + 1 = n) (hb : A.blk id = some (.row (((r :: l).map ratC).flatten) 0 3)) (hr : Rz r k) (hl : ∀ x ∈ l, Rz x k) (hk : k ≤ 5000000000) (hnn : n ≤ 1000000) :
    Sound Tryd.prog G 103 [.slice (some ⟨id, 0, some 0⟩) n n] fl A (prV (l.foldl rmin r) (l.foldl rmax r)) A := by
  refine Sound.of mixed Tryd.func103 Tryd.ntmps103 Tryd.results103 (by kernel_rfl) rfl (by kernel_rfl) (by kernel_rfl) fun hA => ?_
  have hfl : fl ≤ A.next := hA.floor
  have hfl1 : fl ≤ A.next + 1 := by omega
  have hrb := prV_rb A.next (l.foldl rmin r) (l.foldl rmax r)
  have n0 : (0 : Int) < (n : Int) := by omega
  have n1 : 1 ≤ n := by omega
  have he : eszOK A id 3 := by simp [eszOK, hb]
  have g : ∀ i, i < 3 → A.get G ⟨id, i, some 0⟩ = (ratC r)[i]? := fun i hi => by
    simp only [Hp.get, hb, if_true]
    have := flat3 (l := r :: l) (j := 0) (by simp) i hi
    rw [Nat.mul_zero, Nat.zero_add] at this; exact this
  have g0 := g 0 (by omega)
  have g1 := g 1 (by omega)
  have g2 := g 2 (by omega)
  have ho := fun fl A => sof (G := G) (fl := fl) (A := A) hG hr (by omega)
  rw [prV_def] at ho
  rw [prV_def] at hrb ⊢
  have he2 : ∀ b, eszOK (A.push b) id 3 := fun b => by simp [eszOK, Hp.push_blk, Nat.ne_of_lt hid, hb]
  have hx2 : ∀ b i, i < 3 → (A.push b).get G ⟨id, i, some 0⟩ = (ratC r)[i]? := fun b i hi => by
    rw [← g i hi]; simp only [Hp.get, Hp.push_blk, Nat.ne_of_lt hid, if_false]
  have x0 := fun b => hx2 b 0 (by omega)
  have x1 := fun b => hx2 b 1 (by omega)
  have x2 := fun b => hx2 b 2 (by omega)
  simp only [↓R1, R2, R3, R4, TY, reduceIte, Nat.reduceEqDiff, Nat.reduceAdd, Nat.reduceMul, Nat.reduceLT, Nat.reduceLeDiff, reduceCtorEq, decide_true, decide_false, Int.reduceLE, Int.reduceLT, Int.reduceToNat, Int.reduceAdd, Int.reduceSub, Int.reduceMul, Int.reduceEq, hfl, hfl1, n0, n1, he, he2, x0, x1, x2, NE, ratC, List.getElem?_cons_zero, List.getElem?_cons_succ]
  refine call_of (ho _ _) ?_
  have he3 : ∀ b1 b2 b3, eszOK (((A.push b1).push b2).put (A.next + 1) b3) id 3 := fun b1 b2 b3 => by
    simp [eszOK, Hp.put_blk, Hp.push_blk, Nat.ne_of_lt hid, Nat.ne_of_lt (Nat.lt_succ_of_lt hid), hb]
  have hnl : n - 1 = l.length := by omega
  simp only [↓R1, R2, R3, R4, TY, reduceIte, Nat.reduceEqDiff, Nat.reduceAdd, Nat.reduceMul, Nat.reduceLT, Nat.reduceLeDiff, reduceCtorEq, decide_true, decide_false, Int.reduceLE, Int.reduceLT, Int.reduceToNat, Int.reduceAdd, Int.reduceSub, Int.reduceMul, Int.reduceEq, hfl, hfl1, n0, n1, he3, x0, x1, x2, NE, ratC, List.getElem?_cons_zero, List.getElem?_cons_succ, hnl]
  generalize hB : Hp.put _ (A.next + 1) _ = B
  have hBx : Xt A.next A B := by rw [← hB]; exact (((Xt.refl A).push _).push _).put (by omega) _
  have hBn : B.next = A.next + 2 := by rw [← hB]; rfl
  have hB0 : B.blk A.next = some (.row [.bool false, .string (S []), .string (S []), .bool false, .string (S []), .string (S [])] 0 6) := by rw [← hB]; simp [Hp.put_blk, Hp.push_blk]
  have hB1 : B.blk (A.next + 1) = some (.row (ratC r ++ ratC r) 0 6) := by rw [← hB, Hp.put_blk, if_pos rfl]; rfl
  clear hB
  refine range_of 13 l.length (fun j τ C => Xt A.next A C ∧ C.next = A.next + 2 + j ∧ C.blk A.next = some (.row [.bool false, .string (S []), .string (S []), .bool false, .string (S []), .string (S [])] 0 6) ∧ C.blk (A.next + 1) = some (.row (ratC ((l.take j).foldl rmin r) ++ ratC ((l.take j).foldl rmax r)) 0 6) ∧
    τ 2 = some (.pointer (some ⟨A.next, 0, some 0⟩)) ∧ τ 3 = some (.pointer (some ⟨A.next + 1, 0, some 0⟩)) ∧ τ 11 = some (.slice (some ⟨id, 3, some 0⟩) l.length l.length) ∧ τ 12 = some (.int .i64 l.length) ∧ τ 13 = some (.int .i64 j)) ?_ ?_
  · exact ⟨hBx, hBn, hB0, by simpa using hB1, rfl, rfl, rfl, rfl, rfl⟩
  rintro j τ C hj ⟨hCx, hCn, hC0, hC1, q2, q3, q11, q12, q13⟩
  simp only [↓R1, R2, R3, R4, TY, reduceIte, Nat.reduceEqDiff, Nat.reduceAdd, Nat.reduceMul, Nat.reduceLT, Nat.reduceLeDiff, reduceCtorEq, decide_true, decide_false, Int.reduceLE, Int.reduceLT, Int.reduceToNat, Int.reduceAdd, Int.reduceSub, Int.reduceMul, Int.reduceEq, q2, q3, q11, q12, q13]
  refine ⟨fun hlt => ?_, fun hlt => ?_⟩
  · have hj63 : j < 9223372036854775807 := by omega
    have hx : Rz l[j] k := hl _ (List.getElem_mem hlt)
    have hbC : C.blk id = some (.row (((r :: l).map ratC).flatten) 0 3) := by rw [hCx.blk _ hid]; exact hb
    have hlt' : (j : Int) < (l.length : Int) := by omega
    have d : ∀ i, i < 3 → C.get G ⟨id, 3 * (j + 1) + i, some 0⟩ = (ratC l[j])[i]? := fun i hi => by
      simp only [Hp.get, hbC, if_true]
      exact flat3 (l := r :: l) (j := j + 1) (by simp; omega) i hi
    have d0 : C.get G ⟨id, 3 + j * 3, some 0⟩ = some (.bool (decide (l[j].num < 0))) := by have := d 0 (by omega); rwa [show 3 * (j + 1) + 0 = 3 + j * 3 by omega] at this
    have d1 : C.get G ⟨id, 3 + j * 3 + 1, some 0⟩ = some (.string (S (nb l[j].num.natAbs))) := by have := d 1 (by omega); rwa [show 3 * (j + 1) + 1 = 3 + j * 3 + 1 by omega] at this
    have d2 : C.get G ⟨id, 3 + j * 3 + 2, some 0⟩ = some (.string (S (nb l[j].den))) := by have := d 2 (by omega); rwa [show 3 * (j + 1) + 2 = 3 + j * 3 + 2 by omega] at this
    have gC : ∀ i, C.get G ⟨A.next + 1, i, some 0⟩ = (ratC ((l.take j).foldl rmin r) ++ ratC ((l.take j).foldl rmax r))[i]? := fun i => by simp only [Hp.get, hC1, if_true]
    have e1 : (A.next + 1 = A.next + 2 + j) = False := eq_false (by omega)
    have e2 : (A.next + 2 + j = A.next + 1) = False := eq_false (by omega)
    have hf2 : fl ≤ A.next + 2 + j := by omega
    have hRl : Rz ((l.take j).foldl rmin r) k := hr.lo fun x hx => hl x (List.mem_of_mem_take hx)
    have hRh : Rz ((l.take j).foldl rmax r) k := hr.hi fun x hx => hl x (List.mem_of_mem_take hx)
    have hts : l.take (j + 1) = l.take j ++ [l[j]] := List.take_succ_eq_append_getElem hlt
    generalize hlo : (l.take j).foldl rmin r = lo at *
    generalize hhi : (l.take j).foldl rmax r = hi' at *
    generalize hx' : l[j] = x at *
    have m1 := fun fl A => qmin (G := G) (fl := fl) (A := A) hG hRl hx (by omega)
    have m2 := fun fl A => qmax (G := G) (fl := fl) (A := A) hG hRh hx (by omega)
    rw [ratV_def (rmin lo x)] at m1
    rw [ratV_def (rmax hi' x)] at m2
    simp only [↓R1, R2, R3, R4, TY, reduceIte, Nat.reduceEqDiff, Nat.reduceAdd, Nat.reduceMul, Nat.reduceLT, Nat.reduceLeDiff, reduceCtorEq, decide_true, decide_false, Int.reduceLE, Int.reduceLT, Int.reduceToNat, Int.reduceAdd, Int.reduceSub, Int.reduceMul, Int.reduceEq, q2, q3, q11, q12, q13, hlt, hj63, d0, d1, d2, gC, hC1, hCn, e1, e2, hfl, hfl1, hf2, NE, ratC, List.cons_append, List.nil_append, List.getElem?_cons_zero, List.getElem?_cons_succ]
    refine call_of (m1 _ _) ?_
    simp only [↓R1, R2, R3, R4, TY, reduceIte, Nat.reduceEqDiff, Nat.reduceAdd, Nat.reduceMul, Nat.reduceLT, Nat.reduceLeDiff, reduceCtorEq, decide_true, decide_false, Int.reduceLE, Int.reduceLT, Int.reduceToNat, Int.reduceAdd, Int.reduceSub, Int.reduceMul, Int.reduceEq, q2, q3, q11, q12, q13, hlt, hj63, d0, d1, d2, gC, hC1, hCn, e1, e2, hfl, hfl1, hf2, NE, ratC, List.cons_append, List.nil_append, List.getElem?_cons_zero, List.getElem?_cons_succ]
    refine call_of (m2 _ _) ?_
    simp only [↓R1, R2, R3, R4, TY, reduceIte, Nat.reduceEqDiff, Nat.reduceAdd, Nat.reduceMul, Nat.reduceLT, Nat.reduceLeDiff, reduceCtorEq, decide_true, decide_false, Int.reduceLE, Int.reduceLT, Int.reduceToNat, Int.reduceAdd, Int.reduceSub, Int.reduceMul, Int.reduceEq, q2, q3, q11, q12, q13, hlt, hj63, d0, d1, d2, gC, hC1, hCn, e1, e2, hfl, hfl1, hf2, NE, ratC, List.cons_append, List.nil_append, List.getElem?_cons_zero, List.getElem?_cons_succ]
    rw [floOf_wr (by kernel_rfl)]
    simp only [↓R1, R2, R3, R4, TY, reduceIte, Nat.reduceEqDiff, Nat.reduceAdd, Nat.reduceMul, Nat.reduceLT, Nat.reduceLeDiff, reduceCtorEq, decide_true, decide_false, Int.reduceLE, Int.reduceLT, Int.reduceToNat, Int.reduceAdd, Int.reduceSub, Int.reduceMul, Int.reduceEq, q2, q3, q11, q12, q13, hlt, hj63, d0, d1, d2, gC, hC1, hCn, e1, e2, hfl, hfl1, hf2, NE, ratC, List.cons_append, List.nil_append, List.getElem?_cons_zero, List.getElem?_cons_succ]
    rw [floOf_wr (by kernel_rfl)]
    simp only [↓R1, R2, R3, R4, TY, reduceIte, Nat.reduceEqDiff, Nat.reduceAdd, Nat.reduceMul, Nat.reduceLT, Nat.reduceLeDiff, reduceCtorEq, decide_true, decide_false, Int.reduceLE, Int.reduceLT, Int.reduceToNat, Int.reduceAdd, Int.reduceSub, Int.reduceMul, Int.reduceEq, q2, q3, q11, q12, q13, hlt, hj63, d0, d1, d2, gC, hC1, hCn, e1, e2, hfl, hfl1, hf2, NE, ratC, List.cons_append, List.nil_append, List.getElem?_cons_zero, List.getElem?_cons_succ]
    have e3 : (A.next = A.next + 2 + j) = False := eq_false (by omega)
    have e4 : (A.next = A.next + 1) = False := eq_false (by omega)
    refine range_on q13 hlt rfl ⟨?_, ?_, ?_, ?_, q2, q3, q11, q12, rfl⟩
    · simp (maxDischargeDepth := 20) only [xt_push, xt_put, hCx, Nat.le_refl, Nat.le_add_right, Nat.add_assoc]
    · simp only [Hp.put_next, Hp.push_next, hCn]; omega
    · simp only [Hp.put_blk, Hp.push_blk, hCn, e3, e4, if_false]; exact hC0
    · simp only [Hp.put_blk, if_true]
      rw [hts, List.foldl_append, List.foldl_append, hlo, hhi]
      rfl
  · have gC : ∀ i, C.get G ⟨A.next + 1, i, some 0⟩ = (ratC ((l.take j).foldl rmin r) ++ ratC ((l.take j).foldl rmax r))[i]? := fun i => by simp only [Hp.get, hC1, if_true]
    obtain rfl : j = l.length := by omega
    rw [List.take_length] at gC
    simp only [↓R1, R2, R3, R4, TY, reduceIte, Nat.reduceEqDiff, Nat.reduceAdd, Nat.reduceMul, Nat.reduceLT, Nat.reduceLeDiff, reduceCtorEq, decide_true, decide_false, Int.reduceLE, Int.reduceLT, Int.reduceToNat, Int.reduceAdd, Int.reduceSub, Int.reduceMul, Int.reduceEq, q2, q3, gC, hC0, hfl, hfl1, ratC, List.cons_append, List.nil_append, List.getElem?_cons_zero, List.getElem?_cons_succ, NE]
    refine Ended.back hA ?_ rfl hrb
    exact hCx.put (Nat.le_refl _) _
end
end Go.Proofs.YtjkimjmocfjjnaaDoor.Ab

/- Spans: products, squares, quotients. -/
namespace Go.Proofs.YtjkimjmocfjjnaaDoor.Ab
open Go.RowKit
set_option linter.unusedVariables false
set_option linter.unusedSimpArgs false
set_option maxRecDepth 100000

def smlo (a b c d : Rat) : Rat := rmin (rmin (rmin (a * c) (a * d)) (b * c)) (b * d)
def smhi (a b c d : Rat) : Rat := rmax (rmax (rmax (a * c) (a * d)) (b * c)) (b * d)

theorem smlo_eq (a b c d : Rat) : smlo a b c d = List.foldl rmin (a * c) [a * d, b * c, b * d] := by unfold smlo; simp only [List.foldl_cons, List.foldl_nil]
theorem smhi_eq (a b c d : Rat) : smhi a b c d = List.foldl rmax (a * c) [a * d, b * c, b * d] := by unfold smhi; simp only [List.foldl_cons, List.foldl_nil]
theorem push_at {A : Hp} {b : Blk} {i : Nat} (h : i = A.next) : (A.push b).blk i = some b := by rw [Hp.push_blk, if_pos h]
theorem zl_len {l : List Value} {n : Nat} : (zl l n).length = n := by simp [zl]
theorem set4r (z : List Value) (hz : z.length = 12) (p q r s : Rat) : (((((((((((z.set 0 (.bool (decide (p.num < 0)))).set 1 (.string (S (nb p.num.natAbs)))).set 2 (.string (S (nb p.den)))).set 3 (.bool (decide (q.num < 0)))).set 4 (.string (S (nb q.num.natAbs)))).set 5 (.string (S (nb q.den)))).set 6 (.bool (decide (r.num < 0)))).set 7 (.string (S (nb r.num.natAbs)))).set 8 (.string (S (nb r.den)))).set 9 (.bool (decide (s.num < 0)))).set 10 (.string (S (nb s.num.natAbs)))).set 11 (.string (S (nb s.den))) = ([p, q, r, s].map ratC).flatten := by
  match z, hz with
  | [_, _, _, _, _, _, _, _, _, _, _, _], _ => rfl

section
variable {G : Gl} {fl : Nat} {A : Hp}

end
end Go.Proofs.YtjkimjmocfjjnaaDoor.Ab

/- Spans: squares, quotients, Make. -/
namespace Go.Proofs.YtjkimjmocfjjnaaDoor.Ab
open Go.RowKit
set_option linter.unusedVariables false
set_option linter.unusedSimpArgs false
set_option maxRecDepth 100000

def sqlo (a b : Rat) : Rat := if a ≤ 0 ∧ 0 ≤ b then 0 else rmin (a * a) (b * b)
def sqhi (a b : Rat) : Rat := rmax (a * a) (b * b)
theorem set2r (z : List Value) (hz : z.length = 6) (p q : Rat) : (((((z.set 0 (.bool (decide (p.num < 0)))).set 1 (.string (S (nb p.num.natAbs)))).set 2 (.string (S (nb p.den)))).set 3 (.bool (decide (q.num < 0)))).set 4 (.string (S (nb q.num.natAbs)))).set 5 (.string (S (nb q.den))) = ([p, q].map ratC).flatten := by
  match z, hz with
  | [_, _, _, _, _, _], _ => rfl
theorem fold2 (f : Rat → Rat → Rat) (p q : Rat) : f p q = List.foldl f p [q] := by simp only [List.foldl_cons, List.foldl_nil]
theorem rOf_zero : rOf 0 = 0 := rfl

theorem ne9_4 {n : Nat} : (n + 4 = n) = False := eq_false (by omega)
theorem ne9_4' {n : Nat} : (n = n + 4) = False := eq_false (by omega)
theorem ne9_5 {n : Nat} : (n + 5 = n) = False := eq_false (by omega)
theorem ne9_5' {n : Nat} : (n = n + 5) = False := eq_false (by omega)
theorem ne9_6 {n : Nat} : (n + 6 = n) = False := eq_false (by omega)
theorem ne9_6' {n : Nat} : (n = n + 6) = False := eq_false (by omega)
theorem ne9_7 {n : Nat} : (n + 7 = n) = False := eq_false (by omega)
theorem ne9_7' {n : Nat} : (n = n + 7) = False := eq_false (by omega)
theorem ne9_8 {n : Nat} : (n + 8 = n) = False := eq_false (by omega)
theorem ne9_8' {n : Nat} : (n = n + 8) = False := eq_false (by omega)
theorem ne9_9 {n : Nat} : (n + 9 = n) = False := eq_false (by omega)
theorem ne9_9' {n : Nat} : (n = n + 9) = False := eq_false (by omega)
theorem ne9_10 {n : Nat} : (n + 10 = n) = False := eq_false (by omega)
theorem ne9_10' {n : Nat} : (n = n + 10) = False := eq_false (by omega)
theorem ne9_11 {n : Nat} : (n + 11 = n) = False := eq_false (by omega)
theorem ne9_11' {n : Nat} : (n = n + 11) = False := eq_false (by omega)
set_option linter.defProp false in
def NE9 := And.intro @ne9_4 (And.intro @ne9_5 (And.intro @ne9_6 (And.intro @ne9_7 (And.intro @ne9_8 (And.intro @ne9_9 (And.intro @ne9_10 (And.intro @ne9_11 (And.intro @ne9_4' (And.intro @ne9_5' (And.intro @ne9_6' (And.intro @ne9_7' (And.intro @ne9_8' (And.intro @ne9_9' (And.intro @ne9_10' (@ne9_11')))))))))))))))
theorem inv_le_pos {c d : Rat} (hc : 0 < c) (h : c ≤ d) : 1 / d ≤ 1 / c := by
  have hd : 0 < d := by grind
  have hu : 0 < c⁻¹ := Rat.inv_pos.2 hc
  have hv : 0 < d⁻¹ := Rat.inv_pos.2 hd
  have h1 : 0 ≤ (d - c) * (c⁻¹ * d⁻¹) := Rat.mul_nonneg (by grind) (Rat.le_of_lt (Rat.mul_pos hu hv))
  have e : (d - c) * (c⁻¹ * d⁻¹) = 1 / c - 1 / d := by grind
  rw [e] at h1
  grind
theorem inv_le_neg {c d : Rat} (hd : d < 0) (h : c ≤ d) : 1 / d ≤ 1 / c := by
  have h1 := inv_le_pos (c := -d) (d := -c) (by grind) (by grind)
  have e1 : 1 / -c = -(1 / c) := by grind
  have e2 : 1 / -d = -(1 / d) := by grind
  rw [e1, e2] at h1
  grind
theorem inv_le {c d : Rat} (h : c ≤ d) (hz : ¬ rsign c * rsign d ≤ 0) : 1 / d ≤ 1 / c := by
  rw [rsign_eq, rsign_eq] at hz
  by_cases hc : 0 < c
  · exact inv_le_pos hc h
  · by_cases hd : d < 0
    · exact inv_le_neg hd h
    · refine absurd ?_ hz
      by_cases hc0 : c = 0
      · rw [if_pos hc0, Int.zero_mul]; omega
      · by_cases hd0 : d = 0
        · rw [show (if d = 0 then (0 : Int) else if d < 0 then -1 else 1) = 0 from if_pos hd0, Int.mul_zero]; omega
        · rw [if_neg hc0, if_pos (by grind), if_neg hd0, if_neg hd]; omega

section
variable {G : Gl} {fl : Nat} {A : Hp}

set_option maxHeartbeats 2000000 in
theorem ssq {a b : Rat} {k : Nat} (hG : G 1 = some tabV) (h : Sp a b k) (hk : 2 * k ≤ 5000000000) : Sound Tryd.prog G 98 [prV a b] fl A (prV (sqlo a b) (sqhi a b)) A := by
  refine Sound.of mixed Tryd.func98 Tryd.ntmps98 Tryd.results98 (by kernel_rfl) rfl (by kernel_rfl) (by kernel_rfl) fun hA => ?_
  have hfl : fl ≤ A.next := by have := hA.floor; omega
  have hfl1 : fl ≤ A.next + 1 := by have := hA.floor; omega
  have hfl2 : fl ≤ A.next + 2 := by have := hA.floor; omega
  have hfl3 : fl ≤ A.next + 3 := by have := hA.floor; omega
  have hfl4 : fl ≤ A.next + 4 := by have := hA.floor; omega
  have hfl5 : fl ≤ A.next + 5 := by have := hA.floor; omega
  have hfl6 : fl ≤ A.next + 6 := by have := hA.floor; omega
  have f1 := fun fl A => sfit (G := G) (fl := fl) (A := A) hG h (by omega)
  have o1 := fun fl A => qmul (G := G) (fl := fl) (A := A) hG h.low h.low (by omega)
  have o2 := fun fl A => qmul (G := G) (fl := fl) (A := A) hG h.high h.high (by omega)
  have z0 := fun fl A => rof_ok (G := G) (fl := fl) (A := A) (n := 0) (by decide) (by decide)
  have ha := fun fl A => shas (G := G) (fl := fl) (A := A) hG h (Rz.of (n := 0) (k := 1) (by simp [nb_zero]) (Nat.le_refl _)) (by omega)
  have hrb := prV_rb A.next (sqlo a b) (sqhi a b)
  rw [ratV_def (a * a)] at o1
  rw [ratV_def (b * b)] at o2
  rw [prV_def] at f1 ha
  rw [ratV_def] at ha
  rw [rOf_zero] at z0 ha
  rw [ratV_def] at z0
  rw [prV_def] at hrb ⊢
  rw [prV_def]
  simp only [↓R1, R2, R3, R4, TY, reduceIte, Nat.reduceEqDiff, Nat.reduceAdd, Nat.reduceMul, Nat.reduceLT, Nat.reduceLeDiff, reduceCtorEq, decide_true, decide_false, Int.reduceLE, Int.reduceLT, Int.reduceToNat, Int.reduceAdd, Int.reduceSub, Int.reduceMul, Int.reduceEq, hfl, hfl1, hfl2, hfl3, hfl4, hfl5, hfl6, NE, zl_len, List.length_set]
  refine call_of (f1 _ _) ?_
  simp only [↓R1, R2, R3, R4, TY, reduceIte, Nat.reduceEqDiff, Nat.reduceAdd, Nat.reduceMul, Nat.reduceLT, Nat.reduceLeDiff, reduceCtorEq, decide_true, decide_false, Int.reduceLE, Int.reduceLT, Int.reduceToNat, Int.reduceAdd, Int.reduceSub, Int.reduceMul, Int.reduceEq, hfl, hfl1, hfl2, hfl3, hfl4, hfl5, hfl6, NE, zl_len, List.length_set]
  refine call_of (o1 _ _) ?_
  simp only [↓R1, R2, R3, R4, TY, reduceIte, Nat.reduceEqDiff, Nat.reduceAdd, Nat.reduceMul, Nat.reduceLT, Nat.reduceLeDiff, reduceCtorEq, decide_true, decide_false, Int.reduceLE, Int.reduceLT, Int.reduceToNat, Int.reduceAdd, Int.reduceSub, Int.reduceMul, Int.reduceEq, hfl, hfl1, hfl2, hfl3, hfl4, hfl5, hfl6, NE, zl_len, List.length_set]
  refine call_of (o2 _ _) ?_
  simp only [↓R1, R2, R3, R4, TY, reduceIte, Nat.reduceEqDiff, Nat.reduceAdd, Nat.reduceMul, Nat.reduceLT, Nat.reduceLeDiff, reduceCtorEq, decide_true, decide_false, Int.reduceLE, Int.reduceLT, Int.reduceToNat, Int.reduceAdd, Int.reduceSub, Int.reduceMul, Int.reduceEq, hfl, hfl1, hfl2, hfl3, hfl4, hfl5, hfl6, NE, zl_len, List.length_set]
  have r1 := h.low.mul h.low
  have r2 := h.high.mul h.high
  generalize hB : Hp.push (Hp.put _ A.next _) _ = B
  have hB1 : B.blk (A.next + 1 + 1) = some (.row (((a * a :: [b * b]).map ratC).flatten) 0 3) := by
    rw [← hB]; exact (push_at rfl).trans (congrArg (fun c => some (Blk.row c 0 3)) (set2r _ zl_len _ _))
  have hBn : B.next = A.next + 3 := by rw [← hB]; rfl
  have hBx : Xt A.next A B := by
    rw [← hB]
    simp (maxDischargeDepth := 20) only [xt_push, xt_put, xt_refl, Nat.le_refl, Nat.le_add_right, Nat.add_assoc, Nat.reduceAdd]
  have hB2 : B.blk (A.next + 1) = some (.row [.bool false, .string (S []), .string (S []), .bool false, .string (S []), .string (S [])] 0 6) := by
    rw [← hB, Hp.push_blk, if_neg (by simp only [Hp.put_next, Hp.push_next]; omega), Hp.put_blk, if_neg (by omega)]; exact push_at rfl
  have hB0 : B.blk A.next = some (.row [.bool (decide (a.num < 0)), .string (S (nb a.num.natAbs)), .string (S (nb a.den)), .bool (decide (b.num < 0)), .string (S (nb b.num.natAbs)), .string (S (nb b.den))] 0 6) := by
    rw [← hB, Hp.push_blk, if_neg (by simp only [Hp.put_next, Hp.push_next]; omega), Hp.put_blk, if_pos rfl]
  clear hB
  have key : ∀ fl', Sound Tryd.prog G 103 [.slice (some ⟨A.next + 1 + 1, 0, some 0⟩) 2 2] fl' B (prV (rmin (a * a) (b * b)) (rmax (a * a) (b * b))) B := fun fl' => by
    rw [fold2 rmin, fold2 rmax]
    refine saround hG (by omega) (by simp) hB1 r1 ?_ (by omega) (by omega)
    simp only [List.mem_cons, List.not_mem_nil, or_false]
    rintro x h
    rw [h]; assumption
  rw [prV_def] at key
  have gB : ∀ i, B.get G ⟨A.next, i, some 0⟩ = ([.bool (decide (a.num < 0)), .string (S (nb a.num.natAbs)), .string (S (nb a.den)), .bool (decide (b.num < 0)), .string (S (nb b.num.natAbs)), .string (S (nb b.den))] : List Value)[i]? := fun i => by simp only [Hp.get, hB0, if_true]
  have x1 : (A.next = A.next + 3) = False := eq_false (by omega)
  have x2 : (A.next + 1 = A.next + 3) = False := eq_false (by omega)
  have x3 : (A.next + 3 = A.next + 1) = False := eq_false (by omega)
  refine call_of (key _) ?_
  simp only [↓R1, R2, R3, R4, TY, reduceIte, Nat.reduceEqDiff, Nat.reduceAdd, Nat.reduceMul, Nat.reduceLT, Nat.reduceLeDiff, reduceCtorEq, decide_true, decide_false, Int.reduceLE, Int.reduceLT, Int.reduceToNat, Int.reduceAdd, Int.reduceSub, Int.reduceMul, Int.reduceEq, hfl, hfl1, hfl2, hfl3, hfl4, hfl5, hfl6, NE, hBn, hB2, gB, x1, x2, x3, List.getElem?_cons_zero, List.getElem?_cons_succ]
  rw [floOf_wr (by kernel_rfl)]
  simp only [↓R1, R2, R3, R4, TY, reduceIte, Nat.reduceEqDiff, Nat.reduceAdd, Nat.reduceMul, Nat.reduceLT, Nat.reduceLeDiff, reduceCtorEq, decide_true, decide_false, Int.reduceLE, Int.reduceLT, Int.reduceToNat, Int.reduceAdd, Int.reduceSub, Int.reduceMul, Int.reduceEq, hfl, hfl1, hfl2, hfl3, hfl4, hfl5, hfl6, NE, hBn, hB2, gB, x1, x2, x3, List.getElem?_cons_zero, List.getElem?_cons_succ]
  refine call_of (z0 _ _) ?_
  simp only [↓R1, R2, R3, R4, TY, reduceIte, Nat.reduceEqDiff, Nat.reduceAdd, Nat.reduceMul, Nat.reduceLT, Nat.reduceLeDiff, reduceCtorEq, decide_true, decide_false, Int.reduceLE, Int.reduceLT, Int.reduceToNat, Int.reduceAdd, Int.reduceSub, Int.reduceMul, Int.reduceEq, hfl, hfl1, hfl2, hfl3, hfl4, hfl5, hfl6, NE, hBn, hB2, gB, x1, x2, x3, List.getElem?_cons_zero, List.getElem?_cons_succ]
  refine call_of (ha _ _) ?_
  simp only [↓R1, R2, R3, R4, TY, reduceIte, Nat.reduceEqDiff, Nat.reduceAdd, Nat.reduceMul, Nat.reduceLT, Nat.reduceLeDiff, reduceCtorEq, decide_true, decide_false, Int.reduceLE, Int.reduceLT, Int.reduceToNat, Int.reduceAdd, Int.reduceSub, Int.reduceMul, Int.reduceEq, hfl, hfl1, hfl2, hfl3, hfl4, hfl5, hfl6, NE, hBn, hB2, gB, x1, x2, x3, List.getElem?_cons_zero, List.getElem?_cons_succ]
  refine ⟨fun hz => ?_, fun hz => ?_⟩
  · have e : sqlo a b = 0 := if_pos hz
    rw [e] at hrb ⊢
    refine call_of (z0 _ _) ?_
    simp only [↓R1, R2, R3, R4, TY, reduceIte, Nat.reduceEqDiff, Nat.reduceAdd, Nat.reduceMul, Nat.reduceLT, Nat.reduceLeDiff, reduceCtorEq, decide_true, decide_false, Int.reduceLE, Int.reduceLT, Int.reduceToNat, Int.reduceAdd, Int.reduceSub, Int.reduceMul, Int.reduceEq, hfl, hfl1, hfl2, hfl3, hfl4, hfl5, hfl6, NE, hBn, hB2, gB, x1, x2, x3, List.getElem?_cons_zero, List.getElem?_cons_succ]
    refine Ended.back hA ?_ rfl hrb
    simp (maxDischargeDepth := 20) only [xt_push, xt_put, hBx, Nat.le_refl, Nat.le_add_right, Nat.add_assoc, Nat.reduceAdd]
  · have e : sqlo a b = rmin (a * a) (b * b) := if_neg hz
    rw [e] at hrb ⊢
    refine Ended.back hA ?_ rfl hrb
    simp (maxDischargeDepth := 20) only [xt_push, xt_put, hBx, Nat.le_refl, Nat.le_add_right, Nat.add_assoc, Nat.reduceAdd]

end
end Go.Proofs.YtjkimjmocfjjnaaDoor.Ab

/- Spans: comparison; made, part, num, spanBegun. -/
namespace Go.Proofs.YtjkimjmocfjjnaaDoor.Ab
open Go.RowKit
set_option linter.unusedVariables false
set_option linter.unusedSimpArgs false
set_option maxRecDepth 100000

theorem rmin_le_rmax (p q : Rat) : rmin p q ≤ rmax p q := rcmp_le_iff.1 (rminmax p q).1
/-- A part of the way from one end to the other. -/
def prt (a b : Rat) (k : Int) : Rat := a + ((below k 9 : Int) : Rat) / ((8 : Int) : Rat) * (b - a)
section
variable {G : Gl} {fl : Nat} {A : Hp}

end
end Go.Proofs.YtjkimjmocfjjnaaDoor.Ab
