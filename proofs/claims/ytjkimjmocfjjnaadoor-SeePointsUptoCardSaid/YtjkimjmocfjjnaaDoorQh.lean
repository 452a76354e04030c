/- Rational numbers as any bytes: each counts as one number, and is that number if it is good. -/
import Derived.Test.YtjkimjmocfjjnaaDoorQg
import Derived.Test.YtjkimjmocfjjnaaDoorVq
namespace Go.Proofs.YtjkimjmocfjjnaaDoor.Ab
open Go.RowKit
set_option linter.unusedVariables false
set_option linter.unusedSimpArgs false
set_option maxRecDepth 100000

section
variable {G : Gl} {fl : Nat} {A : Hp}

structure Raw (G : Gl) (n : Bool) (s d : List UInt8) (ok : Bool) (q : Rat) (k : Nat) : Prop where
  good : ∀ fl A, Sound Tryd.prog G 87 [.agg #[.bool n, .string (S s), .string (S d)]] fl A (.bool ok) A
  fit : ∀ fl A, Sound Tryd.prog G 57 [.agg #[.bool n, .string (S s), .string (S d)]] fl A (ratV q) A
  sz : Rz q k
  eq : ok = true → n = decide (q.num < 0) ∧ s = nb q.num.natAbs ∧ d = nb q.den
  zero : ok = false → q = 0

theorem fitFalse {n : Bool} {s d : List UInt8} (gd : ∀ fl A, Sound Tryd.prog G 87 [.agg #[.bool n, .string (S s), .string (S d)]] fl A (.bool false) A) :
    Sound Tryd.prog G 57 [.agg #[.bool n, .string (S s), .string (S d)]] fl A (ratV 0) A := by
  refine Sound.of mixed Tryd.func57 Tryd.ntmps57 Tryd.results57 (by kernel_rfl) rfl (by kernel_rfl) (by kernel_rfl) fun hA => ?_
  have hfl : fl ≤ A.next := hA.floor
  have hfl1 : fl ≤ A.next + 1 := by omega
  have zr := fun fl A => zero_ok (G := G) (fl := fl) (A := A)
  have hrb := ratV_rb A.next 0
  simp only [ratV_def] at zr hrb ⊢
  simp only [↓R1, R2, R3, R4, TY, reduceIte, Nat.reduceEqDiff, Nat.reduceAdd, Nat.reduceMul, Nat.reduceLT, Nat.reduceLeDiff, reduceCtorEq, decide_true, decide_false, Int.reduceLE, Int.reduceLT, Int.reduceToNat, Int.reduceAdd, Int.reduceSub, Int.reduceMul, Int.reduceEq, hfl, hfl1, NE]
  refine call_of (gd _ _) ?_
  simp only [↓R1, R2, R3, R4, TY, reduceIte, Nat.reduceEqDiff, Nat.reduceAdd, Nat.reduceMul, Nat.reduceLT, Nat.reduceLeDiff, reduceCtorEq, decide_true, decide_false, Int.reduceLE, Int.reduceLT, Int.reduceToNat, Int.reduceAdd, Int.reduceSub, Int.reduceMul, Int.reduceEq, hfl, hfl1, NE]
  refine call_of (zr _ _) ?_
  simp only [↓R1, R2, R3, R4, TY, reduceIte, Nat.reduceEqDiff, Nat.reduceAdd, Nat.reduceMul, Nat.reduceLT, Nat.reduceLeDiff, reduceCtorEq, decide_true, decide_false, Int.reduceLE, Int.reduceLT, Int.reduceToNat, Int.reduceAdd, Int.reduceSub, Int.reduceMul, Int.reduceEq, hfl, hfl1, NE]
  refine Ended.back hA ?_ rfl hrb
  simp (maxDischargeDepth := 20) only [xt_push, xt_put, xt_refl, Nat.le_refl, Nat.le_add_right]

theorem goodFalse {n : Bool} {s d : List UInt8} {k : Nat} (hG : G 1 = some tabV) (hs : s.length ≤ k) (hd : d.length ≤ k) (hk : k ≤ 40000000000)
    (hq : ¬ ∃ q : Rat, n = decide (q.num < 0) ∧ s = nb q.num.natAbs ∧ d = nb q.den) :
    Sound Tryd.prog G 87 [.agg #[.bool n, .string (S s), .string (S d)]] fl A (.bool false) A := by
  refine Sound.of mixed Tryd.func87 Tryd.ntmps87 Tryd.results87 (by kernel_rfl) rfl (by kernel_rfl) (by kernel_rfl) fun hA => ?_
  have hfl : fl ≤ A.next := hA.floor
  have fin : ∀ B, Xt A.next A B → Ended A (.bool false) B (.bool false) A := fun B hB => Ended.back hA hB rfl (RB.bool _)
  have hx := (Xt.refl A).push (.row [.bool n, .string (S s), .string (S d)] 0 3)
  by_cases h1 : d = []
  · subst h1
    simp only [↓R1, R2, R3, R4, TY, reduceIte, Nat.reduceEqDiff, Nat.reduceAdd, Nat.reduceMul, Nat.reduceLT, Nat.reduceLeDiff, reduceCtorEq, decide_true, decide_false, Int.reduceLE, Int.reduceLT, Int.reduceToNat, Int.reduceAdd, Int.reduceSub, Int.reduceMul, Int.reduceEq, S_inj, S_size]
    exact fin _ hx
  obtain ⟨b, l, rfl⟩ : ∃ b l, d = b :: l := by cases d with
    | nil => exact absurd rfl h1
    | cons b l => exact ⟨b, l, rfl⟩
  have hdf : ((b :: l) = ([] : List UInt8)) = False := eq_false (by simp)
  have hlen : ((0 : Int) < ((l.length + 1 : Nat) : Int)) = True := eq_true (by omega)
  have hbyte : byteAt (S (b :: l)) 0 = ((b.toNat : Nat) : Int) := rfl
  by_cases h2 : b = 0
  · have hbz : (((b.toNat : Nat) : Int) = 0) = True := eq_true (by rw [h2]; rfl)
    simp only [↓R1, R2, R3, R4, TY, reduceIte, Nat.reduceEqDiff, Nat.reduceAdd, Nat.reduceMul, Nat.reduceLT, Nat.reduceLeDiff, reduceCtorEq, decide_true, decide_false, Int.reduceLE, Int.reduceLT, Int.reduceToNat, Int.reduceAdd, Int.reduceSub, Int.reduceMul, Int.reduceEq, S_inj, S_size, hdf, hlen, hbyte, hbz]
    exact fin _ hx
  have hb0 : ¬ b.toNat = 0 := fun h => h2 (UInt8.toNat_inj.1 h)
  have hbz : (((b.toNat : Nat) : Int) = 0) = False := eq_false (by omega)
  have hdn : nb (nv (b :: l)) = b :: l := nb_nv _ (by rintro c m e; cases e; exact h2)
  have hd0 : nv (b :: l) ≠ 0 := fun h => by rw [h, nb_zero] at hdn; cases hdn
  by_cases h3 : s = []
  · subst h3
    cases n with
    | true =>
      simp only [↓R1, R2, R3, R4, TY, reduceIte, Nat.reduceEqDiff, Nat.reduceAdd, Nat.reduceMul, Nat.reduceLT, Nat.reduceLeDiff, reduceCtorEq, decide_true, decide_false, Int.reduceLE, Int.reduceLT, Int.reduceToNat, Int.reduceAdd, Int.reduceSub, Int.reduceMul, Int.reduceEq, S_inj, S_size, hdf, hlen, hbyte, hbz]
      exact fin _ hx
    | false =>
      have h4 : ((b :: l) = [(1 : UInt8)]) = False := eq_false (fun h => hq ⟨0, by rw [h]; exact ⟨rfl, nb_zero.symm, nb_one.symm⟩⟩)
      simp only [↓R1, R2, R3, R4, TY, reduceIte, Nat.reduceEqDiff, Nat.reduceAdd, Nat.reduceMul, Nat.reduceLT, Nat.reduceLeDiff, reduceCtorEq, decide_true, decide_false, Int.reduceLE, Int.reduceLT, Int.reduceToNat, Int.reduceAdd, Int.reduceSub, Int.reduceMul, Int.reduceEq, S_inj, S_size, hdf, hlen, hbyte, hbz, h4]
      exact fin _ hx
  obtain ⟨c, m, rfl⟩ : ∃ b l, s = b :: l := by cases s with
    | nil => exact absurd rfl h3
    | cons b l => exact ⟨b, l, rfl⟩
  have hsf : ((c :: m) = ([] : List UInt8)) = False := eq_false (by simp)
  have hlen2 : ((0 : Int) < ((m.length + 1 : Nat) : Int)) = True := eq_true (by omega)
  have hbyte2 : byteAt (S (c :: m)) 0 = ((c.toNat : Nat) : Int) := rfl
  by_cases h5 : c = 0
  · have hcz : (((c.toNat : Nat) : Int) = 0) = True := eq_true (by rw [h5]; rfl)
    simp only [↓R1, R2, R3, R4, TY, reduceIte, Nat.reduceEqDiff, Nat.reduceAdd, Nat.reduceMul, Nat.reduceLT, Nat.reduceLeDiff, reduceCtorEq, decide_true, decide_false, Int.reduceLE, Int.reduceLT, Int.reduceToNat, Int.reduceAdd, Int.reduceSub, Int.reduceMul, Int.reduceEq, S_inj, S_size, hdf, hlen, hbyte, hbz, hsf, hlen2, hbyte2, hcz]
    exact fin _ hx
  have hc0 : ¬ c.toNat = 0 := fun h => h5 (UInt8.toNat_inj.1 h)
  have hcz : (((c.toNat : Nat) : Int) = 0) = False := eq_false (by omega)
  have hsn : nb (nv (c :: m)) = c :: m := nb_nv _ (by rintro c' m' e; cases e; exact h5)
  have hs0 : nv (c :: m) ≠ 0 := fun h => by rw [h, nb_zero] at hsn; cases hsn
  have hg : ¬ Nat.gcd (nv (c :: m)) (nv (b :: l)) = 1 := by
    intro h
    refine hq ⟨⟨sgn n (nv (c :: m)), nv (b :: l), hd0, by rw [sgn_abs]; exact h⟩, ?_, ?_, hdn.symm⟩
    · unfold sgn; cases n <;> simp <;> omega
    · show c :: m = nb (sgn n _).natAbs
      rw [sgn_abs, hsn]
  have h6 : ((b :: l) = [(1 : UInt8)]) = False := eq_false (fun h => hg (by rw [h]; show Nat.gcd _ 1 = 1; exact Nat.gcd_one_right _))
  have hg1 : (nb (Nat.gcd (nv (c :: m)) (nv (b :: l))) = [1]) = False := eq_false (fun h => hg (by rw [← nb_one] at h; exact nb_inj h))
  have gc := fun fl A => gcdG (G := G) (fl := fl) (A := A) (m := nv (c :: m)) (n := nv (b :: l)) hG (by rw [hsn]; omega) (by rw [hdn]; omega)
  rw [hsn, hdn] at gc
  simp only [↓R1, R2, R3, R4, TY, reduceIte, Nat.reduceEqDiff, Nat.reduceAdd, Nat.reduceMul, Nat.reduceLT, Nat.reduceLeDiff, reduceCtorEq, decide_true, decide_false, Int.reduceLE, Int.reduceLT, Int.reduceToNat, Int.reduceAdd, Int.reduceSub, Int.reduceMul, Int.reduceEq, S_inj, S_size, hdf, hlen, hbyte, hbz, hsf, hlen2, hbyte2, hcz, h6]
  refine call_of (gc _ _) ?_
  simp only [↓R1, R2, R3, R4, TY, reduceIte, Nat.reduceEqDiff, Nat.reduceAdd, Nat.reduceMul, Nat.reduceLT, Nat.reduceLeDiff, reduceCtorEq, decide_true, decide_false, Int.reduceLE, Int.reduceLT, Int.reduceToNat, Int.reduceAdd, Int.reduceSub, Int.reduceMul, Int.reduceEq, S_inj, hg1]
  exact fin _ hx

theorem raw_of {n : Bool} {s d : List UInt8} {k : Nat} (hG : G 1 = some tabV) (hs : s.length ≤ k) (hd : d.length ≤ k) (hk1 : 1 ≤ k) (hk : k ≤ 40000000000) :
    ∃ ok q, Raw G n s d ok q k := by
  by_cases hq : ∃ q : Rat, n = decide (q.num < 0) ∧ s = nb q.num.natAbs ∧ d = nb q.den
  · obtain ⟨q, rfl, rfl, rfl⟩ := hq
    exact ⟨true, q, fun fl A => qgood hG (by omega) (by omega), fun fl A => qfit hG (by omega) (by omega), ⟨hs, hd⟩, fun _ => ⟨rfl, rfl, rfl⟩, by simp⟩
  · have gd := fun fl A => goodFalse (G := G) (fl := fl) (A := A) hG hs hd hk hq
    exact ⟨false, 0, gd, fun fl A => fitFalse gd, ⟨by show (nb 0).length ≤ k; rw [nb_zero]; simp, by show (nb 1).length ≤ k; rw [nb_one]; exact hk1⟩, by simp, fun _ => rfl⟩
end
end Go.Proofs.YtjkimjmocfjjnaaDoor.Ab
