/- Polygons: Convex, Check, Has, Area, Support; gantmake.Poly. -/
import Derived.Test.YthclikeipdplpaaDoorYe
namespace Go.Proofs.YthclikeipdplpaaDoor.Ab
open Go.RowKit
set_option linter.unusedVariables false
set_option linter.unusedSimpArgs false
set_option maxRecDepth 100000

/-- The farthest of the first corners. -/
def bst (l : List V2) (d : V2) : Nat → Nat
  | 0 => 0
  | n + 1 => if dt (pget l (bst l d n)) d < dt (pget l n) d then n else bst l d n
theorem rz_dbl {l : List V2} {k : Nat} (hz : Lz l k) : ∀ n, n ≤ l.length → Rz (dbl l n) (1 + n * (4 * k + 2))
  | 0, _ => by
    have : Rz (0 : Rat) 1 := Rz.of (n := 0) (k := 1) (by simp [nb_zero]) (Nat.le_refl _)
    unfold dbl; exact this.mono (by omega)
  | n + 1, h => by
    have ih := rz_dbl hz n (by omega)
    have h1 := hz.at (i := n) (by omega)
    have h2 := hz.at (i := (n + 1) % l.length) (mod_lt' (show n < l.length by omega) _)
    unfold dbl
    exact (ih.add ((h1.1.mul h2.2).sub (h1.2.mul h2.1))).mono (by rw [Nat.succ_mul n]; generalize n * (4 * k + 2) = X; omega)
theorem half_eq : rOf 1 / rOf 2 = 1 / 2 := by rw [rOf_eq, rOf_eq]; rfl
theorem rz_half : Rz (1 / 2 : Rat) 2 := by rw [← half_eq]; exact (Rz.of (n := 1) (k := 1) (by rw [show (1 : Int).natAbs = 1 from rfl, nb_one]; decide) (Nat.le_refl _)).div (Rz.of (n := 2) (k := 1) (nb_len_le.2 (by decide)) (Nat.le_refl _)) (num_ne (by rw [rOf_eq]; decide))
theorem parea_0 {l : List V2} (h : pchk l 64 = 0) : parea l = rOf 1 / rOf 2 * dbl l l.length := by rw [half_eq]; unfold parea; rw [if_pos h]
theorem parea_n {l : List V2} (h : ¬ pchk l 64 = 0) : parea l = rOf 0 := by unfold parea; rw [if_neg h, rOf_eq]; rfl
def rC (q : Rat) : List Value := [.bool (decide (q.num < 0)), .string (S (nb q.num.natAbs)), .string (S (nb q.den))]

section
variable {G : Gl} {fl : Nat} {A : Hp}

set_option maxHeartbeats 2000000 in
theorem pconvex {v : Value} {l : List V2} {k : Nat} (hG : G 1 = some tabV) (hs : Sl A 6 v (l.map vC)) (hz : Lz l k) (hk : k ≤ 2000) (hl : l.length < 4611686018427387904) : Sound Tryd.prog G 50 [v] fl A (.int .i64 (pchk l 64)) A := by
  refine Sound.of mixed Tryd.func50 Tryd.ntmps50 Tryd.results50 (by kernel_rfl) rfl (by kernel_rfl) (by simp) fun hA => ?_
  have hfl : fl ≤ A.next := by have := hA.floor; omega
  have hfl1 : fl ≤ A.next + 1 := by have := hA.floor; omega
  have hfl2 : fl ≤ A.next + 2 := by have := hA.floor; omega
  have hfl3 : fl ≤ A.next + 3 := by have := hA.floor; omega
  have hfl4 : fl ≤ A.next + 4 := by have := hA.floor; omega
  have hfl5 : fl ≤ A.next + 5 := by have := hA.floor; omega
  have hfl6 : fl ≤ A.next + 6 := by have := hA.floor; omega
  have ck := fun fl (A : Hp) (hs : Sl A 6 v (l.map vC)) => pcheck (G := G) (fl := fl) (A := A) (most := 64) hG hs hz hk hl (by decide)
  simp only [↓R1, R2, R3, R4, TY, reduceIte, Nat.reduceEqDiff, Nat.reduceAdd, Nat.reduceMul, Nat.reduceLT, Nat.reduceLeDiff, reduceCtorEq, decide_true, decide_false, Int.reduceLE, Int.reduceLT, Int.reduceToNat, Int.reduceAdd, Int.reduceSub, Int.reduceMul, Int.reduceEq, hfl, hfl1, hfl2, hfl3, hfl4, hfl5, hfl6, NE]
  refine call_of (ck _ _ hs) ?_
  simp only [↓R1, R2, R3, R4, TY, reduceIte, Nat.reduceEqDiff, Nat.reduceAdd, Nat.reduceMul, Nat.reduceLT, Nat.reduceLeDiff, reduceCtorEq, decide_true, decide_false, Int.reduceLE, Int.reduceLT, Int.reduceToNat, Int.reduceAdd, Int.reduceSub, Int.reduceMul, Int.reduceEq, hfl, hfl1, hfl2, hfl3, hfl4, hfl5, hfl6, NE]
  refine Ended.back hA (Xt.refl _) rfl (RB.int _ _)

end
end Go.Proofs.YthclikeipdplpaaDoor.Ab
