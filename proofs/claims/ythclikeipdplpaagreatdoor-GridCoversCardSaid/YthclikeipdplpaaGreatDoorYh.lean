/- Polygons from raw numbers: gantmake.Poly; the fact about package poly. -/
import Derived.Test.YthclikeipdplpaaGreatDoorYg
namespace Go.Proofs.YthclikeipdplpaaGreatDoor.Ab
open Go.RowKit
set_option linter.unusedVariables false
set_option linter.unusedSimpArgs false
set_option maxRecDepth 100000

/-- All polygons that gantmake makes are convex, small, and have an area above 0. -/
def mpGood (l : List V2) : Bool := cvxB l && (3 ≤ l.length) && (l.length ≤ 5) && decide (0 < 1 / 2 * dbl l l.length) && l.all fun p => decide (p.1.num.natAbs ≤ 64 ∧ p.1.den ≤ 64 ∧ p.2.num.natAbs ≤ 64 ∧ p.2.den ≤ 64)
theorem mp_good : ((List.range 6).all fun w => (List.range 6).all fun h => (List.range 4).all fun s => (List.range 13).all fun t => (2 * w + 2 < t) || mpGood (mp ((w : Int) + 1) ((h : Int) + 1) (s : Int) ((t : Int) - ((w : Int) + 1)))) = true := by decide +kernel
theorem mpoly_good (xs : List Int) : mpGood (mpoly xs) = true := by
  have h1 := nxt_range (xs := xs) (n := 6) (by decide)
  have h2 := nxt_range (xs := xs.tail) (n := 6) (by decide)
  have h3 := nxt_range (xs := xs.tail.tail) (n := 4) (by decide)
  have h4 := nxt_range (xs := xs.tail.tail.tail) (n := 2 * (1 + nxt xs 6) + 1) (by omega)
  have g := mp_good
  simp only [List.all_eq_true, List.mem_range] at g
  have := g (nxt xs 6).toNat (by omega) (nxt xs.tail 6).toNat (by omega) (nxt xs.tail.tail 4).toNat (by omega) (nxt xs.tail.tail.tail (2 * (1 + nxt xs 6) + 1)).toNat (by omega)
  rw [Bool.or_eq_true, decide_eq_true_eq] at this
  rcases this with h | h
  · omega
  · unfold mpoly
    rw [Int.toNat_of_nonneg h1.1, Int.toNat_of_nonneg h2.1, Int.toNat_of_nonneg h3.1, Int.toNat_of_nonneg h4.1, Int.add_comm (nxt xs 6) 1, Int.add_comm (nxt xs.tail 6) 1] at h
    exact h
structure PolyOk (P : List V2) : Prop where
  len3 : 3 ≤ P.length
  len5 : P.length ≤ 5
  cvx : Cvx P
  z : Lz P 1
  area : 0 < parea P
theorem PolyOk.c64 {P : List V2} (h : PolyOk P) : pchk P 64 = 0 := pchk_ok.2 ⟨h.len3, by have := h.len5; omega, h.cvx⟩
theorem PolyOk.c8 {P : List V2} (h : PolyOk P) : pchk P 8 = 0 := pchk_ok.2 ⟨h.len3, by have := h.len5; omega, h.cvx⟩
theorem mpoly_ok (xs : List Int) : PolyOk (mpoly xs) := by
  have h := mpoly_good xs
  unfold mpGood at h
  simp only [Bool.and_eq_true, decide_eq_true_eq, List.all_eq_true] at h
  obtain ⟨⟨⟨⟨h1, h2⟩, h3⟩, h4⟩, h5⟩ := h
  have hc : Cvx (mpoly xs) := cvxB_iff.1 h1
  have h64 : pchk (mpoly xs) 64 = 0 := pchk_ok.2 ⟨h2, by omega, hc⟩
  refine ⟨h2, h3, hc, fun p hp => ?_, by unfold parea; rw [if_pos h64]; exact h4⟩
  obtain ⟨a1, a2, a3, a4⟩ := h5 p hp
  exact ⟨Sz.rz ⟨a1, a2⟩ (nb_len_le.2 (by decide)), Sz.rz ⟨a3, a4⟩ (nb_len_le.2 (by decide))⟩
theorem sl_at {B : Hp} {id : Nat} {l : List V2} (h : B.blk id = some (.row (l.map vC).flatten 0 6)) : Sl B 6 (.slice (some ⟨id, 0, some 0⟩) l.length l.length) (l.map vC) :=
  ⟨fun c hc => by obtain ⟨p, _, rfl⟩ := List.mem_map.1 hc; rfl, .inr (.inr ⟨⟨id, 0, some 0⟩, l.length, l.length, 0, _, rfl, by simp, rfl, h, fun j x hj => by rw [Nat.zero_add]; exact hj⟩)⟩
/-- A square, as the documents' facts use it. -/
def sqr (x y u v : Int) : List V2 := [(rOf x, rOf y), (rOf u, rOf y), (rOf u, rOf v), (rOf x, rOf v)]
theorem sqr_area : parea (sqr 0 0 2 2) = rOf 4 := by decide +kernel
theorem sqr_z {x y u v : Int} (h1 : -1000 ≤ x ∧ x ≤ 1000) (h2 : -1000 ≤ y ∧ y ≤ 1000) (h3 : -1000 ≤ u ∧ u ≤ 1000) (h4 : -1000 ≤ v ∧ v ≤ 1000) : Lz (sqr x y u v) 3 := by
  have r := fun (n : Int) (h : -1000 ≤ n ∧ n ≤ 1000) => rz_of1 (n := n) (by omega) (by omega)
  intro p hp
  simp only [sqr, List.mem_cons, List.not_mem_nil, or_false] at hp
  rcases hp with rfl | rfl | rfl | rfl
  · exact ⟨r _ h1, r _ h2⟩
  · exact ⟨r _ h3, r _ h2⟩
  · exact ⟨r _ h3, r _ h4⟩
  · exact ⟨r _ h1, r _ h4⟩

end Go.Proofs.YthclikeipdplpaaGreatDoor.Ab
