/- Distances of polygons: edges, near. -/
import Derived.Test.YthclikeipdplpaaDoorYk
import Derived.Test.YthclikeipdplpaaDoorYj
import Derived.Test.YthclikeipdplpaaDoorYb
namespace Go.Proofs.YthclikeipdplpaaDoor.Ab
open Go.RowKit
set_option linter.unusedVariables false
set_option linter.unusedSimpArgs false
set_option maxRecDepth 100000

/-- The square of the distance of a point from a segment, and its parts. -/
def teT (p a b : V2) : Rat := (p.1 - a.1) * (b.1 - a.1) + (p.2 - a.2) * (b.2 - a.2)
def teS (a b : V2) : Rat := (b.1 - a.1) * (b.1 - a.1) + (b.2 - a.2) * (b.2 - a.2)
def te (p a b : V2) : Rat := if 0 < teT p a b then (if teS a b ≤ teT p a b then teS b p else crs a b p * crs a b p / teS a b) else teS a p
theorem Pz.sub {p q : V2} {k : Nat} (hp : Pz p k) (hq : Pz q k) : Rz (p.1 - q.1) (2 * k + 1) ∧ Rz (p.2 - q.2) (2 * k + 1) := ⟨(hp.1.sub hq.1).mono (by omega), (hp.2.sub hq.2).mono (by omega)⟩
theorem rz_teT {p a b : V2} {k : Nat} (hp : Pz p k) (ha : Pz a k) (hb : Pz b k) : Rz (teT p a b) (8 * k + 5) := by
  have h1 := hp.sub ha
  have h2 := hb.sub ha
  exact ((h1.1.mul h2.1).add (h1.2.mul h2.2)).mono (by omega)
theorem rz_teS {a b : V2} {k : Nat} (ha : Pz a k) (hb : Pz b k) : Rz (teS a b) (8 * k + 5) := by
  have h2 := hb.sub ha
  exact ((h2.1.mul h2.1).add (h2.2.mul h2.2)).mono (by omega)
theorem rz_crs {p a b : V2} {k : Nat} (hp : Pz p k) (ha : Pz a k) (hb : Pz b k) : Rz (crs a b p) (8 * k + 5) := by
  have h1 := hp.sub ha
  have h2 := hb.sub ha
  exact ((h2.1.mul h1.2).sub (h2.2.mul h1.1)).mono (by omega)
theorem rz_te {p a b : V2} {k : Nat} (hp : Pz p k) (ha : Pz a k) (hb : Pz b k) : Rz (te p a b) (24 * k + 15) := by
  unfold te
  split
  · split
    · exact (rz_teS hb hp).mono (by omega)
    · rename_i h1 h2
      have hs : teS a b ≠ 0 := by grind
      exact (((rz_crs hp ha hb).mul (rz_crs hp ha hb)).div (rz_teS ha hb) (num_ne hs)).mono (by omega)
  · exact (rz_teS ha hp).mono (by omega)
def near (p : V2) (l : List V2) : Nat → Rat
  | 0 => te p (pget l 0) (pget l 1)
  | i + 1 => rmin (near p l i) (te p (pget l i) (pget l ((i + 1) % l.length)))
theorem rz_near {p : V2} {l : List V2} {k : Nat} (hp : Pz p k) (hz : Lz l k) (h2 : 2 ≤ l.length) : ∀ i, i ≤ l.length → Rz (near p l i) (24 * k + 15)
  | 0, _ => rz_te hp (hz.at (by omega)) (hz.at (by omega))
  | i + 1, h => (rz_near hp hz h2 i (by omega)).min (rz_te hp (hz.at (by omega)) (hz.at (mod_lt' (show i < l.length by omega) _)))
theorem rcmp_lt_iff' {p q : Rat} : rcmp p q < 0 ↔ p < q := by
  unfold rcmp; split
  · rename_i h; exact ⟨fun _ => h, fun _ => by decide⟩
  · split
    · exact ⟨fun h => absurd h (by decide), fun h => by contradiction⟩
    · exact ⟨fun h => absurd h (by decide), fun h => by contradiction⟩
theorem rcmp_ge' {p q : Rat} : (rcmp p q ≥ 0) = (q ≤ p) := by
  rw [eq_iff_iff]
  have h := @rcmp_lt_iff' p q
  constructor
  · intro h1; exact Rat.not_lt.1 fun h2 => by have := h.2 h2; omega
  · intro h1
    have : ¬ rcmp p q < 0 := fun h2 => by have := h.1 h2; exact absurd h1 (Rat.not_le.2 this)
    omega

section
variable {G : Gl} {fl : Nat} {A : Hp}

set_option maxHeartbeats 2000000 in
theorem te_1 {p a b : V2} {k : Nat} (hG : G 1 = some tabV) (hp : Pz p k) (ha : Pz a k) (hb : Pz b k) (hk : k ≤ 1000) (h1 : ¬ 0 < teT p a b) : Sound Tryd.prog G 103 [prV p.1 p.2, prV a.1 a.2, prV b.1 b.2] fl A (ratV (te p a b)) A := by
  refine Sound.of mixed Tryd.func103 Tryd.ntmps103 Tryd.results103 (by kernel_rfl) rfl (by kernel_rfl) (by simp) fun hA => ?_
  have hfl : fl ≤ A.next := by have := hA.floor; omega
  have hfl1 : fl ≤ A.next + 1 := by have := hA.floor; omega
  have hfl2 : fl ≤ A.next + 2 := by have := hA.floor; omega
  have hfl3 : fl ≤ A.next + 3 := by have := hA.floor; omega
  have hfl4 : fl ≤ A.next + 4 := by have := hA.floor; omega
  have hfl5 : fl ≤ A.next + 5 := by have := hA.floor; omega
  have hfl6 : fl ≤ A.next + 6 := by have := hA.floor; omega
  have eE := hb.sub ha
  have eD := hp.sub ha
  have eF := hp.sub hb
  have sE := fun fl A => vsub (G := G) (fl := fl) (A := A) hG hb.1 hb.2 ha.1 ha.2 (by omega)
  have sD := fun fl A => vsub (G := G) (fl := fl) (A := A) hG hp.1 hp.2 ha.1 ha.2 (by omega)
  have sF := fun fl A => vsub (G := G) (fl := fl) (A := A) hG hp.1 hp.2 hb.1 hb.2 (by omega)
  have dT := fun fl A => vdot (G := G) (fl := fl) (A := A) hG eD.1 eD.2 eE.1 eE.2 (by omega)
  have dS := fun fl A => vdot (G := G) (fl := fl) (A := A) hG eE.1 eE.2 eE.1 eE.2 (by omega)
  have dD := fun fl A => vdot (G := G) (fl := fl) (A := A) hG eD.1 eD.2 eD.1 eD.2 (by omega)
  have dF := fun fl A => vdot (G := G) (fl := fl) (A := A) hG eF.1 eF.2 eF.1 eF.2 (by omega)
  have cr := fun fl A => vcross (G := G) (fl := fl) (A := A) hG eE.1 eE.2 eD.1 eD.2 (by omega)
  have sg := fun fl A => qsign (G := G) (fl := fl) (A := A) hG (rz_teT hp ha hb) (by omega)
  have cm := fun fl A => qcmp (G := G) (fl := fl) (A := A) hG (rz_teT hp ha hb) (rz_teS ha hb) (by omega)
  have j1 : (p.1 - a.1) * (b.1 - a.1) + (p.2 - a.2) * (b.2 - a.2) = teT p a b := rfl
  have j2 : (b.1 - a.1) * (b.1 - a.1) + (b.2 - a.2) * (b.2 - a.2) = teS a b := rfl
  have j3 : (p.1 - a.1) * (p.1 - a.1) + (p.2 - a.2) * (p.2 - a.2) = teS a p := rfl
  have j4 : (p.1 - b.1) * (p.1 - b.1) + (p.2 - b.2) * (p.2 - b.2) = teS b p := rfl
  have j5 : (b.1 - a.1) * (p.2 - a.2) - (b.2 - a.2) * (p.1 - a.1) = crs a b p := rfl
  rw [j1] at dT
  rw [j2] at dS
  rw [j3] at dD
  rw [j4] at dF
  rw [j5] at cr
  have hrb := ratV_rb A.next (te p a b)
  have ev : te p a b = teS a p := by unfold te; rw [if_neg h1]
  rw [ev] at hrb ⊢
  have g1 : (rsign (teT p a b) ≤ 0) = True := eq_true (rsign_le.2 h1)
  generalize teT p a b = T at *
  generalize teS a b = S0 at *
  generalize teS a p = D0 at *
  generalize teS b p = F0 at *
  generalize crs a b p = C0 at *
  simp only [prV_def] at sE sD sF dT dS dD dF cr ⊢
  simp only [ratV_def] at dT dS dD dF cr sg cm hrb ⊢
  simp only [↓R1, R2, R3, R4, TY, reduceIte, Nat.reduceEqDiff, Nat.reduceAdd, Nat.reduceMul, Nat.reduceLT, Nat.reduceLeDiff, reduceCtorEq, decide_true, decide_false, Int.reduceLE, Int.reduceLT, Int.reduceToNat, Int.reduceAdd, Int.reduceSub, Int.reduceMul, Int.reduceEq, hfl, hfl1, hfl2, hfl3, hfl4, hfl5, hfl6, NE, NE9, Nat.add_assoc, g1]
  refine call_of (sE _ _) ?_
  simp only [↓R1, R2, R3, R4, TY, reduceIte, Nat.reduceEqDiff, Nat.reduceAdd, Nat.reduceMul, Nat.reduceLT, Nat.reduceLeDiff, reduceCtorEq, decide_true, decide_false, Int.reduceLE, Int.reduceLT, Int.reduceToNat, Int.reduceAdd, Int.reduceSub, Int.reduceMul, Int.reduceEq, hfl, hfl1, hfl2, hfl3, hfl4, hfl5, hfl6, NE, NE9, Nat.add_assoc, g1]
  refine call_of (sD _ _) ?_
  simp only [↓R1, R2, R3, R4, TY, reduceIte, Nat.reduceEqDiff, Nat.reduceAdd, Nat.reduceMul, Nat.reduceLT, Nat.reduceLeDiff, reduceCtorEq, decide_true, decide_false, Int.reduceLE, Int.reduceLT, Int.reduceToNat, Int.reduceAdd, Int.reduceSub, Int.reduceMul, Int.reduceEq, hfl, hfl1, hfl2, hfl3, hfl4, hfl5, hfl6, NE, NE9, Nat.add_assoc, g1]
  rw [floOf_wr (by kernel_rfl)]
  simp only [↓R1, R2, R3, R4, TY, reduceIte, Nat.reduceEqDiff, Nat.reduceAdd, Nat.reduceMul, Nat.reduceLT, Nat.reduceLeDiff, reduceCtorEq, decide_true, decide_false, Int.reduceLE, Int.reduceLT, Int.reduceToNat, Int.reduceAdd, Int.reduceSub, Int.reduceMul, Int.reduceEq, hfl, hfl1, hfl2, hfl3, hfl4, hfl5, hfl6, NE, NE9, Nat.add_assoc, g1]
  rw [floOf_wr (by kernel_rfl)]
  simp only [↓R1, R2, R3, R4, TY, reduceIte, Nat.reduceEqDiff, Nat.reduceAdd, Nat.reduceMul, Nat.reduceLT, Nat.reduceLeDiff, reduceCtorEq, decide_true, decide_false, Int.reduceLE, Int.reduceLT, Int.reduceToNat, Int.reduceAdd, Int.reduceSub, Int.reduceMul, Int.reduceEq, hfl, hfl1, hfl2, hfl3, hfl4, hfl5, hfl6, NE, NE9, Nat.add_assoc, g1]
  refine call_of (dT _ _) ?_
  simp only [↓R1, R2, R3, R4, TY, reduceIte, Nat.reduceEqDiff, Nat.reduceAdd, Nat.reduceMul, Nat.reduceLT, Nat.reduceLeDiff, reduceCtorEq, decide_true, decide_false, Int.reduceLE, Int.reduceLT, Int.reduceToNat, Int.reduceAdd, Int.reduceSub, Int.reduceMul, Int.reduceEq, hfl, hfl1, hfl2, hfl3, hfl4, hfl5, hfl6, NE, NE9, Nat.add_assoc, g1]
  refine call_of (dS _ _) ?_
  simp only [↓R1, R2, R3, R4, TY, reduceIte, Nat.reduceEqDiff, Nat.reduceAdd, Nat.reduceMul, Nat.reduceLT, Nat.reduceLeDiff, reduceCtorEq, decide_true, decide_false, Int.reduceLE, Int.reduceLT, Int.reduceToNat, Int.reduceAdd, Int.reduceSub, Int.reduceMul, Int.reduceEq, hfl, hfl1, hfl2, hfl3, hfl4, hfl5, hfl6, NE, NE9, Nat.add_assoc, g1]
  refine call_of (sg _ _) ?_
  simp only [↓R1, R2, R3, R4, TY, reduceIte, Nat.reduceEqDiff, Nat.reduceAdd, Nat.reduceMul, Nat.reduceLT, Nat.reduceLeDiff, reduceCtorEq, decide_true, decide_false, Int.reduceLE, Int.reduceLT, Int.reduceToNat, Int.reduceAdd, Int.reduceSub, Int.reduceMul, Int.reduceEq, hfl, hfl1, hfl2, hfl3, hfl4, hfl5, hfl6, NE, NE9, Nat.add_assoc, g1]
  refine call_of (dD _ _) ?_
  simp only [↓R1, R2, R3, R4, TY, reduceIte, Nat.reduceEqDiff, Nat.reduceAdd, Nat.reduceMul, Nat.reduceLT, Nat.reduceLeDiff, reduceCtorEq, decide_true, decide_false, Int.reduceLE, Int.reduceLT, Int.reduceToNat, Int.reduceAdd, Int.reduceSub, Int.reduceMul, Int.reduceEq, hfl, hfl1, hfl2, hfl3, hfl4, hfl5, hfl6, NE, NE9, Nat.add_assoc, g1]
  refine Ended.back hA ?_ rfl hrb
  simp (maxDischargeDepth := 20) only [xt_push, xt_put, xt_refl, Nat.le_refl, Nat.le_add_right, Nat.add_assoc, Nat.reduceAdd]

set_option maxHeartbeats 2000000 in
theorem te_2 {p a b : V2} {k : Nat} (hG : G 1 = some tabV) (hp : Pz p k) (ha : Pz a k) (hb : Pz b k) (hk : k ≤ 1000) (h1 : 0 < teT p a b) (h2 : teS a b ≤ teT p a b) : Sound Tryd.prog G 103 [prV p.1 p.2, prV a.1 a.2, prV b.1 b.2] fl A (ratV (te p a b)) A := by
  refine Sound.of mixed Tryd.func103 Tryd.ntmps103 Tryd.results103 (by kernel_rfl) rfl (by kernel_rfl) (by simp) fun hA => ?_
  have hfl : fl ≤ A.next := by have := hA.floor; omega
  have hfl1 : fl ≤ A.next + 1 := by have := hA.floor; omega
  have hfl2 : fl ≤ A.next + 2 := by have := hA.floor; omega
  have hfl3 : fl ≤ A.next + 3 := by have := hA.floor; omega
  have hfl4 : fl ≤ A.next + 4 := by have := hA.floor; omega
  have hfl5 : fl ≤ A.next + 5 := by have := hA.floor; omega
  have hfl6 : fl ≤ A.next + 6 := by have := hA.floor; omega
  have eE := hb.sub ha
  have eD := hp.sub ha
  have eF := hp.sub hb
  have sE := fun fl A => vsub (G := G) (fl := fl) (A := A) hG hb.1 hb.2 ha.1 ha.2 (by omega)
  have sD := fun fl A => vsub (G := G) (fl := fl) (A := A) hG hp.1 hp.2 ha.1 ha.2 (by omega)
  have sF := fun fl A => vsub (G := G) (fl := fl) (A := A) hG hp.1 hp.2 hb.1 hb.2 (by omega)
  have dT := fun fl A => vdot (G := G) (fl := fl) (A := A) hG eD.1 eD.2 eE.1 eE.2 (by omega)
  have dS := fun fl A => vdot (G := G) (fl := fl) (A := A) hG eE.1 eE.2 eE.1 eE.2 (by omega)
  have dD := fun fl A => vdot (G := G) (fl := fl) (A := A) hG eD.1 eD.2 eD.1 eD.2 (by omega)
  have dF := fun fl A => vdot (G := G) (fl := fl) (A := A) hG eF.1 eF.2 eF.1 eF.2 (by omega)
  have cr := fun fl A => vcross (G := G) (fl := fl) (A := A) hG eE.1 eE.2 eD.1 eD.2 (by omega)
  have sg := fun fl A => qsign (G := G) (fl := fl) (A := A) hG (rz_teT hp ha hb) (by omega)
  have cm := fun fl A => qcmp (G := G) (fl := fl) (A := A) hG (rz_teT hp ha hb) (rz_teS ha hb) (by omega)
  have j1 : (p.1 - a.1) * (b.1 - a.1) + (p.2 - a.2) * (b.2 - a.2) = teT p a b := rfl
  have j2 : (b.1 - a.1) * (b.1 - a.1) + (b.2 - a.2) * (b.2 - a.2) = teS a b := rfl
  have j3 : (p.1 - a.1) * (p.1 - a.1) + (p.2 - a.2) * (p.2 - a.2) = teS a p := rfl
  have j4 : (p.1 - b.1) * (p.1 - b.1) + (p.2 - b.2) * (p.2 - b.2) = teS b p := rfl
  have j5 : (b.1 - a.1) * (p.2 - a.2) - (b.2 - a.2) * (p.1 - a.1) = crs a b p := rfl
  rw [j1] at dT
  rw [j2] at dS
  rw [j3] at dD
  rw [j4] at dF
  rw [j5] at cr
  have hrb := ratV_rb A.next (te p a b)
  have ev : te p a b = teS b p := by unfold te; rw [if_pos h1, if_pos h2]
  rw [ev] at hrb ⊢
  have g1 : (rsign (teT p a b) ≤ 0) = False := eq_false (fun h => rsign_le.1 h h1)
  have g2 : (rcmp (teT p a b) (teS a b) ≥ 0) = True := by rw [rcmp_ge']; exact eq_true h2
  have g3 : (0 ≤ rcmp (teT p a b) (teS a b)) = True := g2
  generalize teT p a b = T at *
  generalize teS a b = S0 at *
  generalize teS a p = D0 at *
  generalize teS b p = F0 at *
  generalize crs a b p = C0 at *
  simp only [prV_def] at sE sD sF dT dS dD dF cr ⊢
  simp only [ratV_def] at dT dS dD dF cr sg cm hrb ⊢
  simp only [↓R1, R2, R3, R4, TY, reduceIte, Nat.reduceEqDiff, Nat.reduceAdd, Nat.reduceMul, Nat.reduceLT, Nat.reduceLeDiff, reduceCtorEq, decide_true, decide_false, Int.reduceLE, Int.reduceLT, Int.reduceToNat, Int.reduceAdd, Int.reduceSub, Int.reduceMul, Int.reduceEq, hfl, hfl1, hfl2, hfl3, hfl4, hfl5, hfl6, NE, NE9, Nat.add_assoc, g1, g2, g3]
  refine call_of (sE _ _) ?_
  simp only [↓R1, R2, R3, R4, TY, reduceIte, Nat.reduceEqDiff, Nat.reduceAdd, Nat.reduceMul, Nat.reduceLT, Nat.reduceLeDiff, reduceCtorEq, decide_true, decide_false, Int.reduceLE, Int.reduceLT, Int.reduceToNat, Int.reduceAdd, Int.reduceSub, Int.reduceMul, Int.reduceEq, hfl, hfl1, hfl2, hfl3, hfl4, hfl5, hfl6, NE, NE9, Nat.add_assoc, g1, g2, g3]
  refine call_of (sD _ _) ?_
  simp only [↓R1, R2, R3, R4, TY, reduceIte, Nat.reduceEqDiff, Nat.reduceAdd, Nat.reduceMul, Nat.reduceLT, Nat.reduceLeDiff, reduceCtorEq, decide_true, decide_false, Int.reduceLE, Int.reduceLT, Int.reduceToNat, Int.reduceAdd, Int.reduceSub, Int.reduceMul, Int.reduceEq, hfl, hfl1, hfl2, hfl3, hfl4, hfl5, hfl6, NE, NE9, Nat.add_assoc, g1, g2, g3]
  rw [floOf_wr (by kernel_rfl)]
  simp only [↓R1, R2, R3, R4, TY, reduceIte, Nat.reduceEqDiff, Nat.reduceAdd, Nat.reduceMul, Nat.reduceLT, Nat.reduceLeDiff, reduceCtorEq, decide_true, decide_false, Int.reduceLE, Int.reduceLT, Int.reduceToNat, Int.reduceAdd, Int.reduceSub, Int.reduceMul, Int.reduceEq, hfl, hfl1, hfl2, hfl3, hfl4, hfl5, hfl6, NE, NE9, Nat.add_assoc, g1, g2, g3]
  rw [floOf_wr (by kernel_rfl)]
  simp only [↓R1, R2, R3, R4, TY, reduceIte, Nat.reduceEqDiff, Nat.reduceAdd, Nat.reduceMul, Nat.reduceLT, Nat.reduceLeDiff, reduceCtorEq, decide_true, decide_false, Int.reduceLE, Int.reduceLT, Int.reduceToNat, Int.reduceAdd, Int.reduceSub, Int.reduceMul, Int.reduceEq, hfl, hfl1, hfl2, hfl3, hfl4, hfl5, hfl6, NE, NE9, Nat.add_assoc, g1, g2, g3]
  refine call_of (dT _ _) ?_
  simp only [↓R1, R2, R3, R4, TY, reduceIte, Nat.reduceEqDiff, Nat.reduceAdd, Nat.reduceMul, Nat.reduceLT, Nat.reduceLeDiff, reduceCtorEq, decide_true, decide_false, Int.reduceLE, Int.reduceLT, Int.reduceToNat, Int.reduceAdd, Int.reduceSub, Int.reduceMul, Int.reduceEq, hfl, hfl1, hfl2, hfl3, hfl4, hfl5, hfl6, NE, NE9, Nat.add_assoc, g1, g2, g3]
  refine call_of (dS _ _) ?_
  simp only [↓R1, R2, R3, R4, TY, reduceIte, Nat.reduceEqDiff, Nat.reduceAdd, Nat.reduceMul, Nat.reduceLT, Nat.reduceLeDiff, reduceCtorEq, decide_true, decide_false, Int.reduceLE, Int.reduceLT, Int.reduceToNat, Int.reduceAdd, Int.reduceSub, Int.reduceMul, Int.reduceEq, hfl, hfl1, hfl2, hfl3, hfl4, hfl5, hfl6, NE, NE9, Nat.add_assoc, g1, g2, g3]
  refine call_of (sg _ _) ?_
  simp only [↓R1, R2, R3, R4, TY, reduceIte, Nat.reduceEqDiff, Nat.reduceAdd, Nat.reduceMul, Nat.reduceLT, Nat.reduceLeDiff, reduceCtorEq, decide_true, decide_false, Int.reduceLE, Int.reduceLT, Int.reduceToNat, Int.reduceAdd, Int.reduceSub, Int.reduceMul, Int.reduceEq, hfl, hfl1, hfl2, hfl3, hfl4, hfl5, hfl6, NE, NE9, Nat.add_assoc, g1, g2, g3]
  refine call_of (cm _ _) ?_
  simp only [↓R1, R2, R3, R4, TY, reduceIte, Nat.reduceEqDiff, Nat.reduceAdd, Nat.reduceMul, Nat.reduceLT, Nat.reduceLeDiff, reduceCtorEq, decide_true, decide_false, Int.reduceLE, Int.reduceLT, Int.reduceToNat, Int.reduceAdd, Int.reduceSub, Int.reduceMul, Int.reduceEq, hfl, hfl1, hfl2, hfl3, hfl4, hfl5, hfl6, NE, NE9, Nat.add_assoc, g1, g2, g3]
  refine call_of (sF _ _) ?_
  simp only [↓R1, R2, R3, R4, TY, reduceIte, Nat.reduceEqDiff, Nat.reduceAdd, Nat.reduceMul, Nat.reduceLT, Nat.reduceLeDiff, reduceCtorEq, decide_true, decide_false, Int.reduceLE, Int.reduceLT, Int.reduceToNat, Int.reduceAdd, Int.reduceSub, Int.reduceMul, Int.reduceEq, hfl, hfl1, hfl2, hfl3, hfl4, hfl5, hfl6, NE, NE9, Nat.add_assoc, g1, g2, g3]
  refine call_of (dF _ _) ?_
  simp only [↓R1, R2, R3, R4, TY, reduceIte, Nat.reduceEqDiff, Nat.reduceAdd, Nat.reduceMul, Nat.reduceLT, Nat.reduceLeDiff, reduceCtorEq, decide_true, decide_false, Int.reduceLE, Int.reduceLT, Int.reduceToNat, Int.reduceAdd, Int.reduceSub, Int.reduceMul, Int.reduceEq, hfl, hfl1, hfl2, hfl3, hfl4, hfl5, hfl6, NE, NE9, Nat.add_assoc, g1, g2, g3]
  refine Ended.back hA ?_ rfl hrb
  simp (maxDischargeDepth := 20) only [xt_push, xt_put, xt_refl, Nat.le_refl, Nat.le_add_right, Nat.add_assoc, Nat.reduceAdd]

set_option maxHeartbeats 2000000 in
theorem te_3 {p a b : V2} {k : Nat} (hG : G 1 = some tabV) (hp : Pz p k) (ha : Pz a k) (hb : Pz b k) (hk : k ≤ 1000) (h1 : 0 < teT p a b) (h2 : ¬ teS a b ≤ teT p a b) : Sound Tryd.prog G 103 [prV p.1 p.2, prV a.1 a.2, prV b.1 b.2] fl A (ratV (te p a b)) A := by
  refine Sound.of mixed Tryd.func103 Tryd.ntmps103 Tryd.results103 (by kernel_rfl) rfl (by kernel_rfl) (by simp) fun hA => ?_
  have hfl : fl ≤ A.next := by have := hA.floor; omega
  have hfl1 : fl ≤ A.next + 1 := by have := hA.floor; omega
  have hfl2 : fl ≤ A.next + 2 := by have := hA.floor; omega
  have hfl3 : fl ≤ A.next + 3 := by have := hA.floor; omega
  have hfl4 : fl ≤ A.next + 4 := by have := hA.floor; omega
  have hfl5 : fl ≤ A.next + 5 := by have := hA.floor; omega
  have hfl6 : fl ≤ A.next + 6 := by have := hA.floor; omega
  have eE := hb.sub ha
  have eD := hp.sub ha
  have eF := hp.sub hb
  have sE := fun fl A => vsub (G := G) (fl := fl) (A := A) hG hb.1 hb.2 ha.1 ha.2 (by omega)
  have sD := fun fl A => vsub (G := G) (fl := fl) (A := A) hG hp.1 hp.2 ha.1 ha.2 (by omega)
  have sF := fun fl A => vsub (G := G) (fl := fl) (A := A) hG hp.1 hp.2 hb.1 hb.2 (by omega)
  have dT := fun fl A => vdot (G := G) (fl := fl) (A := A) hG eD.1 eD.2 eE.1 eE.2 (by omega)
  have dS := fun fl A => vdot (G := G) (fl := fl) (A := A) hG eE.1 eE.2 eE.1 eE.2 (by omega)
  have dD := fun fl A => vdot (G := G) (fl := fl) (A := A) hG eD.1 eD.2 eD.1 eD.2 (by omega)
  have dF := fun fl A => vdot (G := G) (fl := fl) (A := A) hG eF.1 eF.2 eF.1 eF.2 (by omega)
  have cr := fun fl A => vcross (G := G) (fl := fl) (A := A) hG eE.1 eE.2 eD.1 eD.2 (by omega)
  have sg := fun fl A => qsign (G := G) (fl := fl) (A := A) hG (rz_teT hp ha hb) (by omega)
  have cm := fun fl A => qcmp (G := G) (fl := fl) (A := A) hG (rz_teT hp ha hb) (rz_teS ha hb) (by omega)
  have j1 : (p.1 - a.1) * (b.1 - a.1) + (p.2 - a.2) * (b.2 - a.2) = teT p a b := rfl
  have j2 : (b.1 - a.1) * (b.1 - a.1) + (b.2 - a.2) * (b.2 - a.2) = teS a b := rfl
  have j3 : (p.1 - a.1) * (p.1 - a.1) + (p.2 - a.2) * (p.2 - a.2) = teS a p := rfl
  have j4 : (p.1 - b.1) * (p.1 - b.1) + (p.2 - b.2) * (p.2 - b.2) = teS b p := rfl
  have j5 : (b.1 - a.1) * (p.2 - a.2) - (b.2 - a.2) * (p.1 - a.1) = crs a b p := rfl
  rw [j1] at dT
  rw [j2] at dS
  rw [j3] at dD
  rw [j4] at dF
  rw [j5] at cr
  have hs : teS a b ≠ 0 := by grind
  have zc := rz_crs hp ha hb
  have ml := fun fl A => qmul (G := G) (fl := fl) (A := A) hG zc zc (by omega)
  have dv := fun fl A => qdiv (G := G) (fl := fl) (A := A) hG (zc.mul zc) (rz_teS ha hb) (by omega) (num_ne hs)
  have hrb := ratV_rb A.next (te p a b)
  have ev : te p a b = crs a b p * crs a b p / teS a b := by unfold te; rw [if_pos h1, if_neg h2]
  rw [ev] at hrb ⊢
  have g1 : (rsign (teT p a b) ≤ 0) = False := eq_false (fun h => rsign_le.1 h h1)
  have g2 : (rcmp (teT p a b) (teS a b) ≥ 0) = False := by rw [rcmp_ge']; exact eq_false h2
  have g3 : (0 ≤ rcmp (teT p a b) (teS a b)) = False := g2
  generalize teT p a b = T at *
  generalize teS a b = S0 at *
  generalize teS a p = D0 at *
  generalize teS b p = F0 at *
  generalize crs a b p = C0 at *
  simp only [prV_def] at sE sD sF dT dS dD dF cr ⊢
  simp only [ratV_def] at dT dS dD dF cr sg cm ml dv hrb ⊢
  simp only [↓R1, R2, R3, R4, TY, reduceIte, Nat.reduceEqDiff, Nat.reduceAdd, Nat.reduceMul, Nat.reduceLT, Nat.reduceLeDiff, reduceCtorEq, decide_true, decide_false, Int.reduceLE, Int.reduceLT, Int.reduceToNat, Int.reduceAdd, Int.reduceSub, Int.reduceMul, Int.reduceEq, hfl, hfl1, hfl2, hfl3, hfl4, hfl5, hfl6, NE, NE9, Nat.add_assoc, g1, g2, g3]
  refine call_of (sE _ _) ?_
  simp only [↓R1, R2, R3, R4, TY, reduceIte, Nat.reduceEqDiff, Nat.reduceAdd, Nat.reduceMul, Nat.reduceLT, Nat.reduceLeDiff, reduceCtorEq, decide_true, decide_false, Int.reduceLE, Int.reduceLT, Int.reduceToNat, Int.reduceAdd, Int.reduceSub, Int.reduceMul, Int.reduceEq, hfl, hfl1, hfl2, hfl3, hfl4, hfl5, hfl6, NE, NE9, Nat.add_assoc, g1, g2, g3]
  refine call_of (sD _ _) ?_
  simp only [↓R1, R2, R3, R4, TY, reduceIte, Nat.reduceEqDiff, Nat.reduceAdd, Nat.reduceMul, Nat.reduceLT, Nat.reduceLeDiff, reduceCtorEq, decide_true, decide_false, Int.reduceLE, Int.reduceLT, Int.reduceToNat, Int.reduceAdd, Int.reduceSub, Int.reduceMul, Int.reduceEq, hfl, hfl1, hfl2, hfl3, hfl4, hfl5, hfl6, NE, NE9, Nat.add_assoc, g1, g2, g3]
  rw [floOf_wr (by kernel_rfl)]
  simp only [↓R1, R2, R3, R4, TY, reduceIte, Nat.reduceEqDiff, Nat.reduceAdd, Nat.reduceMul, Nat.reduceLT, Nat.reduceLeDiff, reduceCtorEq, decide_true, decide_false, Int.reduceLE, Int.reduceLT, Int.reduceToNat, Int.reduceAdd, Int.reduceSub, Int.reduceMul, Int.reduceEq, hfl, hfl1, hfl2, hfl3, hfl4, hfl5, hfl6, NE, NE9, Nat.add_assoc, g1, g2, g3]
  rw [floOf_wr (by kernel_rfl)]
  simp only [↓R1, R2, R3, R4, TY, reduceIte, Nat.reduceEqDiff, Nat.reduceAdd, Nat.reduceMul, Nat.reduceLT, Nat.reduceLeDiff, reduceCtorEq, decide_true, decide_false, Int.reduceLE, Int.reduceLT, Int.reduceToNat, Int.reduceAdd, Int.reduceSub, Int.reduceMul, Int.reduceEq, hfl, hfl1, hfl2, hfl3, hfl4, hfl5, hfl6, NE, NE9, Nat.add_assoc, g1, g2, g3]
  refine call_of (dT _ _) ?_
  simp only [↓R1, R2, R3, R4, TY, reduceIte, Nat.reduceEqDiff, Nat.reduceAdd, Nat.reduceMul, Nat.reduceLT, Nat.reduceLeDiff, reduceCtorEq, decide_true, decide_false, Int.reduceLE, Int.reduceLT, Int.reduceToNat, Int.reduceAdd, Int.reduceSub, Int.reduceMul, Int.reduceEq, hfl, hfl1, hfl2, hfl3, hfl4, hfl5, hfl6, NE, NE9, Nat.add_assoc, g1, g2, g3]
  refine call_of (dS _ _) ?_
  simp only [↓R1, R2, R3, R4, TY, reduceIte, Nat.reduceEqDiff, Nat.reduceAdd, Nat.reduceMul, Nat.reduceLT, Nat.reduceLeDiff, reduceCtorEq, decide_true, decide_false, Int.reduceLE, Int.reduceLT, Int.reduceToNat, Int.reduceAdd, Int.reduceSub, Int.reduceMul, Int.reduceEq, hfl, hfl1, hfl2, hfl3, hfl4, hfl5, hfl6, NE, NE9, Nat.add_assoc, g1, g2, g3]
  refine call_of (sg _ _) ?_
  simp only [↓R1, R2, R3, R4, TY, reduceIte, Nat.reduceEqDiff, Nat.reduceAdd, Nat.reduceMul, Nat.reduceLT, Nat.reduceLeDiff, reduceCtorEq, decide_true, decide_false, Int.reduceLE, Int.reduceLT, Int.reduceToNat, Int.reduceAdd, Int.reduceSub, Int.reduceMul, Int.reduceEq, hfl, hfl1, hfl2, hfl3, hfl4, hfl5, hfl6, NE, NE9, Nat.add_assoc, g1, g2, g3]
  refine call_of (cm _ _) ?_
  simp only [↓R1, R2, R3, R4, TY, reduceIte, Nat.reduceEqDiff, Nat.reduceAdd, Nat.reduceMul, Nat.reduceLT, Nat.reduceLeDiff, reduceCtorEq, decide_true, decide_false, Int.reduceLE, Int.reduceLT, Int.reduceToNat, Int.reduceAdd, Int.reduceSub, Int.reduceMul, Int.reduceEq, hfl, hfl1, hfl2, hfl3, hfl4, hfl5, hfl6, NE, NE9, Nat.add_assoc, g1, g2, g3]
  refine call_of (cr _ _) ?_
  simp only [↓R1, R2, R3, R4, TY, reduceIte, Nat.reduceEqDiff, Nat.reduceAdd, Nat.reduceMul, Nat.reduceLT, Nat.reduceLeDiff, reduceCtorEq, decide_true, decide_false, Int.reduceLE, Int.reduceLT, Int.reduceToNat, Int.reduceAdd, Int.reduceSub, Int.reduceMul, Int.reduceEq, hfl, hfl1, hfl2, hfl3, hfl4, hfl5, hfl6, NE, NE9, Nat.add_assoc, g1, g2, g3]
  refine call_of (ml _ _) ?_
  simp only [↓R1, R2, R3, R4, TY, reduceIte, Nat.reduceEqDiff, Nat.reduceAdd, Nat.reduceMul, Nat.reduceLT, Nat.reduceLeDiff, reduceCtorEq, decide_true, decide_false, Int.reduceLE, Int.reduceLT, Int.reduceToNat, Int.reduceAdd, Int.reduceSub, Int.reduceMul, Int.reduceEq, hfl, hfl1, hfl2, hfl3, hfl4, hfl5, hfl6, NE, NE9, Nat.add_assoc, g1, g2, g3]
  refine call_of (dv _ _) ?_
  simp only [↓R1, R2, R3, R4, TY, reduceIte, Nat.reduceEqDiff, Nat.reduceAdd, Nat.reduceMul, Nat.reduceLT, Nat.reduceLeDiff, reduceCtorEq, decide_true, decide_false, Int.reduceLE, Int.reduceLT, Int.reduceToNat, Int.reduceAdd, Int.reduceSub, Int.reduceMul, Int.reduceEq, hfl, hfl1, hfl2, hfl3, hfl4, hfl5, hfl6, NE, NE9, Nat.add_assoc, g1, g2, g3]
  rw [floOf_wr (by kernel_rfl)]
  simp only [↓R1, R2, R3, R4, TY, reduceIte, Nat.reduceEqDiff, Nat.reduceAdd, Nat.reduceMul, Nat.reduceLT, Nat.reduceLeDiff, reduceCtorEq, decide_true, decide_false, Int.reduceLE, Int.reduceLT, Int.reduceToNat, Int.reduceAdd, Int.reduceSub, Int.reduceMul, Int.reduceEq, hfl, hfl1, hfl2, hfl3, hfl4, hfl5, hfl6, NE, NE9, Nat.add_assoc, g1, g2, g3]
  refine Ended.back hA ?_ rfl hrb
  simp (maxDischargeDepth := 20) only [xt_push, xt_put, xt_refl, Nat.le_refl, Nat.le_add_right, Nat.add_assoc, Nat.reduceAdd]

theorem te_ok {p a b : V2} {k : Nat} (hG : G 1 = some tabV) (hp : Pz p k) (ha : Pz a k) (hb : Pz b k) (hk : k ≤ 1000) : Sound Tryd.prog G 103 [prV p.1 p.2, prV a.1 a.2, prV b.1 b.2] fl A (ratV (te p a b)) A := by
  by_cases h1 : 0 < teT p a b
  · by_cases h2 : teS a b ≤ teT p a b
    · exact te_2 hG hp ha hb hk h1 h2
    · exact te_3 hG hp ha hb hk h1 h2
  · exact te_1 hG hp ha hb hk h1

end
end Go.Proofs.YthclikeipdplpaaDoor.Ab
