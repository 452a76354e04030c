/- Distances of polygons: edges, near. -/
import Derived.Test.YthclikeipdplpaaGreatDoorYk
import Derived.Test.YthclikeipdplpaaGreatDoorYc
namespace Go.Proofs.YthclikeipdplpaaGreatDoor.Ab
open Go.RowKit
set_option linter.unusedVariables false
set_option linter.unusedSimpArgs false
set_option maxRecDepth 100000

/-- The square of the distance of a point from a segment, and its parts. -/
def teT (p a b : V2) : Rat := (p.1 - a.1) * (b.1 - a.1) + (p.2 - a.2) * (b.2 - a.2)
def teS (a b : V2) : Rat := (b.1 - a.1) * (b.1 - a.1) + (b.2 - a.2) * (b.2 - a.2)
def te (p a b : V2) : Rat := if 0 < teT p a b then (if teS a b ≤ teT p a b then teS b p else crs a b p * crs a b p / teS a b) else teS a p
theorem Pz.sub {p q : V2} {k : Nat} (hp : Pz p k) (hq : Pz q k) : Rz (p.1 - q.1) (2 * k + 1) ∧ Rz (p.2 - q.2) (2 * k + 1) := ⟨(hp.1.sub hq.1).mono (by omega), (hp.2.sub hq.2).mono (by omega)⟩
theorem rz_teT {p a b : V2} {k : Nat} (hp : Pz p k) (ha : Pz a k) (hb : Pz b k) : Rz (teT p a b) (8 * k + 5) := by
  have h1 := hp.sub ha
  have h2 := hb.sub ha
  exact ((h1.1.mul h2.1).add (h1.2.mul h2.2)).mono (by omega)
theorem rz_teS {a b : V2} {k : Nat} (ha : Pz a k) (hb : Pz b k) : Rz (teS a b) (8 * k + 5) := by
  have h2 := hb.sub ha
  exact ((h2.1.mul h2.1).add (h2.2.mul h2.2)).mono (by omega)
theorem rz_crs {p a b : V2} {k : Nat} (hp : Pz p k) (ha : Pz a k) (hb : Pz b k) : Rz (crs a b p) (8 * k + 5) := by
  have h1 := hp.sub ha
  have h2 := hb.sub ha
  exact ((h2.1.mul h1.2).sub (h2.2.mul h1.1)).mono (by omega)
theorem rz_te {p a b : V2} {k : Nat} (hp : Pz p k) (ha : Pz a k) (hb : Pz b k) : Rz (te p a b) (24 * k + 15) := by
  unfold te
  split
  · split
    · exact (rz_teS hb hp).mono (by omega)
    · rename_i h1 h2
      have hs : teS a b ≠ 0 := by grind
      exact (((rz_crs hp ha hb).mul (rz_crs hp ha hb)).div (rz_teS ha hb) (num_ne hs)).mono (by omega)
  · exact (rz_teS ha hp).mono (by omega)
def near (p : V2) (l : List V2) : Nat → Rat
  | 0 => te p (pget l 0) (pget l 1)
  | i + 1 => rmin (near p l i) (te p (pget l i) (pget l ((i + 1) % l.length)))
theorem rz_near {p : V2} {l : List V2} {k : Nat} (hp : Pz p k) (hz : Lz l k) (h2 : 2 ≤ l.length) : ∀ i, i ≤ l.length → Rz (near p l i) (24 * k + 15)
  | 0, _ => rz_te hp (hz.at (by omega)) (hz.at (by omega))
  | i + 1, h => (rz_near hp hz h2 i (by omega)).min (rz_te hp (hz.at (by omega)) (hz.at (mod_lt' (show i < l.length by omega) _)))
theorem rcmp_lt_iff' {p q : Rat} : rcmp p q < 0 ↔ p < q := by
  unfold rcmp; split
  · rename_i h; exact ⟨fun _ => h, fun _ => by decide⟩
  · split
    · exact ⟨fun h => absurd h (by decide), fun h => by contradiction⟩
    · exact ⟨fun h => absurd h (by decide), fun h => by contradiction⟩
theorem rcmp_ge' {p q : Rat} : (rcmp p q ≥ 0) = (q ≤ p) := by
  rw [eq_iff_iff]
  have h := @rcmp_lt_iff' p q
  constructor
  · intro h1; exact Rat.not_lt.1 fun h2 => by have := h.2 h2; omega
  · intro h1
    have : ¬ rcmp p q < 0 := fun h2 => by have := h.1 h2; exact absurd h1 (Rat.not_le.2 this)
    omega

section
variable {G : Gl} {fl : Nat} {A : Hp}

set_option maxHeartbeats 2000000 in
theorem te_1 {p a b : V2} {k : Nat} (hG : G 1 = some tabV) (hp : Pz p k) (ha : Pz a k) (hb : Pz b k) (hk : k ≤ 1000) (h1 : ¬ 0 < teT p a b) : Sound Tryz.prog G 109 [prV p.1 p.2, prV a.1 a.2, prV b.1 b.2] fl A (ratV (te p a b)) A := by
  refine Sound.of mixed Tryz.func109 Tryz.ntmps109 Tryz.results109 (by kernel_rfl) rfl (by kernel_rfl) (by simp) fun hA => ?_
  have hfl : fl ≤ A.next := by have := hA.floor; omega
  have hfl1 : fl ≤ A.next + 1 := by have := hA.floor; omega
  have hfl2 : fl ≤ A.next + 2 := by have := hA.floor; omega
  have hfl3 : fl ≤ A.next + 3 := by have := hA.floor; omega
  have hfl4 : fl ≤ A.next + 4 := by have := hA.floor; omega
  have hfl5 : fl ≤ A.next + 5 := by have := hA.floor; omega
  have hfl6 : fl ≤ A.next + 6 := by have := hA.floor; omega
  have eE := hb.sub ha
  have eD := hp.sub ha
  have eF := hp.sub hb
  have sE := fun fl A => vsub (G := G) (fl := fl) (A := A) hG hb.1 hb.2 ha.1 ha.2 (by omega)
  have sD := fun fl A => vsub (G := G) (fl := fl) (A := A) hG hp.1 hp.2 ha.1 ha.2 (by omega)
  have sF := fun fl A => vsub (G := G) (fl := fl) (A := A) hG hp.1 hp.2 hb.1 hb.2 (by omega)
  have dT := fun fl A => vdot (G := G) (fl := fl) (A := A) hG eD.1 eD.2 eE.1 eE.2 (by omega)
  have dS := fun fl A => vdot (G := G) (fl := fl) (A := A) hG eE.1 eE.2 eE.1 eE.2 (by omega)
  have dD := fun fl A => vdot (G := G) (fl := fl) (A := A) hG eD.1 eD.2 eD.1 eD.2 (by omega)
  have dF := fun fl A => vdot (G := G) (fl := fl) (A := A) hG eF.1 eF.2 eF.1 eF.2 (by omega)
  have cr := fun fl A => vcross (G := G) (fl := fl) (A := A) hG eE.1 eE.2 eD.1 eD.2 (by omega)
  have sg := fun fl A => qsign (G := G) (fl := fl) (A := A) hG (rz_teT hp ha hb) (by omega)
  have cm := fun fl A => qcmp (G := G) (fl := fl) (A := A) hG (rz_teT hp ha hb) (rz_teS ha hb) (by omega)
  have j1 : (p.1 - a.1) * (b.1 - a.1) + (p.2 - a.2) * (b.2 - a.2) = teT p a b := rfl
  have j2 : (b.1 - a.1) * (b.1 - a.1) + (b.2 - a.2) * (b.2 - a.2) = teS a b := rfl
  have j3 : (p.1 - a.1) * (p.1 - a.1) + (p.2 - a.2) * (p.2 - a.2) = teS a p := rfl
  have j4 : (p.1 - b.1) * (p.1 - b.1) + (p.2 - b.2) * (p.2 - b.2) = teS b p := rfl
  have j5 : (b.1 - a.1) * (p.2 - a.2) - (b.2 - a.2) * (p.1 - a.1) = crs a b p := rfl
  rw [j1] at dT
  rw [j2] at dS
  rw [j3] at dD
  rw [j4] at dF
  rw [j5] at cr
  have hrb := ratV_rb A.next (te p a b)
  have ev : te p a b = teS a p := by unfold te; rw [if_neg h1]
  rw [ev] at hrb ⊢
  have g1 : (rsign (teT p a b) ≤ 0) = True := eq_true (rsign_le.2 h1)
  generalize teT p a b = T at *
  generalize teS a b = S0 at *
  generalize teS a p = D0 at *
  generalize teS b p = F0 at *
  generalize crs a b p = C0 at *
  simp only [prV_def] at sE sD sF dT dS dD dF cr ⊢
  simp only [ratV_def] at dT dS dD dF cr sg cm hrb ⊢
  simp only [↓R1, R2, R3, R4, TY, reduceIte, Nat.reduceEqDiff, Nat.reduceAdd, Nat.reduceMul, Nat.reduceLT, Nat.reduceLeDiff, reduceCtorEq, decide_true, decide_false, Int.reduceLE, Int.reduceLT, Int.reduceToNat, Int.reduceAdd, Int.reduceSub, Int.reduceMul, Int.reduceEq, hfl, hfl1, hfl2, hfl3, hfl4, hfl5, hfl6, NE, NE9, Nat.add_assoc, g1]
  refine call_of (sE _ _) ?_
  simp only [↓R1, R2, R3, R4, TY, reduceIte, Nat.reduceEqDiff, Nat.reduceAdd, Nat.reduceMul, Nat.reduceLT, Nat.reduceLeDiff, reduceCtorEq, decide_true, decide_false, Int.reduceLE, Int.reduceLT, Int.reduceToNat, Int.reduceAdd, Int.reduceSub, Int.reduceMul, Int.reduceEq, hfl, hfl1, hfl2, hfl3, hfl4, hfl5, hfl6, NE, NE9, Nat.add_assoc, g1]
  refine call_of (sD _ _) ?_
  simp only [↓R1, R2, R3, R4, TY, reduceIte, Nat.reduceEqDiff, Nat.reduceAdd, Nat.reduceMul, Nat.reduceLT, Nat.reduceLeDiff, reduceCtorEq, decide_true, decide_false, Int.reduceLE, Int.reduceLT, Int.reduceToNat, Int.reduceAdd, Int.reduceSub, Int.reduceMul, Int.reduceEq, hfl, hfl1, hfl2, hfl3, hfl4, hfl5, hfl6, NE, NE9, Nat.add_assoc, g1]
  rw [floOf_wr (by kernel_rfl)]
  simp only [↓R1, R2, R3, R4, TY, reduceIte, Nat.reduceEqDiff, Nat.reduceAdd, Nat.reduceMul, Nat.reduceLT, Nat.reduceLeDiff, reduceCtorEq, decide_true, decide_false, Int.reduceLE, Int.reduceLT, Int.reduceToNat, Int.reduceAdd, Int.reduceSub, Int.reduceMul, Int.reduceEq, hfl, hfl1, hfl2, hfl3, hfl4, hfl5, hfl6, NE, NE9, Nat.add_assoc, g1]
  rw [floOf_wr (by kernel_rfl)]
  simp only [↓R1, R2, R3, R4, TY, reduceIte, Nat.reduceEqDiff, Nat.reduceAdd, Nat.reduceMul, Nat.reduceLT, Nat.reduceLeDiff, reduceCtorEq, decide_true, decide_false, Int.reduceLE, Int.reduceLT, Int.reduceToNat, Int.reduceAdd, Int.reduceSub, Int.reduceMul, Int.reduceEq, hfl, hfl1, hfl2, hfl3, hfl4, hfl5, hfl6, NE, NE9, Nat.add_assoc, g1]
  refine call_of (dT _ _) ?_
  simp only [↓R1, R2, R3, R4, TY, reduceIte, Nat.reduceEqDiff, Nat.reduceAdd, Nat.reduceMul, Nat.reduceLT, Nat.reduceLeDiff, reduceCtorEq, decide_true, decide_false, Int.reduceLE, Int.reduceLT, Int.reduceToNat, Int.reduceAdd, Int.reduceSub, Int.reduceMul, Int.reduceEq, hfl, hfl1, hfl2, hfl3, hfl4, hfl5, hfl6, NE, NE9, Nat.add_assoc, g1]
  refine call_of (dS _ _) ?_
  simp only [↓R1, R2, R3, R4, TY, reduceIte, Nat.reduceEqDiff, Nat.reduceAdd, Nat.reduceMul, Nat.reduceLT, Nat.reduceLeDiff, reduceCtorEq, decide_true, decide_false, Int.reduceLE, Int.reduceLT, Int.reduceToNat, Int.reduceAdd, Int.reduceSub, Int.reduceMul, Int.reduceEq, hfl, hfl1, hfl2, hfl3, hfl4, hfl5, hfl6, NE, NE9, Nat.add_assoc, g1]
  refine call_of (sg _ _) ?_
  simp only [↓R1, R2, R3, R4, TY, reduceIte, Nat.reduceEqDiff, Nat.reduceAdd, Nat.reduceMul, Nat.reduceLT, Nat.reduceLeDiff, reduceCtorEq, decide_true, decide_false, Int.reduceLE, Int.reduceLT, Int.reduceToNat, Int.reduceAdd, Int.reduceSub, Int.reduceMul, Int.reduceEq, hfl, hfl1, hfl2, hfl3, hfl4, hfl5, hfl6, NE, NE9, Nat.add_assoc, g1]
  refine call_of (dD _ _) ?_
  simp only [↓R1, R2, R3, R4, TY, reduceIte, Nat.reduceEqDiff, Nat.reduceAdd, Nat.reduceMul, Nat.reduceLT, Nat.reduceLeDiff, reduceCtorEq, decide_true, decide_false, Int.reduceLE, Int.reduceLT, Int.reduceToNat, Int.reduceAdd, Int.reduceSub, Int.reduceMul, Int.reduceEq, hfl, hfl1, hfl2, hfl3, hfl4, hfl5, hfl6, NE, NE9, Nat.add_assoc, g1]
  refine Ended.back hA ?_ rfl hrb
  simp (maxDischargeDepth := 20) only [xt_push, xt_put, xt_refl, Nat.le_refl, Nat.le_add_right, Nat.add_assoc, Nat.reduceAdd]

set_option maxHeartbeats 2000000 in
theorem te_2 {p a b : V2} {k : Nat} (hG : G 1 = some tabV) (hp : Pz p k) (ha : Pz a k) (hb : Pz b k) (hk : k ≤ 1000) (h1 : 0 < teT p a b) (h2 : teS a b ≤ teT p a b) : Sound Tryz.prog G 109 [prV p.1 p.2, prV a.1 a.2, prV b.1 b.2] fl A (ratV (te p a b)) A := by
  refine Sound.of mixed Tryz.func109 Tryz.ntmps109 Tryz.results109 (by kernel_rfl) rfl (by kernel_rfl) (by simp) fun hA => ?_
  have hfl : fl ≤ A.next := by have := hA.floor; omega
  have hfl1 : fl ≤ A.next + 1 := by have := hA.floor; omega
  have hfl2 : fl ≤ A.next + 2 := by have := hA.floor; omega
  have hfl3 : fl ≤ A.next + 3 := by have := hA.floor; omega
  have hfl4 : fl ≤ A.next + 4 := by have := hA.floor; omega
  have hfl5 : fl ≤ A.next + 5 := by have := hA.floor; omega
  have hfl6 : fl ≤ A.next + 6 := by have := hA.floor; omega
  have eE := hb.sub ha
  have eD := hp.sub ha
  have eF := hp.sub hb
  have sE := fun fl A => vsub (G := G) (fl := fl) (A := A) hG hb.1 hb.2 ha.1 ha.2 (by omega)
  have sD := fun fl A => vsub (G := G) (fl := fl) (A := A) hG hp.1 hp.2 ha.1 ha.2 (by omega)
  have sF := fun fl A => vsub (G := G) (fl := fl) (A := A) hG hp.1 hp.2 hb.1 hb.2 (by omega)
  have dT := fun fl A => vdot (G := G) (fl := fl) (A := A) hG eD.1 eD.2 eE.1 eE.2 (by omega)
  have dS := fun fl A => vdot (G := G) (fl := fl) (A := A) hG eE.1 eE.2 eE.1 eE.2 (by omega)
  have dD := fun fl A => vdot (G := G) (fl := fl) (A := A) hG eD.1 eD.2 eD.1 eD.2 (by omega)
  have dF := fun fl A => vdot (G := G) (fl := fl) (A := A) hG eF.1 eF.2 eF.1 eF.2 (by omega)
  have cr := fun fl A => vcross (G := G) (fl := fl) (A := A) hG eE.1 eE.2 eD.1 eD.2 (by omega)
  have sg := fun fl A => qsign (G := G) (fl := fl) (A := A) hG (rz_teT hp ha hb) (by omega)
  have cm := fun fl A => qcmp (G := G) (fl := fl) (A := A) hG (rz_teT hp ha hb) (rz_teS ha hb) (by omega)
  have j1 : (p.1 - a.1) * (b.1 - a.1) + (p.2 - a.2) * (b.2 - a.2) = teT p a b := rfl
  have j2 : (b.1 - a.1) * (b.1 - a.1) + (b.2 - a.2) * (b.2 - a.2) = teS a b := rfl
  have j3 : (p.1 - a.1) * (p.1 - a.1) + (p.2 - a.2) * (p.2 - a.2) = teS a p := rfl
  have j4 : (p.1 - b.1) * (p.1 - b.1) + (p.2 - b.2) * (p.2 - b.2) = teS b p := rfl
  have j5 : (b.1 - a.1) * (p.2 - a.2) - (b.2 - a.2) * (p.1 - a.1) = crs a b p := rfl
  rw [j1] at dT
  rw [j2] at dS
  rw [j3] at dD
  rw [j4] at dF
  rw [j5] at cr
  have hrb := ratV_rb A.next (te p a b)
  have ev : te p a b = teS b p := by unfold te; rw [if_pos h1, if_pos h2]
  rw [ev] at hrb ⊢
  have g1 : (rsign (teT p a b) ≤ 0) = False := eq_false (fun h => rsign_le.1 h h1)
  have g2 : (rcmp (teT p a b) (teS a b) ≥ 0) = True := by rw [rcmp_ge']; exact eq_true h2
  have g3 : (0 ≤ rcmp (teT p a b) (teS a b)) = True := g2
  generalize teT p a b = T at *
  generalize teS a b = S0 at *
  generalize teS a p = D0 at *
  generalize teS b p = F0 at *
  generalize crs a b p = C0 at *
  simp only [prV_def] at sE sD sF dT dS dD dF cr ⊢
  simp only [ratV_def] at dT dS dD dF cr sg cm hrb ⊢
  simp only [↓R1, R2, R3, R4, TY, reduceIte, Nat.reduceEqDiff, Nat.reduceAdd, Nat.reduceMul, Nat.reduceLT, Nat.reduceLeDiff, reduceCtorEq, decide_true, decide_false, Int.reduceLE, Int.reduceLT, Int.reduceToNat, Int.reduceAdd, Int.reduceSub, Int.reduceMul, Int.reduceEq, hfl, hfl1, hfl2, hfl3, hfl4, hfl5, hfl6, NE, NE9, Nat.add_assoc, g1, g2, g3]
  refine call_of (sE _ _) ?_
  simp only [↓R1, R2, R3, R4, TY, reduceIte, Nat.reduceEqDiff, Nat.reduceAdd, Nat.reduceMul, Nat.reduceLT, Nat.reduceLeDiff, reduceCtorEq, decide_true, decide_false, Int.reduceLE, Int.reduceLT, Int.reduceToNat, Int.reduceAdd, Int.reduceSub, Int.reduceMul, Int.reduceEq, hfl, hfl1, hfl2, hfl3, hfl4, hfl5, hfl6, NE, NE9, Nat.add_assoc, g1, g2, g3]
  refine call_of (sD _ _) ?_
  simp only [↓R1, R2, R3, R4, TY, reduceIte, Nat.reduceEqDiff, Nat.reduceAdd, Nat.reduceMul, Nat.reduceLT, Nat.reduceLeDiff, reduceCtorEq, decide_true, decide_false, Int.reduceLE, Int.reduceLT, Int.reduceToNat, Int.reduceAdd, Int.reduceSub, Int.reduceMul, Int.reduceEq, hfl, hfl1, hfl2, hfl3, hfl4, hfl5, hfl6, NE, NE9, Nat.add_assoc, g1, g2, g3]
  rw [floOf_wr (by kernel_rfl)]
  simp only [↓R1, R2, R3, R4, TY, reduceIte, Nat.reduceEqDiff, Nat.reduceAdd, Nat.reduceMul, Nat.reduceLT, Nat.reduceLeDiff, reduceCtorEq, decide_true, decide_false, Int.reduceLE, Int.reduceLT, Int.reduceToNat, Int.reduceAdd, Int.reduceSub, Int.reduceMul, Int.reduceEq, hfl, hfl1, hfl2, hfl3, hfl4, hfl5, hfl6, NE, NE9, Nat.add_assoc, g1, g2, g3]
  rw [floOf_wr (by kernel_rfl)]
  simp only [↓R1, R2, R3, R4, TY, reduceIte, Nat.reduceEqDiff, Nat.reduceAdd, Nat.reduceMul, Nat.reduceLT, Nat.reduceLeDiff, reduceCtorEq, decide_true, decide_false, Int.reduceLE, Int.reduceLT, Int.reduceToNat, Int.reduceAdd, Int.reduceSub, Int.reduceMul, Int.reduceEq, hfl, hfl1, hfl2, hfl3, hfl4, hfl5, hfl6, NE, NE9, Nat.add_assoc, g1, g2, g3]
  refine call_of (dT _ _) ?_
  simp only [↓R1, R2, R3, R4, TY, reduceIte, Nat.reduceEqDiff, Nat.reduceAdd, Nat.reduceMul, Nat.reduceLT, Nat.reduceLeDiff, reduceCtorEq, decide_true, decide_false, Int.reduceLE, Int.reduceLT, Int.reduceToNat, Int.reduceAdd, Int.reduceSub, Int.reduceMul, Int.reduceEq, hfl, hfl1, hfl2, hfl3, hfl4, hfl5, hfl6, NE, NE9, Nat.add_assoc, g1, g2, g3]
  refine call_of (dS _ _) ?_
  simp only [↓R1, R2, R3, R4, TY, reduceIte, Nat.reduceEqDiff, Nat.reduceAdd, Nat.reduceMul, Nat.reduceLT, Nat.reduceLeDiff, reduceCtorEq, decide_true, decide_false, Int.reduceLE, Int.reduceLT, Int.reduceToNat, Int.reduceAdd, Int.reduceSub, Int.reduceMul, Int.reduceEq, hfl, hfl1, hfl2, hfl3, hfl4, hfl5, hfl6, NE, NE9, Nat.add_assoc, g1, g2, g3]
  refine call_of (sg _ _) ?_
  simp only [↓R1, R2, R3, R4, TY, reduceIte, Nat.reduceEqDiff, Nat.reduceAdd, Nat.reduceMul, Nat.reduceLT, Nat.reduceLeDiff, reduceCtorEq, decide_true, decide_false, Int.reduceLE, Int.reduceLT, Int.reduceToNat, Int.reduceAdd, Int.reduceSub, Int.reduceMul, Int.reduceEq, hfl, hfl1, hfl2, hfl3, hfl4, hfl5, hfl6, NE, NE9, Nat.add_assoc, g1, g2, g3]
  refine call_of (cm _ _) ?_
  simp only [↓R1, R2, R3, R4, TY, reduceIte, Nat.reduceEqDiff, Nat.reduceAdd, Nat.reduceMul, Nat.reduceLT, Nat.reduceLeDiff, reduceCtorEq, decide_true, decide_false, Int.reduceLE, Int.reduceLT, Int.reduceToNat, Int.reduceAdd, Int.reduceSub, Int.reduceMul, Int.reduceEq, hfl, hfl1, hfl2, hfl3, hfl4, hfl5, hfl6, NE, NE9, Nat.add_assoc, g1, g2, g3]
  refine call_of (sF _ _) ?_
  simp only [↓R1, R2, R3, R4, TY, reduceIte, Nat.reduceEqDiff, Nat.reduceAdd, Nat.reduceMul, Nat.reduceLT, Nat.reduceLeDiff, reduceCtorEq, decide_true, decide_false, Int.reduceLE, Int.reduceLT, Int.reduceToNat, Int.reduceAdd, Int.reduceSub, Int.reduceMul, Int.reduceEq, hfl, hfl1, hfl2, hfl3, hfl4, hfl5, hfl6, NE, NE9, Nat.add_assoc, g1, g2, g3]
  refine call_of (dF _ _) ?_
  simp only [↓R1, R2, R3, R4, TY, reduceIte, Nat.reduceEqDiff, Nat.reduceAdd, Nat.reduceMul, Nat.reduceLT, Nat.reduceLeDiff, reduceCtorEq, decide_true, decide_false, Int.reduceLE, Int.reduceLT, Int.reduceToNat, Int.reduceAdd, Int.reduceSub, Int.reduceMul, Int.reduceEq, hfl, hfl1, hfl2, hfl3, hfl4, hfl5, hfl6, NE, NE9, Nat.add_assoc, g1, g2, g3]
  refine Ended.back hA ?_ rfl hrb
  simp (maxDischargeDepth := 20) only [xt_push, xt_put, xt_refl, Nat.le_refl, Nat.le_add_right, Nat.add_assoc, Nat.reduceAdd]

set_option maxHeartbeats 2000000 in
theorem te_3 {p a b : V2} {k : Nat} (hG : G 1 = some tabV) (hp : Pz p k) (ha : Pz a k) (hb : Pz b k) (hk : k ≤ 1000) (h1 : 0 < teT p a b) (h2 : ¬ teS a b ≤ teT p a b) : Sound Tryz.prog G 109 [prV p.1 p.2, prV a.1 a.2, prV b.1 b.2] fl A (ratV (te p a b)) A := by
  refine Sound.of mixed Tryz.func109 Tryz.ntmps109 Tryz.results109 (by kernel_rfl) rfl (by kernel_rfl) (by simp) fun hA => ?_
  have hfl : fl ≤ A.next := by have := hA.floor; omega
  have hfl1 : fl ≤ A.next + 1 := by have := hA.floor; omega
  have hfl2 : fl ≤ A.next + 2 := by have := hA.floor; omega
  have hfl3 : fl ≤ A.next + 3 := by have := hA.floor; omega
  have hfl4 : fl ≤ A.next + 4 := by have := hA.floor; omega
  have hfl5 : fl ≤ A.next + 5 := by have := hA.floor; omega
  have hfl6 : fl ≤ A.next + 6 := by have := hA.floor; omega
  have eE := hb.sub ha
  have eD := hp.sub ha
  have eF := hp.sub hb
  have sE := fun fl A => vsub (G := G) (fl := fl) (A := A) hG hb.1 hb.2 ha.1 ha.2 (by omega)
  have sD := fun fl A => vsub (G := G) (fl := fl) (A := A) hG hp.1 hp.2 ha.1 ha.2 (by omega)
  have sF := fun fl A => vsub (G := G) (fl := fl) (A := A) hG hp.1 hp.2 hb.1 hb.2 (by omega)
  have dT := fun fl A => vdot (G := G) (fl := fl) (A := A) hG eD.1 eD.2 eE.1 eE.2 (by omega)
  have dS := fun fl A => vdot (G := G) (fl := fl) (A := A) hG eE.1 eE.2 eE.1 eE.2 (by omega)
  have dD := fun fl A => vdot (G := G) (fl := fl) (A := A) hG eD.1 eD.2 eD.1 eD.2 (by omega)
  have dF := fun fl A => vdot (G := G) (fl := fl) (A := A) hG eF.1 eF.2 eF.1 eF.2 (by omega)
  have cr := fun fl A => vcross (G := G) (fl := fl) (A := A) hG eE.1 eE.2 eD.1 eD.2 (by omega)
  have sg := fun fl A => qsign (G := G) (fl := fl) (A := A) hG (rz_teT hp ha hb) (by omega)
  have cm := fun fl A => qcmp (G := G) (fl := fl) (A := A) hG (rz_teT hp ha hb) (rz_teS ha hb) (by omega)
  have j1 : (p.1 - a.1) * (b.1 - a.1) + (p.2 - a.2) * (b.2 - a.2) = teT p a b := rfl
  have j2 : (b.1 - a.1) * (b.1 - a.1) + (b.2 - a.2) * (b.2 - a.2) = teS a b := rfl
  have j3 : (p.1 - a.1) * (p.1 - a.1) + (p.2 - a.2) * (p.2 - a.2) = teS a p := rfl
  have j4 : (p.1 - b.1) * (p.1 - b.1) + (p.2 - b.2) * (p.2 - b.2) = teS b p := rfl
  have j5 : (b.1 - a.1) * (p.2 - a.2) - (b.2 - a.2) * (p.1 - a.1) = crs a b p := rfl
  rw [j1] at dT
  rw [j2] at dS
  rw [j3] at dD
  rw [j4] at dF
  rw [j5] at cr
  have hs : teS a b ≠ 0 := by grind
  have zc := rz_crs hp ha hb
  have ml := fun fl A => qmul (G := G) (fl := fl) (A := A) hG zc zc (by omega)
  have dv := fun fl A => qdiv (G := G) (fl := fl) (A := A) hG (zc.mul zc) (rz_teS ha hb) (by omega) (num_ne hs)
  have hrb := ratV_rb A.next (te p a b)
  have ev : te p a b = crs a b p * crs a b p / teS a b := by unfold te; rw [if_pos h1, if_neg h2]
  rw [ev] at hrb ⊢
  have g1 : (rsign (teT p a b) ≤ 0) = False := eq_false (fun h => rsign_le.1 h h1)
  have g2 : (rcmp (teT p a b) (teS a b) ≥ 0) = False := by rw [rcmp_ge']; exact eq_false h2
  have g3 : (0 ≤ rcmp (teT p a b) (teS a b)) = False := g2
  generalize teT p a b = T at *
  generalize teS a b = S0 at *
  generalize teS a p = D0 at *
  generalize teS b p = F0 at *
  generalize crs a b p = C0 at *
  simp only [prV_def] at sE sD sF dT dS dD dF cr ⊢
  simp only [ratV_def] at dT dS dD dF cr sg cm ml dv hrb ⊢
  simp only [↓R1, R2, R3, R4, TY, reduceIte, Nat.reduceEqDiff, Nat.reduceAdd, Nat.reduceMul, Nat.reduceLT, Nat.reduceLeDiff, reduceCtorEq, decide_true, decide_false, Int.reduceLE, Int.reduceLT, Int.reduceToNat, Int.reduceAdd, Int.reduceSub, Int.reduceMul, Int.reduceEq, hfl, hfl1, hfl2, hfl3, hfl4, hfl5, hfl6, NE, NE9, Nat.add_assoc, g1, g2, g3]
  refine call_of (sE _ _) ?_
  simp only [↓R1, R2, R3, R4, TY, reduceIte, Nat.reduceEqDiff, Nat.reduceAdd, Nat.reduceMul, Nat.reduceLT, Nat.reduceLeDiff, reduceCtorEq, decide_true, decide_false, Int.reduceLE, Int.reduceLT, Int.reduceToNat, Int.reduceAdd, Int.reduceSub, Int.reduceMul, Int.reduceEq, hfl, hfl1, hfl2, hfl3, hfl4, hfl5, hfl6, NE, NE9, Nat.add_assoc, g1, g2, g3]
  refine call_of (sD _ _) ?_
  simp only [↓R1, R2, R3, R4, TY, reduceIte, Nat.reduceEqDiff, Nat.reduceAdd, Nat.reduceMul, Nat.reduceLT, Nat.reduceLeDiff, reduceCtorEq, decide_true, decide_false, Int.reduceLE, Int.reduceLT, Int.reduceToNat, Int.reduceAdd, Int.reduceSub, Int.reduceMul, Int.reduceEq, hfl, hfl1, hfl2, hfl3, hfl4, hfl5, hfl6, NE, NE9, Nat.add_assoc, g1, g2, g3]
  rw [floOf_wr (by kernel_rfl)]
  simp only [↓R1, R2, R3, R4, TY, reduceIte, Nat.reduceEqDiff, Nat.reduceAdd, Nat.reduceMul, Nat.reduceLT, Nat.reduceLeDiff, reduceCtorEq, decide_true, decide_false, Int.reduceLE, Int.reduceLT, Int.reduceToNat, Int.reduceAdd, Int.reduceSub, Int.reduceMul, Int.reduceEq, hfl, hfl1, hfl2, hfl3, hfl4, hfl5, hfl6, NE, NE9, Nat.add_assoc, g1, g2, g3]
  rw [floOf_wr (by kernel_rfl)]
  simp only [↓R1, R2, R3, R4, TY, reduceIte, Nat.reduceEqDiff, Nat.reduceAdd, Nat.reduceMul, Nat.reduceLT, Nat.reduceLeDiff, reduceCtorEq, decide_true, decide_false, Int.reduceLE, Int.reduceLT, Int.reduceToNat, Int.reduceAdd, Int.reduceSub, Int.reduceMul, Int.reduceEq, hfl, hfl1, hfl2, hfl3, hfl4, hfl5, hfl6, NE, NE9, Nat.add_assoc, g1, g2, g3]
  refine call_of (dT _ _) ?_
  simp only [↓R1, R2, R3, R4, TY, reduceIte, Nat.reduceEqDiff, Nat.reduceAdd, Nat.reduceMul, Nat.reduceLT, Nat.reduceLeDiff, reduceCtorEq, decide_true, decide_false, Int.reduceLE, Int.reduceLT, Int.reduceToNat, Int.reduceAdd, Int.reduceSub, Int.reduceMul, Int.reduceEq, hfl, hfl1, hfl2, hfl3, hfl4, hfl5, hfl6, NE, NE9, Nat.add_assoc, g1, g2, g3]
  refine call_of (dS _ _) ?_
  simp only [↓R1, R2, R3, R4, TY, reduceIte, Nat.reduceEqDiff, Nat.reduceAdd, Nat.reduceMul, Nat.reduceLT, Nat.reduceLeDiff, reduceCtorEq, decide_true, decide_false, Int.reduceLE, Int.reduceLT, Int.reduceToNat, Int.reduceAdd, Int.reduceSub, Int.reduceMul, Int.reduceEq, hfl, hfl1, hfl2, hfl3, hfl4, hfl5, hfl6, NE, NE9, Nat.add_assoc, g1, g2, g3]
  refine call_of (sg _ _) ?_
  simp only [↓R1, R2, R3, R4, TY, reduceIte, Nat.reduceEqDiff, Nat.reduceAdd, Nat.reduceMul, Nat.reduceLT, Nat.reduceLeDiff, reduceCtorEq, decide_true, decide_false, Int.reduceLE, Int.reduceLT, Int.reduceToNat, Int.reduceAdd, Int.reduceSub, Int.reduceMul, Int.reduceEq, hfl, hfl1, hfl2, hfl3, hfl4, hfl5, hfl6, NE, NE9, Nat.add_assoc, g1, g2, g3]
  refine call_of (cm _ _) ?_
  simp only [↓R1, R2, R3, R4, TY, reduceIte, Nat.reduceEqDiff, Nat.reduceAdd, Nat.reduceMul, Nat.reduceLT, Nat.reduceLeDiff, reduceCtorEq, decide_true, decide_false, Int.reduceLE, Int.reduceLT, Int.reduceToNat, Int.reduceAdd, Int.reduceSub, Int.reduceMul, Int.reduceEq, hfl, hfl1, hfl2, hfl3, hfl4, hfl5, hfl6, NE, NE9, Nat.add_assoc, g1, g2, g3]
  refine call_of (cr _ _) ?_
  simp only [↓R1, R2, R3, R4, TY, reduceIte, Nat.reduceEqDiff, Nat.reduceAdd, Nat.reduceMul, Nat.reduceLT, Nat.reduceLeDiff, reduceCtorEq, decide_true, decide_false, Int.reduceLE, Int.reduceLT, Int.reduceToNat, Int.reduceAdd, Int.reduceSub, Int.reduceMul, Int.reduceEq, hfl, hfl1, hfl2, hfl3, hfl4, hfl5, hfl6, NE, NE9, Nat.add_assoc, g1, g2, g3]
  refine call_of (ml _ _) ?_
  simp only [↓R1, R2, R3, R4, TY, reduceIte, Nat.reduceEqDiff, Nat.reduceAdd, Nat.reduceMul, Nat.reduceLT, Nat.reduceLeDiff, reduceCtorEq, decide_true, decide_false, Int.reduceLE, Int.reduceLT, Int.reduceToNat, Int.reduceAdd, Int.reduceSub, Int.reduceMul, Int.reduceEq, hfl, hfl1, hfl2, hfl3, hfl4, hfl5, hfl6, NE, NE9, Nat.add_assoc, g1, g2, g3]
  refine call_of (dv _ _) ?_
  simp only [↓R1, R2, R3, R4, TY, reduceIte, Nat.reduceEqDiff, Nat.reduceAdd, Nat.reduceMul, Nat.reduceLT, Nat.reduceLeDiff, reduceCtorEq, decide_true, decide_false, Int.reduceLE, Int.reduceLT, Int.reduceToNat, Int.reduceAdd, Int.reduceSub, Int.reduceMul, Int.reduceEq, hfl, hfl1, hfl2, hfl3, hfl4, hfl5, hfl6, NE, NE9, Nat.add_assoc, g1, g2, g3]
  rw [floOf_wr (by kernel_rfl)]
  simp only [↓R1, R2, R3, R4, TY, reduceIte, Nat.reduceEqDiff, Nat.reduceAdd, Nat.reduceMul, Nat.reduceLT, Nat.reduceLeDiff, reduceCtorEq, decide_true, decide_false, Int.reduceLE, Int.reduceLT, Int.reduceToNat, Int.reduceAdd, Int.reduceSub, Int.reduceMul, Int.reduceEq, hfl, hfl1, hfl2, hfl3, hfl4, hfl5, hfl6, NE, NE9, Nat.add_assoc, g1, g2, g3]
  refine Ended.back hA ?_ rfl hrb
  simp (maxDischargeDepth := 20) only [xt_push, xt_put, xt_refl, Nat.le_refl, Nat.le_add_right, Nat.add_assoc, Nat.reduceAdd]

theorem te_ok {p a b : V2} {k : Nat} (hG : G 1 = some tabV) (hp : Pz p k) (ha : Pz a k) (hb : Pz b k) (hk : k ≤ 1000) : Sound Tryz.prog G 109 [prV p.1 p.2, prV a.1 a.2, prV b.1 b.2] fl A (ratV (te p a b)) A := by
  by_cases h1 : 0 < teT p a b
  · by_cases h2 : teS a b ≤ teT p a b
    · exact te_2 hG hp ha hb hk h1 h2
    · exact te_3 hG hp ha hb hk h1 h2
  · exact te_1 hG hp ha hb hk h1

end
end Go.Proofs.YthclikeipdplpaaGreatDoor.Ab

/- Distances of polygons: near, beyond, Meet. -/
namespace Go.Proofs.YthclikeipdplpaaGreatDoor.Ab
open Go.RowKit
set_option linter.unusedVariables false
set_option linter.unusedSimpArgs false
set_option maxRecDepth 100000

/-- The outward normal of an edge; are the first corners of another polygon beyond the edge? -/
def nrm (a : List V2) (i : Nat) : V2 := ((pget a ((i + 1) % a.length)).2 - (pget a i).2, -((pget a ((i + 1) % a.length)).1 - (pget a i).1))
def beyN (a b : List V2) (i : Nat) : Nat → Bool
  | 0 => true
  | j + 1 => beyN a b i j && decide (0 < (nrm a i).1 * ((pget b j).1 - (pget a i).1) + (nrm a i).2 * ((pget b j).2 - (pget a i).2))
/-- The first edge beyond which another polygon lies. -/
def bidx (a b : List V2) : Option Nat := (List.range a.length).find? fun i => beyN a b i b.length
theorem bidx_some {a b : List V2} {i : Nat} (hi : i < a.length) (h : beyN a b i b.length = true) (hno : ∀ j, j < i → beyN a b j b.length = false) : bidx a b = some i := by
  unfold bidx
  rw [List.find?_range_eq_some]
  exact ⟨h, List.mem_range.2 hi, fun j hj => by rw [hno j hj]; rfl⟩
theorem bidx_none {a b : List V2} (h : ∀ i, i < a.length → beyN a b i b.length = false) : bidx a b = none := by
  unfold bidx
  rw [List.find?_eq_none]
  intro i hi
  rw [h i (List.mem_range.1 hi)]; decide
def bvec (a b : List V2) : Value := match bidx a b with | some i => prV (nrm a i).1 (nrm a i).2 | none => vZ
theorem bvec_some {a b : List V2} {i : Nat} (h : bidx a b = some i) : bvec a b = prV (nrm a i).1 (nrm a i).2 := by unfold bvec; rw [h]
theorem bvec_none {a b : List V2} (h : bidx a b = none) : bvec a b = vZ := by unfold bvec; rw [h]
theorem bvec_form (a b : List V2) : ∃ c0 c1 c2 c3 c4 c5, bvec a b = .agg #[.bool c0, .string c1, .string c2, .bool c3, .string c4, .string c5] := by
  cases h : bidx a b with
  | some i => rw [bvec_some h]; exact ⟨_, _, _, _, _, _, prV_def _ _⟩
  | none => rw [bvec_none h]; exact ⟨_, _, _, _, _, _, vZ_def⟩
theorem rz_nrm {a : List V2} {k i : Nat} (hz : Lz a k) (hi : i < a.length) : Pz (nrm a i) (2 * k + 1) := by
  have h := (hz.at (mod_lt' hi (i + 1))).sub (hz.at hi)
  exact ⟨h.2, h.1.neg⟩
theorem tup_rb {m : Nat} {v w : Value} (hv : RB m v) (hw : RB m w) : RB m (.tuple [v, w].toArray) := by
  refine RB.tuple fun u hu => ?_
  simp only [List.mem_cons, List.not_mem_nil, or_false] at hu
  rcases hu with rfl | rfl
  · exact hv
  · exact hw
theorem vZ_rb (n : Nat) : RB n vZ := RB.agg fun v hv => by
  simp only [List.mem_cons, List.not_mem_nil, or_false] at hv
  rcases hv with rfl | rfl | rfl | rfl | rfl | rfl <;> exact RB.zc rfl
theorem bvec_rb (n : Nat) (a b : List V2) : RB n (bvec a b) := by
  unfold bvec
  split
  · exact prV_rb _ _ _
  · exact vZ_rb _

section
variable {G : Gl} {fl : Nat} {A : Hp}

set_option maxHeartbeats 8000000 in
theorem near_ok {v : Value} {l : List V2} {p : V2} {k : Nat} (hG : G 1 = some tabV) (hs : Sl A 6 v (l.map vC)) (hz : Lz l k) (hp : Pz p k) (hk : k ≤ 1000) (h2 : 2 ≤ l.length) (hl : l.length ≤ 100000) :
    Sound Tryz.prog G 77 [prV p.1 p.2, v] fl A (ratV (near p l l.length)) A := by
  refine Sound.of mixed Tryz.func77 Tryz.ntmps77 Tryz.results77 (by kernel_rfl) rfl (by kernel_rfl) (by simp) fun hA => ?_
  obtain ⟨o, c, rfl⟩ := hs.len
  rw [List.length_map] at hs ⊢
  have hfl : fl ≤ A.next := by have := hA.floor; omega
  have hfl1 : fl ≤ A.next + 1 := by have := hA.floor; omega
  have hfl2 : fl ≤ A.next + 2 := by have := hA.floor; omega
  have hfl3 : fl ≤ A.next + 3 := by have := hA.floor; omega
  have hfl4 : fl ≤ A.next + 4 := by have := hA.floor; omega
  have hfl5 : fl ≤ A.next + 5 := by have := hA.floor; omega
  have hfl6 : fl ≤ A.next + 6 := by have := hA.floor; omega
  have hrb := ratV_rb A.next (near p l l.length)
  have h0 : 0 < l.length := by omega
  have h1 : 1 < l.length := by omega
  obtain ⟨a, rfl, -⟩ := hs.at (G := G) (i := 0) (by simpa using h0)
  have t0 := fun fl A => te_ok (G := G) (fl := fl) (A := A) hG hp (hz.at h0) (hz.at h1) hk
  have e0 : te p (pget l 0) (pget l 1) = near p l 0 := rfl
  rw [e0] at t0
  have hab := hs.lt hA
  have hab1 : a.block < A.next + 1 := by omega
  have hab2 : a.block < A.next + 1 + 1 := by omega
  have nea : (a.block = A.next) = False := eq_false (by omega)
  obtain ⟨g0, g1, g2, g3, g4, g5⟩ := vec_get (G := G) hs h0
  obtain ⟨u0, u1, u2, u3, u4, u5⟩ := vec_get (G := G) hs h1
  simp only [Nat.zero_mul, Nat.zero_add, Nat.one_mul] at g0 g1 g2 g3 g4 g5 u0 u1 u2 u3 u4 u5
  have ga : aadd a 0 = a := rfl
  rw [ga] at g0
  have c0 : (0 : Int) < ((l.length : Nat) : Int) := by omega
  have c1 : (1 : Int) < ((l.length : Nat) : Int) := by omega
  have hp0 := prV_def p.1 p.2
  rw [hp0]
  simp only [prV_def] at t0
  simp only [ratV_def] at t0
  simp only [↓R1, R2, R3, R4, TY, reduceIte, Nat.reduceEqDiff, Nat.reduceAdd, Nat.reduceMul, Nat.reduceLT, Nat.reduceLeDiff, reduceCtorEq, decide_true, decide_false, Int.reduceLE, Int.reduceLT, Int.reduceToNat, Int.reduceAdd, Int.reduceSub, Int.reduceMul, Int.reduceEq, hfl, hfl1, hfl2, hfl3, hfl4, hfl5, hfl6, NE, NE9, Nat.add_assoc, c0, c1, g0, g1, g2, g3, g4, g5, u0, u1, u2, u3, u4, u5, ga, hab, hab1, hab2, nea]
  refine call_of (t0 _ _) ?_
  simp only [↓R1, R2, R3, R4, TY, reduceIte, Nat.reduceEqDiff, Nat.reduceAdd, Nat.reduceMul, Nat.reduceLT, Nat.reduceLeDiff, reduceCtorEq, decide_true, decide_false, Int.reduceLE, Int.reduceLT, Int.reduceToNat, Int.reduceAdd, Int.reduceSub, Int.reduceMul, Int.reduceEq, hfl, hfl1, hfl2, hfl3, hfl4, hfl5, hfl6, NE, NE9, Nat.add_assoc, c0, c1, g0, g1, g2, g3, g4, g5, u0, u1, u2, u3, u4, u5, ga, hab, hab1, hab2, nea]
  rw [floOf_wr (by kernel_rfl)]
  simp only [↓R1, R2, R3, R4, TY, reduceIte, Nat.reduceEqDiff, Nat.reduceAdd, Nat.reduceMul, Nat.reduceLT, Nat.reduceLeDiff, reduceCtorEq, decide_true, decide_false, Int.reduceLE, Int.reduceLT, Int.reduceToNat, Int.reduceAdd, Int.reduceSub, Int.reduceMul, Int.reduceEq, hfl, hfl1, hfl2, hfl3, hfl4, hfl5, hfl6, NE, NE9, Nat.add_assoc]
  generalize hD : Hp.put _ _ _ = D
  have hxD : Xt A.next A D := by
    rw [← hD]
    simp (maxDischargeDepth := 20) only [xt_push, xt_put, xt_refl, Nat.le_refl, Nat.le_add_right, Nat.add_assoc, Nat.reduceAdd]
  have hDn : D.next = A.next + 3 := by rw [← hD]; rfl
  have kp : ∀ j, D.get G ⟨A.next, j, some 0⟩ = (vC p)[j]? := fun j => by
    rw [← hD]; simp [Hp.get, Hp.put_blk, Hp.push_blk, vC_def]
    rw [if_neg (by omega)]; simp
  have hD1 : D.blk (A.next + 1) = some (.row [.bool false, .string (S []), .string (S [])] 0 3) := by
    rw [← hD]; simp only [Hp.put_blk, Hp.push_blk, Hp.push_next, Hp.put_next]
    repeat (first | rw [if_pos trivial] | rw [if_neg (by omega)])
  have hD2 : D.blk (A.next + 2) = some (.row [.bool (decide ((near p l 0).num < 0)), .string (S (nb (near p l 0).num.natAbs)), .string (S (nb (near p l 0).den))] 0 3) := by
    rw [← hD]; simp only [Hp.put_blk, if_true]
  clear hD
  refine range_of 18 l.length (fun i τ C => Xt A.next A C ∧ A.next + 2 < C.next ∧ (∀ j, C.get G ⟨A.next, j, some 0⟩ = (vC p)[j]?) ∧ C.blk (A.next + 1) = some (.row [.bool false, .string (S []), .string (S [])] 0 3) ∧
    C.blk (A.next + 2) = some (.row [.bool (decide ((near p l i).num < 0)), .string (S (nb (near p l i).num.natAbs)), .string (S (nb (near p l i).den))] 0 3) ∧
    τ 1 = some (.slice (some a) l.length c) ∧ τ 2 = some (.pointer (some ⟨A.next, 0, some 0⟩)) ∧ τ 4 = some (.pointer (some ⟨A.next + 1, 0, some 0⟩)) ∧ τ 5 = some (.pointer (some ⟨A.next + 2, 0, some 0⟩)) ∧ τ 16 = some (.slice (some a) l.length c) ∧ τ 17 = some (.int .i64 (l.length : Nat)) ∧ τ 18 = some (.int .i64 (i : Nat))) ?_ ?_
  · exact ⟨hxD, by omega, kp, hD1, hD2, rfl, rfl, rfl, rfl, rfl, rfl, rfl⟩
  rintro i τ C hi ⟨hx, hn, kp, hC1, hC2, q1, q2, q4, q5, q16, q17, q18⟩
  have hflC : fl ≤ C.next := Nat.le_trans hA.floor hx.next
  have hn0 : A.next < C.next := by omega
  have hn1 : A.next + 1 < C.next := by omega
  have hn3 : A.next + 2 < C.next + 1 := by omega
  have hn4 : A.next < C.next + 1 := by omega
  have ne0 : (A.next = C.next) = False := eq_false (by omega)
  have ne1 : (A.next + 1 = C.next) = False := eq_false (by omega)
  have ne2 : (A.next + 2 = C.next) = False := eq_false (by omega)
  have ne3 : (C.next = A.next + 2) = False := eq_false (by omega)
  have ne4 : (A.next + 1 = A.next + 2) = False := eq_false (by omega)
  have ne5 : (A.next = A.next + 2) = False := eq_false (by omega)
  have gN : ∀ j, C.get G ⟨A.next + 2, j, some 0⟩ = ([.bool (decide ((near p l i).num < 0)), .string (S (nb (near p l i).num.natAbs)), .string (S (nb (near p l i).den))] : List Value)[j]? := fun j => by simp only [Hp.get, hC2, if_true]
  simp only [↓R1, R2, R3, R4, TY, reduceIte, Nat.reduceEqDiff, Nat.reduceAdd, Nat.reduceMul, Nat.reduceLT, Nat.reduceLeDiff, reduceCtorEq, decide_true, decide_false, Int.reduceLE, Int.reduceLT, Int.reduceToNat, Int.reduceAdd, Int.reduceSub, Int.reduceMul, Int.reduceEq, q1, q2, q4, q5, q16, q17, q18]
  refine ⟨fun hlt => ?_, fun hlt => ?_⟩
  rotate_left
  · have e : i = l.length := by omega
    subst e
    simp only [↓R1, R2, R3, R4, TY, reduceIte, Nat.reduceEqDiff, Nat.reduceAdd, Nat.reduceMul, Nat.reduceLT, Nat.reduceLeDiff, reduceCtorEq, decide_true, decide_false, Int.reduceLE, Int.reduceLT, Int.reduceToNat, Int.reduceAdd, Int.reduceSub, Int.reduceMul, Int.reduceEq, q1, q2, q4, q5, q16, q17, q18, hflC, gN, hn, hC1, hfl, hfl1, hfl2, hfl3, hfl4, hfl5, hfl6, NE, NE9, Nat.add_assoc]
    refine Ended.back hA ?_ rfl hrb
    simp (maxDischargeDepth := 20) only [xt_push, xt_put, hx, hx.next, Nat.le_refl, Nat.le_add_right]
  have hlt' : i < l.length := by omega
  have hsC := hs.xt hA hx
  have hac : a.block < C.next := Nat.lt_of_lt_of_le hab hx.next
  have hac1 : a.block < C.next + 1 := Nat.lt_succ_of_lt hac
  have nec : (a.block = C.next) = False := eq_false (by omega)
  have l1 : (i + 1) % l.length < l.length := mod_lt' hlt' _
  obtain ⟨g0, g1, g2, g3, g4, g5⟩ := vec_get (G := G) hsC hlt'
  obtain ⟨u0, u1, u2, u3, u4, u5⟩ := vec_get (G := G) hsC l1
  have w1 : IntKind.i64.wrap (((i : Nat) : Int) + 1) = ((i + 1 : Nat) : Int) := wrapI (by omega)
  have n0 : (((l.length : Nat) : Int) = 0) = False := eq_false (by omega)
  have hi63 : i < 9223372036854775807 := by omega
  have t1 := fun fl A => te_ok (G := G) (fl := fl) (A := A) hG hp (hz.at hlt') (hz.at l1) hk
  have mn := fun fl A => qmin (G := G) (fl := fl) (A := A) hG (rz_near hp hz h2 i (by omega)) (rz_te hp (hz.at hlt') (hz.at l1)) (by omega)
  have en : rmin (near p l i) (te p (pget l i) (pget l ((i + 1) % l.length))) = near p l (i + 1) := rfl
  rw [en] at mn
  simp only [prV_def] at t1
  simp only [ratV_def] at t1 mn
  simp only [↓R1, R2, R3, R4, TY, reduceIte, Nat.reduceEqDiff, Nat.reduceAdd, Nat.reduceMul, Nat.reduceLT, Nat.reduceLeDiff, reduceCtorEq, decide_true, decide_false, Int.reduceLE, Int.reduceLT, Int.reduceToNat, Int.reduceAdd, Int.reduceSub, Int.reduceMul, Int.reduceEq, q1, q2, q4, q5, q16, q17, q18, hlt, g0, g1, g2, g3, g4, g5, u0, u1, u2, u3, u4, u5, hac, hac1, nec, hn, hn0, hn1, hn3, hn4, ne0, ne1, ne2, ne3, ne4, ne5, gN, kp, vC_def, hflC, w1, tmod_nat, n0, l1, NE]
  refine call_of (t1 _ _) ?_
  simp only [↓R1, R2, R3, R4, TY, reduceIte, Nat.reduceEqDiff, Nat.reduceAdd, Nat.reduceMul, Nat.reduceLT, Nat.reduceLeDiff, reduceCtorEq, decide_true, decide_false, Int.reduceLE, Int.reduceLT, Int.reduceToNat, Int.reduceAdd, Int.reduceSub, Int.reduceMul, Int.reduceEq, q1, q2, q4, q5, q16, q17, q18, hflC, gN, hn, hn0, hn1, hn3, hn4, ne0, ne1, ne2, ne3, ne4, ne5, hC2, hfl, hfl1, hfl2, hfl3, hfl4, hfl5, hfl6, NE, NE9, Nat.add_assoc]
  refine call_of (mn _ _) ?_
  simp only [↓R1, R2, R3, R4, TY, reduceIte, Nat.reduceEqDiff, Nat.reduceAdd, Nat.reduceMul, Nat.reduceLT, Nat.reduceLeDiff, reduceCtorEq, decide_true, decide_false, Int.reduceLE, Int.reduceLT, Int.reduceToNat, Int.reduceAdd, Int.reduceSub, Int.reduceMul, Int.reduceEq, q1, q2, q4, q5, q16, q17, q18, hflC, gN, hn, hn0, hn1, hn3, hn4, ne0, ne1, ne2, ne3, ne4, ne5, hC2, hfl, hfl1, hfl2, hfl3, hfl4, hfl5, hfl6, NE, NE9, Nat.add_assoc]
  rw [floOf_wr (by kernel_rfl)]
  simp only [↓R1, R2, R3, R4, TY, reduceIte, Nat.reduceEqDiff, Nat.reduceAdd, Nat.reduceMul, Nat.reduceLT, Nat.reduceLeDiff, reduceCtorEq, decide_true, decide_false, Int.reduceLE, Int.reduceLT, Int.reduceToNat, Int.reduceAdd, Int.reduceSub, Int.reduceMul, Int.reduceEq, q1, q2, q4, q5, q16, q17, q18, hflC, gN, hn, hn0, hn1, hn3, hn4, ne0, ne1, ne2, ne3, ne4, ne5, hC2, hi63, hfl, hfl1, hfl2, hfl3, hfl4, hfl5, hfl6, NE, NE9, Nat.add_assoc]
  refine range_on q18 hlt' rfl ⟨?_, ?_, fun j => ?_, ?_, ?_, q1, q2, q4, q5, q16, q17, rfl⟩
  · simp (maxDischargeDepth := 20) only [xt_push, xt_put, hx, hx.next, Nat.le_refl, Nat.le_add_right]
  · simp only [Hp.put_next, Hp.push_next]; omega
  · rw [get_put_other ne5, get_put_other ne0, get_push_old hn0]; exact kp j
  · simp only [Hp.put_blk, Hp.push_blk, ne1, ne4, if_false]; exact hC1
  · simp only [Hp.put_blk, if_true]

set_option maxHeartbeats 2000000 in
theorem both_ok {va vb : Value} {a b : List V2} {k : Nat} (hG : G 1 = some tabV) (ha : Sl A 6 va (a.map vC)) (hb : Sl A 6 vb (b.map vC)) (za : Lz a k) (zb : Lz b k) (hk : k ≤ 500) (ca : pchk a 64 = 0) (cb : pchk b 64 = 0) : Sound Tryz.prog G 107 [va, vb] fl A (.int .i64 0) A := by
  refine Sound.of mixed Tryz.func107 Tryz.ntmps107 Tryz.results107 (by kernel_rfl) rfl (by kernel_rfl) (by simp) fun hA => ?_
  have hfl : fl ≤ A.next := by have := hA.floor; omega
  have hfl1 : fl ≤ A.next + 1 := by have := hA.floor; omega
  have hfl2 : fl ≤ A.next + 2 := by have := hA.floor; omega
  have hfl3 : fl ≤ A.next + 3 := by have := hA.floor; omega
  have hfl4 : fl ≤ A.next + 4 := by have := hA.floor; omega
  have hfl5 : fl ≤ A.next + 5 := by have := hA.floor; omega
  have hfl6 : fl ≤ A.next + 6 := by have := hA.floor; omega
  have la := (pchk_ok.1 ca).2.1
  have lb := (pchk_ok.1 cb).2.1
  have c1 := fun fl (A : Hp) (hs : Sl A 6 va (a.map vC)) => pconvex (G := G) (fl := fl) (A := A) hG hs za (by omega) (by omega)
  have c2 := fun fl (A : Hp) (hs : Sl A 6 vb (b.map vC)) => pconvex (G := G) (fl := fl) (A := A) hG hs zb (by omega) (by omega)
  rw [ca] at c1
  rw [cb] at c2
  simp only [↓R1, R2, R3, R4, TY, reduceIte, Nat.reduceEqDiff, Nat.reduceAdd, Nat.reduceMul, Nat.reduceLT, Nat.reduceLeDiff, reduceCtorEq, decide_true, decide_false, Int.reduceLE, Int.reduceLT, Int.reduceToNat, Int.reduceAdd, Int.reduceSub, Int.reduceMul, Int.reduceEq, hfl, hfl1, hfl2, hfl3, hfl4, hfl5, hfl6, NE]
  refine call_of (c1 _ _ ha) ?_
  simp only [↓R1, R2, R3, R4, TY, reduceIte, Nat.reduceEqDiff, Nat.reduceAdd, Nat.reduceMul, Nat.reduceLT, Nat.reduceLeDiff, reduceCtorEq, decide_true, decide_false, Int.reduceLE, Int.reduceLT, Int.reduceToNat, Int.reduceAdd, Int.reduceSub, Int.reduceMul, Int.reduceEq, hfl, hfl1, hfl2, hfl3, hfl4, hfl5, hfl6, NE]
  refine call_of (c2 _ _ hb) ?_
  simp only [↓R1, R2, R3, R4, TY, reduceIte, Nat.reduceEqDiff, Nat.reduceAdd, Nat.reduceMul, Nat.reduceLT, Nat.reduceLeDiff, reduceCtorEq, decide_true, decide_false, Int.reduceLE, Int.reduceLT, Int.reduceToNat, Int.reduceAdd, Int.reduceSub, Int.reduceMul, Int.reduceEq, hfl, hfl1, hfl2, hfl3, hfl4, hfl5, hfl6, NE]
  refine Ended.back hA (Xt.refl _) rfl (RB.int _ _)


end
end Go.Proofs.YthclikeipdplpaaGreatDoor.Ab

/- Distances of polygons: beyond, Meet. -/
namespace Go.Proofs.YthclikeipdplpaaGreatDoor.Ab
open Go.RowKit
set_option linter.unusedVariables false
set_option linter.unusedSimpArgs false
set_option maxRecDepth 100000

section
variable {G : Gl} {fl : Nat} {A : Hp}

set_option maxHeartbeats 8000000 in
theorem beyond_ok {va vb : Value} {a b : List V2} {k : Nat} (hG : G 1 = some tabV) (ha : Sl A 6 va (a.map vC)) (hb : Sl A 6 vb (b.map vC)) (za : Lz a k) (zb : Lz b k) (hk : k ≤ 500) (la : a.length ≤ 100000) (lb : b.length ≤ 100000) :
    Sound Tryz.prog G 108 [va, vb] fl A (.tuple [bvec a b, .bool (bidx a b).isSome].toArray) A := by
  refine Sound.of mixed Tryz.func108 Tryz.ntmps108 Tryz.results108 (by kernel_rfl) rfl (by kernel_rfl) (by simp) fun hA => ?_
  obtain ⟨oa, ca, rfl⟩ := ha.len
  obtain ⟨ob, cb, rfl⟩ := hb.len
  rw [List.length_map] at ha hb
  rw [List.length_map, List.length_map]
  have hfl : fl ≤ A.next := by have := hA.floor; omega
  have hfl1 : fl ≤ A.next + 1 := by have := hA.floor; omega
  have hfl2 : fl ≤ A.next + 2 := by have := hA.floor; omega
  have hfl3 : fl ≤ A.next + 3 := by have := hA.floor; omega
  have hfl4 : fl ≤ A.next + 4 := by have := hA.floor; omega
  have hfl5 : fl ≤ A.next + 5 := by have := hA.floor; omega
  have hfl6 : fl ≤ A.next + 6 := by have := hA.floor; omega
  simp only [↓R1, R2, R3, R4, TY, reduceIte, Nat.reduceEqDiff, Nat.reduceAdd, Nat.reduceMul, Nat.reduceLT, Nat.reduceLeDiff, reduceCtorEq, decide_true, decide_false, Int.reduceLE, Int.reduceLT, Int.reduceToNat, Int.reduceAdd, Int.reduceSub, Int.reduceMul, Int.reduceEq, hfl, hfl1, hfl2, hfl3, hfl4, hfl5, hfl6, NE, NE9, Nat.add_assoc]
  generalize hD : Hp.push _ _ = D
  have hxD : Xt A.next A D := by
    rw [← hD]
    simp (maxDischargeDepth := 20) only [xt_push, xt_put, xt_refl, Nat.le_refl, Nat.le_add_right, Nat.add_assoc, Nat.reduceAdd]
  have hDn : D.next = A.next + 1 := by rw [← hD]; rfl
  have hD0 : D.blk A.next = some (.row [.bool false, .string { data := #[] }, .string { data := #[] }, .bool false, .string { data := #[] }, .string { data := #[] }] 0 6) := by
    rw [← hD]; exact push_at rfl
  clear hD
  refine range_of 15 a.length (fun i τ C => Xt A.next A C ∧ A.next < C.next ∧ C.blk A.next = some (.row [.bool false, .string { data := #[] }, .string { data := #[] }, .bool false, .string { data := #[] }, .string { data := #[] }] 0 6) ∧
    τ 0 = some (.slice oa a.length ca) ∧ τ 1 = some (.slice ob b.length cb) ∧ τ 4 = some (.pointer (some ⟨A.next, 0, some 0⟩)) ∧ τ 13 = some (.slice oa a.length ca) ∧ τ 14 = some (.int .i64 (a.length : Nat)) ∧ τ 15 = some (.int .i64 (i : Nat)) ∧
    ∀ i', i' < i → beyN a b i' b.length = false) ?_ ?_
  · exact ⟨hxD, by omega, hD0, rfl, rfl, rfl, rfl, rfl, rfl, fun i' h => absurd h (by omega)⟩
  rintro i τ C hi ⟨hx, hn, hC0, q0, q1, q4, q13, q14, q15, hno⟩
  have hflC : fl ≤ C.next := Nat.le_trans hA.floor hx.next
  simp only [↓R1, R2, R3, R4, TY, reduceIte, Nat.reduceEqDiff, Nat.reduceAdd, Nat.reduceMul, Nat.reduceLT, Nat.reduceLeDiff, reduceCtorEq, decide_true, decide_false, Int.reduceLE, Int.reduceLT, Int.reduceToNat, Int.reduceAdd, Int.reduceSub, Int.reduceMul, Int.reduceEq, q0, q1, q4, q13, q14, q15]
  refine ⟨fun hlt => ?_, fun hlt => ?_⟩
  rotate_left
  · have hbn : bidx a b = none := bidx_none fun i' h' => hno i' (by omega)
    rw [hbn, bvec_none hbn]
    simp only [↓R1, R2, R3, R4, TY, reduceIte, Nat.reduceEqDiff, Nat.reduceAdd, Nat.reduceMul, Nat.reduceLT, Nat.reduceLeDiff, reduceCtorEq, decide_true, decide_false, Int.reduceLE, Int.reduceLT, Int.reduceToNat, Int.reduceAdd, Int.reduceSub, Int.reduceMul, Int.reduceEq, q0, q1, q4, hC0, hflC, hfl, hfl, hfl1, hfl2, hfl3, hfl4, hfl5, hfl6, NE, NE9, Nat.add_assoc]
    refine Ended.back hA ?_ rfl (tup_rb (vZ_rb _) (RB.bool _))
    simp (maxDischargeDepth := 20) only [xt_push, xt_put, hx, hx.next, Nat.le_refl, Nat.le_add_right]
  have hlt' : i < a.length := by omega
  obtain ⟨aa, rfl, -⟩ := ha.at (G := G) (i := i) (by simpa using hlt')
  have haC := ha.xt hA hx
  have hac : aa.block < C.next := Nat.lt_of_lt_of_le (ha.lt hA) hx.next
  have hac1 : aa.block < C.next + 1 := Nat.lt_succ_of_lt hac
  have nec : (aa.block = C.next) = False := eq_false (by omega)
  have l1 : (i + 1) % a.length < a.length := mod_lt' hlt' _
  obtain ⟨g0, g1, g2, g3, g4, g5⟩ := vec_get (G := G) haC hlt'
  obtain ⟨u0, u1, u2, u3, u4, u5⟩ := vec_get (G := G) haC l1
  have w1 : IntKind.i64.wrap (((i : Nat) : Int) + 1) = ((i + 1 : Nat) : Int) := wrapI (by omega)
  have n0 : (((a.length : Nat) : Int) = 0) = False := eq_false (by omega)
  have hi63 : i < 9223372036854775807 := by omega
  have z1 := za.at l1
  have z2 := za.at hlt'
  have zn := rz_nrm za hlt'
  have sb := fun fl A => vsub (G := G) (fl := fl) (A := A) hG z1.1 z1.2 z2.1 z2.2 (by omega)
  have ng := fun fl A => qneg (G := G) (fl := fl) (A := A) hG (z1.sub z2).1 (by omega)
  have en2 : -((pget a ((i + 1) % a.length)).1 - (pget a i).1) = (nrm a i).2 := rfl
  have en1 : (pget a ((i + 1) % a.length)).2 - (pget a i).2 = (nrm a i).1 := rfl
  rw [en2] at ng
  rw [en1] at sb
  generalize hn1 : (nrm a i).1 = N1 at *
  generalize hn2 : (nrm a i).2 = N2 at *
  simp only [prV_def] at sb
  simp only [ratV_def] at ng
  simp only [↓R1, R2, R3, R4, TY, reduceIte, Nat.reduceEqDiff, Nat.reduceAdd, Nat.reduceMul, Nat.reduceLT, Nat.reduceLeDiff, reduceCtorEq, decide_true, decide_false, Int.reduceLE, Int.reduceLT, Int.reduceToNat, Int.reduceAdd, Int.reduceSub, Int.reduceMul, Int.reduceEq, q0, q1, q4, q13, q14, q15, hlt, g0, g1, g2, g3, g4, g5, u0, u1, u2, u3, u4, u5, hac, hac1, nec, hflC, w1, tmod_nat, n0, l1, NE]
  refine call_of (sb _ _) ?_
  simp only [↓R1, R2, R3, R4, TY, reduceIte, Nat.reduceEqDiff, Nat.reduceAdd, Nat.reduceMul, Nat.reduceLT, Nat.reduceLeDiff, reduceCtorEq, decide_true, decide_false, Int.reduceLE, Int.reduceLT, Int.reduceToNat, Int.reduceAdd, Int.reduceSub, Int.reduceMul, Int.reduceEq, q0, q1, q4, q13, q14, q15, hflC, hfl, hfl1, hfl2, hfl3, hfl4, hfl5, hfl6, NE, NE9, Nat.add_assoc]
  rw [floOf_wr (by kernel_rfl)]
  simp only [↓R1, R2, R3, R4, TY, reduceIte, Nat.reduceEqDiff, Nat.reduceAdd, Nat.reduceMul, Nat.reduceLT, Nat.reduceLeDiff, reduceCtorEq, decide_true, decide_false, Int.reduceLE, Int.reduceLT, Int.reduceToNat, Int.reduceAdd, Int.reduceSub, Int.reduceMul, Int.reduceEq, q0, q1, q4, q13, q14, q15, hflC, hfl, hfl1, hfl2, hfl3, hfl4, hfl5, hfl6, NE, NE9, Nat.add_assoc]
  refine call_of (ng _ _) ?_
  simp only [↓R1, R2, R3, R4, TY, reduceIte, Nat.reduceEqDiff, Nat.reduceAdd, Nat.reduceMul, Nat.reduceLT, Nat.reduceLeDiff, reduceCtorEq, decide_true, decide_false, Int.reduceLE, Int.reduceLT, Int.reduceToNat, Int.reduceAdd, Int.reduceSub, Int.reduceMul, Int.reduceEq, q0, q1, q4, q13, q14, q15, hflC, hfl, hfl1, hfl2, hfl3, hfl4, hfl5, hfl6, NE, NE9, Nat.add_assoc]
  rw [floOf_wr (by kernel_rfl)]
  simp only [↓R1, R2, R3, R4, TY, reduceIte, Nat.reduceEqDiff, Nat.reduceAdd, Nat.reduceMul, Nat.reduceLT, Nat.reduceLeDiff, reduceCtorEq, decide_true, decide_false, Int.reduceLE, Int.reduceLT, Int.reduceToNat, Int.reduceAdd, Int.reduceSub, Int.reduceMul, Int.reduceEq, q0, q1, q4, q13, q14, q15, hflC, hfl, hfl1, hfl2, hfl3, hfl4, hfl5, hfl6, NE, NE9, Nat.add_assoc]
  generalize hE : Hp.put _ _ _ = E
  have hxE : Xt A.next A E := by
    rw [← hE]
    simp (maxDischargeDepth := 20) only [xt_push, xt_put, hx, hx.next, le_add]
  have hEn : E.next = C.next + 3 := by rw [← hE]; rfl
  have hE0 : E.blk A.next = some (.row [.bool false, .string { data := #[] }, .string { data := #[] }, .bool false, .string { data := #[] }, .string { data := #[] }] 0 6) := by
    have f1 : (A.next = C.next) = False := eq_false (by omega)
    have f2 : (A.next = C.next + 1) = False := eq_false (by omega)
    have f3 : (A.next = C.next + 1 + 1) = False := eq_false (by omega)
    rw [← hE]; simp only [Hp.put_blk, Hp.push_blk, Hp.push_next, Hp.put_next, f1, f2, f3, if_false]
    exact hC0
  have kp : ∀ j, E.get G ⟨C.next, j, some 0⟩ = (vC (pget a i))[j]? := fun j => by
    have f2 : (C.next = C.next + 1) = False := eq_false (by omega)
    have f3 : (C.next = C.next + 1 + 1) = False := eq_false (by omega)
    rw [← hE]; simp [Hp.get, Hp.put_blk, Hp.push_blk, f2, f3, vC_def]
  have kn : ∀ j, E.get G ⟨C.next + 2, j, some 0⟩ = ([.bool (decide (N1.num < 0)), .string (S (nb N1.num.natAbs)), .string (S (nb N1.den)), .bool (decide (N2.num < 0)), .string (S (nb N2.num.natAbs)), .string (S (nb N2.den))] : List Value)[j]? := fun j => by
    rw [← hE]; simp [Hp.get, Hp.put_blk]
  clear hE
  refine range_of 38 b.length (fun j τ F => Xt A.next A F ∧ C.next + 3 ≤ F.next ∧ F.blk A.next = some (.row [.bool false, .string { data := #[] }, .string { data := #[] }, .bool false, .string { data := #[] }, .string { data := #[] }] 0 6) ∧
    (∀ j, F.get G ⟨C.next, j, some 0⟩ = (vC (pget a i))[j]?) ∧ (∀ j, F.get G ⟨C.next + 2, j, some 0⟩ = ([.bool (decide (N1.num < 0)), .string (S (nb N1.num.natAbs)), .string (S (nb N1.den)), .bool (decide (N2.num < 0)), .string (S (nb N2.num.natAbs)), .string (S (nb N2.den))] : List Value)[j]?) ∧
    τ 0 = some (.slice (some aa) a.length ca) ∧ τ 1 = some (.slice ob b.length cb) ∧ τ 4 = some (.pointer (some ⟨A.next, 0, some 0⟩)) ∧ τ 7 = some (.pointer (some ⟨C.next, 0, some 0⟩)) ∧ τ 9 = some (.pointer (some ⟨C.next + 2, 0, some 0⟩)) ∧ τ 10 = some (.bool (beyN a b i j)) ∧
    τ 13 = some (.slice (some aa) a.length ca) ∧ τ 14 = some (.int .i64 (a.length : Nat)) ∧ τ 15 = some (.int .i64 (i : Nat)) ∧ τ 36 = some (.slice ob b.length cb) ∧ τ 37 = some (.int .i64 (b.length : Nat)) ∧ τ 38 = some (.int .i64 (j : Nat))) ?_ ?_
  · exact ⟨hxE, by omega, hE0, kp, kn, q0, q1, q4, rfl, rfl, rfl, q13, q14, q15, rfl, rfl, rfl⟩
  rintro j τ' F hj ⟨hx2, hn3, hF0, kp, kn, r0, r1, r4, r7, r9, r10, r13, r14, r15, r36, r37, r38⟩
  have hflF : fl ≤ F.next := Nat.le_trans hA.floor hx2.next
  have f1 : C.next < F.next := by omega
  have f2 : C.next + 2 < F.next := by omega
  have f3 : A.next < F.next := by omega
  have ne1 : (C.next = F.next) = False := eq_false (by omega)
  have ne2 : (C.next + 2 = F.next) = False := eq_false (by omega)
  have ne3 : (A.next = F.next) = False := eq_false (by omega)
  simp only [↓R1, R2, R3, R4, TY, reduceIte, Nat.reduceEqDiff, Nat.reduceAdd, Nat.reduceMul, Nat.reduceLT, Nat.reduceLeDiff, reduceCtorEq, decide_true, decide_false, Int.reduceLE, Int.reduceLT, Int.reduceToNat, Int.reduceAdd, Int.reduceSub, Int.reduceMul, Int.reduceEq, r0, r1, r4, r7, r9, r10, r13, r14, r15, r36, r37, r38]
  refine ⟨fun hjt => ?_, fun hjt => ?_⟩
  rotate_left
  · have e : j = b.length := by omega
    subst e
    cases hB : beyN a b i b.length with
    | true =>
      have hbs := bidx_some hlt' hB hno
      have hrb := bvec_rb A.next a b
      rw [hbs, bvec_some hbs, hn1, hn2]
      rw [bvec_some hbs, hn1, hn2] at hrb
      rw [prV_def] at hrb ⊢
      simp only [↓R1, R2, R3, R4, TY, reduceIte, Nat.reduceEqDiff, Nat.reduceAdd, Nat.reduceMul, Nat.reduceLT, Nat.reduceLeDiff, reduceCtorEq, decide_true, decide_false, Int.reduceLE, Int.reduceLT, Int.reduceToNat, Int.reduceAdd, Int.reduceSub, Int.reduceMul, Int.reduceEq, r0, r1, r4, r7, r9, r10, hB, kn, f2, hF0, hfl, hflF, hfl, hfl1, hfl2, hfl3, hfl4, hfl5, hfl6, NE, NE9, Nat.add_assoc]
      refine Ended.back hA ?_ rfl (tup_rb hrb (RB.bool _))
      simp (maxDischargeDepth := 20) only [xt_push, xt_put, hx2, hx2.next, Nat.le_refl, Nat.le_add_right]
    | false =>
      simp only [↓R1, R2, R3, R4, TY, reduceIte, Nat.reduceEqDiff, Nat.reduceAdd, Nat.reduceMul, Nat.reduceLT, Nat.reduceLeDiff, reduceCtorEq, decide_true, decide_false, Int.reduceLE, Int.reduceLT, Int.reduceToNat, Int.reduceAdd, Int.reduceSub, Int.reduceMul, Int.reduceEq, r0, r1, r4, r7, r9, r10, hB, r13, r14, r15, hi63]
      refine range_on q15 hlt' rfl ⟨hx2, by omega, hF0, r0, r1, r4, r13, r14, rfl, fun i' h' => ?_⟩
      by_cases e : i' = i
      · subst e; exact hB
      · exact hno i' (by omega)
  have hjt' : j < b.length := by omega
  obtain ⟨ab, rfl, -⟩ := hb.at (G := G) (i := j) (by simpa using hjt')
  have hbF := hb.xt hA hx2
  have hbc : ab.block < F.next := Nat.lt_of_lt_of_le (hb.lt hA) hx2.next
  obtain ⟨v0, v1, v2, v3, v4, v5⟩ := vec_get (G := G) hbF hjt'
  have hj63 : j < 9223372036854775807 := by omega
  have z3 := zb.at hjt'
  have s2 := fun fl A => vsub (G := G) (fl := fl) (A := A) hG z3.1 z3.2 z2.1 z2.2 (by omega)
  have zs := z3.sub z2
  have d2 := fun fl A => vdot (G := G) (fl := fl) (A := A) hG zn.1 zn.2 zs.1 zs.2 (by omega)
  have g2 := fun fl A => qsign (G := G) (fl := fl) (A := A) hG ((zn.1.mul zs.1).add (zn.2.mul zs.2)) (by omega)
  have eb : beyN a b i (j + 1) = (beyN a b i j && decide (0 < (nrm a i).1 * ((pget b j).1 - (pget a i).1) + (nrm a i).2 * ((pget b j).2 - (pget a i).2))) := rfl
  rw [hn1, hn2] at d2 g2 eb
  generalize N1 * ((pget b j).1 - (pget a i).1) + N2 * ((pget b j).2 - (pget a i).2) = dd at *
  have sgp : (rsign dd > 0) = (0 < dd) := by
    rw [eq_iff_iff]
    have h1 := @rsign_le dd
    constructor
    · intro h; exact Classical.not_not.1 fun h2 => by have := h1.2 h2; omega
    · intro h
      have : ¬ rsign dd ≤ 0 := fun h2 => h1.1 h2 h
      omega
  simp only [prV_def] at s2 d2
  simp only [ratV_def] at d2 g2
  simp only [↓R1, R2, R3, R4, TY, reduceIte, Nat.reduceEqDiff, Nat.reduceAdd, Nat.reduceMul, Nat.reduceLT, Nat.reduceLeDiff, reduceCtorEq, decide_true, decide_false, Int.reduceLE, Int.reduceLT, Int.reduceToNat, Int.reduceAdd, Int.reduceSub, Int.reduceMul, Int.reduceEq, r0, r1, r4, r7, r9, r10, r13, r14, r15, r36, r37, r38, hjt, v0, v1, v2, v3, v4, v5, hbc, hflF, NE]
  cases hB : beyN a b i j with
  | true =>
    rw [hB, Bool.true_and] at eb
    simp only [↓R1, R2, R3, R4, TY, reduceIte, Nat.reduceEqDiff, Nat.reduceAdd, Nat.reduceMul, Nat.reduceLT, Nat.reduceLeDiff, reduceCtorEq, decide_true, decide_false, Int.reduceLE, Int.reduceLT, Int.reduceToNat, Int.reduceAdd, Int.reduceSub, Int.reduceMul, Int.reduceEq, r0, r1, r4, r7, r9, r10, hB, r13, r14, r15, r36, r37, r38, kp, kn, vC_def, f1, f2, ne1, ne2, hflF, NE]
    refine call_of (s2 _ _) ?_
    simp only [↓R1, R2, R3, R4, TY, reduceIte, Nat.reduceEqDiff, Nat.reduceAdd, Nat.reduceMul, Nat.reduceLT, Nat.reduceLeDiff, reduceCtorEq, decide_true, decide_false, Int.reduceLE, Int.reduceLT, Int.reduceToNat, Int.reduceAdd, Int.reduceSub, Int.reduceMul, Int.reduceEq, r0, r1, r4, r7, r9, r10, hB, kp, kn, vC_def, f1, f2, ne1, ne2, hflF, NE]
    refine call_of (d2 _ _) ?_
    simp only [↓R1, R2, R3, R4, TY, reduceIte, Nat.reduceEqDiff, Nat.reduceAdd, Nat.reduceMul, Nat.reduceLT, Nat.reduceLeDiff, reduceCtorEq, decide_true, decide_false, Int.reduceLE, Int.reduceLT, Int.reduceToNat, Int.reduceAdd, Int.reduceSub, Int.reduceMul, Int.reduceEq]
    refine call_of (g2 _ _) ?_
    simp only [↓R1, R2, R3, R4, TY, reduceIte, Nat.reduceEqDiff, Nat.reduceAdd, Nat.reduceMul, Nat.reduceLT, Nat.reduceLeDiff, reduceCtorEq, decide_true, decide_false, Int.reduceLE, Int.reduceLT, Int.reduceToNat, Int.reduceAdd, Int.reduceSub, Int.reduceMul, Int.reduceEq, sgp, r0, r1, r4, r7, r9, hB, r13, r14, r15, r36, r37, r38, hj63]
    refine range_on r38 hjt' rfl ⟨?_, ?_, ?_, fun j => ?_, fun j => ?_, r0, r1, r4, r7, r9, by rw [eb]; rfl, r13, r14, r15, r36, r37, rfl⟩
    · simp (maxDischargeDepth := 20) only [xt_push, xt_put, hx2, hx2.next, Nat.le_refl]
    · simp only [Hp.put_next, Hp.push_next]; omega
    · simp only [Hp.put_blk, Hp.push_blk, ne3, if_false]; exact hF0
    · rw [get_put_other ne1, get_push_old f1]; exact kp j
    · rw [get_put_other ne2, get_push_old f2]; exact kn j
  | false =>
    rw [hB, Bool.false_and] at eb
    simp only [↓R1, R2, R3, R4, TY, reduceIte, Nat.reduceEqDiff, Nat.reduceAdd, Nat.reduceMul, Nat.reduceLT, Nat.reduceLeDiff, reduceCtorEq, decide_true, decide_false, Int.reduceLE, Int.reduceLT, Int.reduceToNat, Int.reduceAdd, Int.reduceSub, Int.reduceMul, Int.reduceEq, r0, r1, r4, r7, r9, r10, hB, r13, r14, r15, r36, r37, r38, hj63]
    refine range_on r38 hjt' rfl ⟨?_, ?_, ?_, fun j => ?_, fun j => ?_, r0, r1, r4, r7, r9, by rw [eb]; rfl, r13, r14, r15, r36, r37, rfl⟩
    · simp (maxDischargeDepth := 20) only [xt_push, xt_put, hx2, hx2.next, Nat.le_refl]
    · simp only [Hp.put_next, Hp.push_next]; omega
    · simp only [Hp.put_blk, Hp.push_blk, ne3, if_false]; exact hF0
    · rw [get_put_other ne1, get_push_old f1]; exact kp j
    · rw [get_put_other ne2, get_push_old f2]; exact kn j


end
end Go.Proofs.YthclikeipdplpaaGreatDoor.Ab
