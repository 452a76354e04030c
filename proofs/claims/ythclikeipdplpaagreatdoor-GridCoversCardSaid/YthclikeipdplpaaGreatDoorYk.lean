/- Polygons from raw numbers: runs of gantmake.Poly; the fact about package poly. -/
import Derived.Test.YthclikeipdplpaaGreatDoorYh
import Derived.Test.YthclikeipdplpaaGreatDoorQg
namespace Go.Proofs.YthclikeipdplpaaGreatDoor.Ab
open Go.RowKit
set_option linter.unusedVariables false
set_option linter.unusedSimpArgs false
set_option maxRecDepth 100000

section
variable {G : Gl} {fl : Nat} {A : Hp}

theorem pbAt {x y : Int} (h1 : -1000 ≤ x) (h2 : x ≤ 1000) (h3 : -1000 ≤ y) (h4 : y ≤ 1000) : Sound Tryz.prog G 60 [.int .i64 x, .int .i64 y] fl A (prV (rOf x) (rOf y)) A := by
  refine Sound.of mixed Tryz.func60 Tryz.ntmps60 Tryz.results60 (by kernel_rfl) rfl (by kernel_rfl) (by simp) fun hA => ?_
  have hfl := hA.floor
  have o1 := fun fl A => rof_ok (G := G) (fl := fl) (A := A) (n := x) (by omega) (by omega)
  have o2 := fun fl A => rof_ok (G := G) (fl := fl) (A := A) (n := y) (by omega) (by omega)
  have hrb := prV_rb A.next (rOf x) (rOf y)
  generalize rOf x = p at *
  generalize rOf y = q at *
  simp only [prV_def] at hrb ⊢
  simp only [ratV_def] at o1 o2
  simp only [↓R1, R2, R3, R4, TY, reduceIte, Nat.reduceEqDiff, Nat.reduceAdd, Nat.reduceMul, Nat.reduceLT, Nat.reduceLeDiff, reduceCtorEq, decide_true, decide_false, Int.reduceLE, Int.reduceLT, Int.reduceToNat, Int.reduceAdd, Int.reduceSub, Int.reduceMul, Int.reduceEq, hfl, NE, NE9, Nat.add_assoc]
  refine call_of (o1 _ _) ?_
  simp only [↓R1, R2, R3, R4, TY, reduceIte, Nat.reduceEqDiff, Nat.reduceAdd, Nat.reduceMul, Nat.reduceLT, Nat.reduceLeDiff, reduceCtorEq, decide_true, decide_false, Int.reduceLE, Int.reduceLT, Int.reduceToNat, Int.reduceAdd, Int.reduceSub, Int.reduceMul, Int.reduceEq, hfl, NE, NE9, Nat.add_assoc]
  refine call_of (o2 _ _) ?_
  simp only [↓R1, R2, R3, R4, TY, reduceIte, Nat.reduceEqDiff, Nat.reduceAdd, Nat.reduceMul, Nat.reduceLT, Nat.reduceLeDiff, reduceCtorEq, decide_true, decide_false, Int.reduceLE, Int.reduceLT, Int.reduceToNat, Int.reduceAdd, Int.reduceSub, Int.reduceMul, Int.reduceEq, hfl, NE, NE9, Nat.add_assoc]
  refine Ended.back hA ?_ rfl hrb
  simp (maxDischargeDepth := 20) only [xt_push, xt_put, xt_refl, Nat.le_refl, Nat.le_add_right, Nat.add_assoc, Nat.reduceAdd]

set_option maxHeartbeats 4000000 in
theorem polyBegun_ok (hG : G 1 = some tabV) : Sound Tryz.prog G 24 [] fl A (.bool true) A := by
  refine Sound.of mixed Tryz.func24 Tryz.ntmps24 Tryz.results24 (by kernel_rfl) rfl (by kernel_rfl) (by simp) fun hA => ?_
  have hfl : fl ≤ A.next := by have := hA.floor; omega
  have hfl1 : fl ≤ A.next + 1 := by have := hA.floor; omega
  have hfl2 : fl ≤ A.next + 2 := by have := hA.floor; omega
  have hfl3 : fl ≤ A.next + 3 := by have := hA.floor; omega
  have hfl4 : fl ≤ A.next + 4 := by have := hA.floor; omega
  have hfl5 : fl ≤ A.next + 5 := by have := hA.floor; omega
  have hfl6 : fl ≤ A.next + 6 := by have := hA.floor; omega
  have bg := fun fl A => vecBegun_ok (G := G) (fl := fl) (A := A) hG
  have a00 := fun fl A => pbAt (G := G) (fl := fl) (A := A) (x := 0) (y := 0) (by decide) (by decide) (by decide) (by decide)
  have a20 := fun fl A => pbAt (G := G) (fl := fl) (A := A) (x := 2) (y := 0) (by decide) (by decide) (by decide) (by decide)
  have a22 := fun fl A => pbAt (G := G) (fl := fl) (A := A) (x := 2) (y := 2) (by decide) (by decide) (by decide) (by decide)
  have a02 := fun fl A => pbAt (G := G) (fl := fl) (A := A) (x := 0) (y := 2) (by decide) (by decide) (by decide) (by decide)
  have zz : zl [Value.bool false, .string { data := #[] }, .string { data := #[] }, .bool false, .string { data := #[] }, .string { data := #[] }] 24 = [Value.bool false, .string { data := #[] }, .string { data := #[] }, .bool false, .string { data := #[] }, .string { data := #[] }, Value.bool false, .string { data := #[] }, .string { data := #[] }, .bool false, .string { data := #[] }, .string { data := #[] }, Value.bool false, .string { data := #[] }, .string { data := #[] }, .bool false, .string { data := #[] }, .string { data := #[] }, Value.bool false, .string { data := #[] }, .string { data := #[] }, .bool false, .string { data := #[] }, .string { data := #[] }] := rfl
  have w4 := fun fl A => rof_ok (G := G) (fl := fl) (A := A) (n := 4) (by decide) (by decide)
  have hz := sqr_z (x := 0) (y := 0) (u := 2) (v := 2) (by decide) (by decide) (by decide) (by decide)
  have ar := fun fl (A : Hp) v (hs : Sl A 6 v ((sqr 0 0 2 2).map vC)) => parea_ok (G := G) (fl := fl) (A := A) hG hs hz (by decide) (by simp [sqr]) (by simp [sqr])
  have hd := eqD_rat (rOf 4) (rOf 4)
  rw [decide_eq_true rfl] at hd
  rw [sqr_area] at ar
  have el : (sqr 0 0 2 2).length = 4 := rfl
  have er : ((sqr 0 0 2 2).map vC).flatten = vC (rOf 0, rOf 0) ++ vC (rOf 2, rOf 0) ++ vC (rOf 2, rOf 2) ++ vC (rOf 0, rOf 2) := by simp [sqr]
  have sa := fun (B : Hp) id => sl_at (B := B) (id := id) (l := sqr 0 0 2 2)
  rw [er, el] at sa
  generalize sqr 0 0 2 2 = Q at *
  generalize rOf 0 = u0 at *
  generalize rOf 2 = u2 at *
  generalize rOf 4 = u4 at *
  simp only [ratV_def] at ar w4 hd
  simp only [prV_def] at a00 a20 a22 a02
  simp only [vC_def, List.cons_append, List.nil_append] at sa
  simp only [↓R1, R2, R3, R4, TY, reduceIte, Nat.reduceEqDiff, Nat.reduceAdd, Nat.reduceMul, Nat.reduceLT, Nat.reduceLeDiff, reduceCtorEq, decide_true, decide_false, Int.reduceLE, Int.reduceLT, Int.reduceToNat, Int.reduceAdd, Int.reduceSub, Int.reduceMul, Int.reduceEq, hfl, hfl1, hfl2, hfl3, hfl4, hfl5, hfl6, NE, NE9, Nat.add_assoc, zz]
  refine call_of (bg _ _) ?_
  simp only [↓R1, R2, R3, R4, TY, reduceIte, Nat.reduceEqDiff, Nat.reduceAdd, Nat.reduceMul, Nat.reduceLT, Nat.reduceLeDiff, reduceCtorEq, decide_true, decide_false, Int.reduceLE, Int.reduceLT, Int.reduceToNat, Int.reduceAdd, Int.reduceSub, Int.reduceMul, Int.reduceEq, hfl, hfl1, hfl2, hfl3, hfl4, hfl5, hfl6, NE, NE9, Nat.add_assoc, zz]
  refine call_of (a00 _ _) ?_
  simp only [↓R1, R2, R3, R4, TY, reduceIte, Nat.reduceEqDiff, Nat.reduceAdd, Nat.reduceMul, Nat.reduceLT, Nat.reduceLeDiff, reduceCtorEq, decide_true, decide_false, Int.reduceLE, Int.reduceLT, Int.reduceToNat, Int.reduceAdd, Int.reduceSub, Int.reduceMul, Int.reduceEq, hfl, hfl1, hfl2, hfl3, hfl4, hfl5, hfl6, NE, NE9, Nat.add_assoc, zz]
  refine call_of (a20 _ _) ?_
  simp only [↓R1, R2, R3, R4, TY, reduceIte, Nat.reduceEqDiff, Nat.reduceAdd, Nat.reduceMul, Nat.reduceLT, Nat.reduceLeDiff, reduceCtorEq, decide_true, decide_false, Int.reduceLE, Int.reduceLT, Int.reduceToNat, Int.reduceAdd, Int.reduceSub, Int.reduceMul, Int.reduceEq, hfl, hfl1, hfl2, hfl3, hfl4, hfl5, hfl6, NE, NE9, Nat.add_assoc, zz]
  refine call_of (a22 _ _) ?_
  simp only [↓R1, R2, R3, R4, TY, reduceIte, Nat.reduceEqDiff, Nat.reduceAdd, Nat.reduceMul, Nat.reduceLT, Nat.reduceLeDiff, reduceCtorEq, decide_true, decide_false, Int.reduceLE, Int.reduceLT, Int.reduceToNat, Int.reduceAdd, Int.reduceSub, Int.reduceMul, Int.reduceEq, hfl, hfl1, hfl2, hfl3, hfl4, hfl5, hfl6, NE, NE9, Nat.add_assoc, zz]
  refine call_of (a02 _ _) ?_
  simp only [↓R1, R2, R3, R4, TY, reduceIte, Nat.reduceEqDiff, Nat.reduceAdd, Nat.reduceMul, Nat.reduceLT, Nat.reduceLeDiff, reduceCtorEq, decide_true, decide_false, Int.reduceLE, Int.reduceLT, Int.reduceToNat, Int.reduceAdd, Int.reduceSub, Int.reduceMul, Int.reduceEq, hfl, hfl1, hfl2, hfl3, hfl4, hfl5, hfl6, NE, NE9, Nat.add_assoc, zz]
  refine call_of (ar _ _ _ (sa _ _ (push_at rfl))) ?_
  simp only [↓R1, R2, R3, R4, TY, reduceIte, Nat.reduceEqDiff, Nat.reduceAdd, Nat.reduceMul, Nat.reduceLT, Nat.reduceLeDiff, reduceCtorEq, decide_true, decide_false, Int.reduceLE, Int.reduceLT, Int.reduceToNat, Int.reduceAdd, Int.reduceSub, Int.reduceMul, Int.reduceEq, hfl, hfl1, hfl2, hfl3, hfl4, hfl5, hfl6, NE, NE9, Nat.add_assoc, hd, guard_rat]
  refine call_of (w4 _ _) ?_
  simp only [↓R1, R2, R3, R4, TY, reduceIte, Nat.reduceEqDiff, Nat.reduceAdd, Nat.reduceMul, Nat.reduceLT, Nat.reduceLeDiff, reduceCtorEq, decide_true, decide_false, Int.reduceLE, Int.reduceLT, Int.reduceToNat, Int.reduceAdd, Int.reduceSub, Int.reduceMul, Int.reduceEq, hfl, hfl1, hfl2, hfl3, hfl4, hfl5, hfl6, NE, NE9, Nat.add_assoc, hd, guard_rat]
  refine Ended.back hA ?_ rfl (RB.bool _)
  simp (maxDischargeDepth := 20) only [xt_push, xt_put, xt_refl, Nat.le_refl, Nat.le_add_right, Nat.add_assoc, Nat.reduceAdd]

end
end Go.Proofs.YthclikeipdplpaaGreatDoor.Ab

/- gantkeep1.PolyMoves returns true for every input. -/
namespace Go.Proofs.YthclikeipdplpaaGreatDoor.Ab
open Go.RowKit
set_option linter.unusedVariables false
set_option linter.unusedSimpArgs false
set_option maxRecDepth 100000

theorem Sound.calls {P : Program} {G : Gl} {f : FuncId} {fn : Func} {args : List Value} {fl : Nat} {A A' : Hp} {v : Value} (hf : P.funcs[f]? = some fn) (hname : (fn.name == "runtime.NumGoroutine") = false) (hb : fn.body.isNone = false) (h : Sound P G f args fl A v A') :
    ∀ (μ : Mu) (w : World) (args' : Array Value), HR G μ fl A w → fl ≤ A.next → VRa μ A args.toArray args' →
    Calls P f args' w fun e w' => ∃ u, e = .returned u ∧ ∃ ν, VR ν A' v u ∧ HR G ν fl A' w' ∧ Trans fl μ A w ν A' w' := by
  intro μ w args' H hfl hargs
  rcases h μ w args' H hfl hargs with ⟨_, hc⟩ | ⟨u, w', hr, _⟩
  · exact hc.mono fun e w' he => he
  · exfalso
    have h1 : fn.name ≠ "runtime.NumGoroutine" := fun e => by rw [e] at hname; simp at hname
    have h2 : fn.body ≠ none := fun e => by rw [e] at hb; simp at hb
    simp [callFunc, hf, h1, h2] at hr
section
variable {G : Gl} {fl : Nat} {A : Hp}

end
end Go.Proofs.YthclikeipdplpaaGreatDoor.Ab

/- Polygons: the box of points. -/
namespace Go.Proofs.YthclikeipdplpaaGreatDoor.Ab
open Go.RowKit
set_option linter.unusedVariables false
set_option linter.unusedSimpArgs false
set_option maxRecDepth 100000

def vZ : Value := .agg #[.bool false, .string { data := #[] }, .string { data := #[] }, .bool false, .string { data := #[] }, .string { data := #[] }]
theorem vZ_def : vZ = .agg #[.bool false, .string { data := #[] }, .string { data := #[] }, .bool false, .string { data := #[] }, .string { data := #[] }] := rfl
/-- A box. -/
def bxV (a b c d : Rat) : Value := .agg #[.bool (decide (a.num < 0)), .string (S (nb a.num.natAbs)), .string (S (nb a.den)), .bool (decide (b.num < 0)), .string (S (nb b.num.natAbs)), .string (S (nb b.den)),
  .bool (decide (c.num < 0)), .string (S (nb c.num.natAbs)), .string (S (nb c.den)), .bool (decide (d.num < 0)), .string (S (nb d.num.natAbs)), .string (S (nb d.den))]
theorem bxV_def (a b c d : Rat) : bxV a b c d = .agg #[.bool (decide (a.num < 0)), .string (S (nb a.num.natAbs)), .string (S (nb a.den)), .bool (decide (b.num < 0)), .string (S (nb b.num.natAbs)), .string (S (nb b.den)),
  .bool (decide (c.num < 0)), .string (S (nb c.num.natAbs)), .string (S (nb c.den)), .bool (decide (d.num < 0)), .string (S (nb d.num.natAbs)), .string (S (nb d.den))] := rfl
def bxC (a b c d : Rat) : List Value := [.bool (decide (a.num < 0)), .string (S (nb a.num.natAbs)), .string (S (nb a.den)), .bool (decide (b.num < 0)), .string (S (nb b.num.natAbs)), .string (S (nb b.den)),
  .bool (decide (c.num < 0)), .string (S (nb c.num.natAbs)), .string (S (nb c.den)), .bool (decide (d.num < 0)), .string (S (nb d.num.natAbs)), .string (S (nb d.den))]
theorem bxV_rb (n : Nat) (a b c d : Rat) : RB n (bxV a b c d) := RB.agg fun v hv => by
  simp only [List.mem_cons, List.not_mem_nil, or_false] at hv
  rcases hv with rfl | rfl | rfl | rfl | rfl | rfl | rfl | rfl | rfl | rfl | rfl | rfl <;> exact RB.zc rfl
/-- The least and the greatest of the first coordinates. -/
def lo1 (l : List V2) : Nat → Rat | 0 => (pget l 0).1 | n + 1 => rmin (lo1 l n) (pget l (n + 1)).1
def lo2 (l : List V2) : Nat → Rat | 0 => (pget l 0).2 | n + 1 => rmin (lo2 l n) (pget l (n + 1)).2
def hi1 (l : List V2) : Nat → Rat | 0 => (pget l 0).1 | n + 1 => rmax (hi1 l n) (pget l (n + 1)).1
def hi2 (l : List V2) : Nat → Rat | 0 => (pget l 0).2 | n + 1 => rmax (hi2 l n) (pget l (n + 1)).2
section
variable {G : Gl} {fl : Nat} {A : Hp}

end
end Go.Proofs.YthclikeipdplpaaGreatDoor.Ab
