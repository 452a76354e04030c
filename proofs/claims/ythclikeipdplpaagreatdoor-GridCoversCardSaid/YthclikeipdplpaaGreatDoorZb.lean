/- Cells of a grid: floors, sides, Of, Check. -/
import Derived.Test.YthclikeipdplpaaGreatDoorZa
namespace Go.Proofs.YthclikeipdplpaaGreatDoor.Ab
open Go.RowKit
set_option linter.unusedVariables false
set_option linter.unusedSimpArgs false
set_option maxRecDepth 100000

/-- What cmp.Compare says of two numbers. -/
def cmpI (a b : Int) : Int := if a < b then -1 else if b < a then 1 else 0

section
variable {G : Gl} {fl : Nat} {A : Hp}

theorem nint_ok {m : Nat} (h : m ≤ 9223372036854775807) : Sound Tryz.prog G 46 [.string (S (nb m))] fl A (.tuple [Value.int .i64 (m : Nat), .int .i64 0].toArray) A := by
  refine Sound.of mixed Tryz.func46 Tryz.ntmps46 Tryz.results46 (by kernel_rfl) rfl (by kernel_rfl) (by simp) fun hA => ?_
  have l1 : (nb m).length ≤ 8 := nb8.2 (by omega)
  have hc : ((8 : Int) < ((nb m).length : Nat)) = False := eq_false (by omega)
  have hc2 : ((9223372036854775807 : Int) < ((m : Nat) : Int)) = False := eq_false (by omega)
  have w1 : IntKind.i64.wrap ((m : Nat) : Int) = ((m : Nat) : Int) := wrapI (by omega)
  simp only [↓R1, R2, R3, R4, TY, reduceIte, Nat.reduceEqDiff, Nat.reduceAdd, Nat.reduceMul, Nat.reduceLT, Nat.reduceLeDiff, reduceCtorEq, decide_true, decide_false, Int.reduceLE, Int.reduceLT, Int.reduceToNat, Int.reduceAdd, Int.reduceSub, Int.reduceMul, Int.reduceEq]
  refine call_of (trim_ok _) ?_
  simp only [↓R1, R2, R3, R4, TY, reduceIte, Nat.reduceEqDiff, Nat.reduceAdd, Nat.reduceMul, Nat.reduceLT, Nat.reduceLeDiff, reduceCtorEq, decide_true, decide_false, Int.reduceLE, Int.reduceLT, Int.reduceToNat, Int.reduceAdd, Int.reduceSub, Int.reduceMul, Int.reduceEq, nv_nb, S_size, hc]
  refine call_of (shortN (by omega)) ?_
  simp only [↓R1, R2, R3, R4, TY, reduceIte, Nat.reduceEqDiff, Nat.reduceAdd, Nat.reduceMul, Nat.reduceLT, Nat.reduceLeDiff, reduceCtorEq, decide_true, decide_false, Int.reduceLE, Int.reduceLT, Int.reduceToNat, Int.reduceAdd, Int.reduceSub, Int.reduceMul, Int.reduceEq, hc2]
  refine call_of (shortN (by omega)) ?_
  simp only [↓R1, R2, R3, R4, TY, reduceIte, Nat.reduceEqDiff, Nat.reduceAdd, Nat.reduceMul, Nat.reduceLT, Nat.reduceLeDiff, reduceCtorEq, decide_true, decide_false, Int.reduceLE, Int.reduceLT, Int.reduceToNat, Int.reduceAdd, Int.reduceSub, Int.reduceMul, Int.reduceEq, w1]
  refine Ended.back hA (Xt.refl _) rfl (RB.tuple fun w hw => ?_)
  simp only [List.mem_cons, List.not_mem_nil, or_false] at hw
  rcases hw with rfl | rfl <;> exact RB.int _ _


theorem gfloor {q : Rat} {k : Nat} {qn : Bool} {qs qd : ByteArray} (hG : G 1 = some tabV) (fq : ∀ fl A, Sound Tryz.prog G 45 [.agg #[.bool qn, .string qs, .string qd]] fl A (ratV q) A) (hq : Rz q k) (hk : k ≤ 1000) (hb : q.floor.natAbs ≤ 1000000) : Sound Tryz.prog G 14 [.agg #[.bool qn, .string qs, .string qd]] fl A (.tuple [Value.int .i64 q.floor, .int .i64 0].toArray) A := by
  refine Sound.of mixed Tryz.func14 Tryz.ntmps14 Tryz.results14 (by kernel_rfl) rfl (by kernel_rfl) (by simp) fun hA => ?_
  have hfl : fl ≤ A.next := hA.floor
  have hw := fun fl A => qwhole (G := G) (fl := fl) (A := A) hG hq (by omega)
  have hnum := rOf_num q.floor
  have hi := fun fl A => nint_ok (G := G) (fl := fl) (A := A) (m := (rOf q.floor).num.natAbs) (by rw [hnum]; omega)
  rw [ratV_def (rOf q.floor), hnum] at hw
  rw [hnum] at hi
  simp only [ratV_def] at fq hw
  simp only [↓R1, R2, R3, R4, TY, reduceIte, Nat.reduceEqDiff, Nat.reduceAdd, Nat.reduceMul, Nat.reduceLT, Nat.reduceLeDiff, reduceCtorEq, decide_true, decide_false, Int.reduceLE, Int.reduceLT, Int.reduceToNat, Int.reduceAdd, Int.reduceSub, Int.reduceMul, Int.reduceEq]
  refine call_of (fq _ _) ?_
  simp only [↓R1, R2, R3, R4, TY, reduceIte, Nat.reduceEqDiff, Nat.reduceAdd, Nat.reduceMul, Nat.reduceLT, Nat.reduceLeDiff, reduceCtorEq, decide_true, decide_false, Int.reduceLE, Int.reduceLT, Int.reduceToNat, Int.reduceAdd, Int.reduceSub, Int.reduceMul, Int.reduceEq]
  refine call_of (hw _ _) ?_
  simp only [↓R1, R2, R3, R4, TY, reduceIte, Nat.reduceEqDiff, Nat.reduceAdd, Nat.reduceMul, Nat.reduceLT, Nat.reduceLeDiff, reduceCtorEq, decide_true, decide_false, Int.reduceLE, Int.reduceLT, Int.reduceToNat, Int.reduceAdd, Int.reduceSub, Int.reduceMul, Int.reduceEq, hfl, NE]
  refine call_of (hi _ _) ?_
  simp only [↓R1, R2, R3, R4, TY, reduceIte, Nat.reduceEqDiff, Nat.reduceAdd, Nat.reduceMul, Nat.reduceLT, Nat.reduceLeDiff, reduceCtorEq, decide_true, decide_false, Int.reduceLE, Int.reduceLT, Int.reduceToNat, Int.reduceAdd, Int.reduceSub, Int.reduceMul, Int.reduceEq, hfl, NE]
  have w1 : IntKind.i64.wrap (0 - ((q.floor.natAbs : Nat) : Int)) = -((q.floor.natAbs : Nat) : Int) := by rw [wrapI (by omega)]; omega
  have hend : ∀ (x : Int) (B : Hp), Xt A.next A B → x = q.floor → Ended A (.tuple [Value.int .i64 x, .int .i64 0].toArray) B (.tuple [Value.int .i64 q.floor, .int .i64 0].toArray) A := by
    rintro x B hB rfl
    refine Ended.back hA hB rfl (RB.tuple fun w hw => ?_)
    simp only [List.mem_cons, List.not_mem_nil, or_false] at hw
    rcases hw with rfl | rfl <;> exact RB.int _ _
  simp only [↓R1, R2, R3, R4, TY, reduceIte, Nat.reduceEqDiff, Nat.reduceAdd, Nat.reduceMul, Nat.reduceLT, Nat.reduceLeDiff, reduceCtorEq, decide_true, decide_false, Int.reduceLE, Int.reduceLT, Int.reduceToNat, Int.reduceAdd, Int.reduceSub, Int.reduceMul, Int.reduceEq, w1]
  refine ⟨fun h => ?_, fun h => ?_⟩
  · exact hend _ _ (((Xt.refl A).push _).put (Nat.le_refl _) _) (by omega)
  · exact hend _ _ (((Xt.refl A).push _).put (Nat.le_refl _) _) (by omega)

theorem on_ok {n : Int} (h1 : -64 ≤ n) (h2 : n < 64) : Sound Tryz.prog G 38 [.int .i64 n] fl A (.bool true) A := by
  refine Sound.of mixed Tryz.func38 Tryz.ntmps38 Tryz.results38 (by kernel_rfl) rfl (by kernel_rfl) (by simp) fun hA => ?_
  have e1 : (n ≥ -64) = True := eq_true h1
  have e1' : (-64 ≤ n) = True := eq_true h1
  have e2 : (n < 64) = True := eq_true h2
  simp only [↓R1, R2, R3, R4, TY, reduceIte, Nat.reduceEqDiff, Nat.reduceAdd, Nat.reduceMul, Nat.reduceLT, Nat.reduceLeDiff, reduceCtorEq, decide_true, decide_false, Int.reduceLE, Int.reduceLT, Int.reduceToNat, Int.reduceAdd, Int.reduceSub, Int.reduceMul, Int.reduceEq, e1, e1', e2]
  exact Ended.back hA (Xt.refl _) rfl (RB.bool _)

set_option maxHeartbeats 2000000 in
theorem sides_ok {p q : Rat} {k : Nat} {pn : Bool} {ps pd : ByteArray} {qn : Bool} {qs qd : ByteArray} (hG : G 1 = some tabV) (fp : ∀ fl A, Sound Tryz.prog G 45 [.agg #[.bool pn, .string ps, .string pd]] fl A (ratV p) A) (fq : ∀ fl A, Sound Tryz.prog G 45 [.agg #[.bool qn, .string qs, .string qd]] fl A (ratV q) A) (hp : Rz p k) (hq : Rz q k) (hk : k ≤ 1000) (p1 : -8 ≤ p) (p2 : p ≤ 8) (q1 : -8 ≤ q) (q2 : q ≤ 8) :
    Sound Tryz.prog G 37 [.agg #[.bool pn, .string ps, .string pd], .agg #[.bool qn, .string qs, .string qd]] fl A (.tuple [Value.int .i64 (c0 p), .int .i64 q.floor, .bool true].toArray) A := by
  refine Sound.of mixed Tryz.func37 Tryz.ntmps37 Tryz.results37 (by kernel_rfl) rfl (by kernel_rfl) (by simp) fun hA => ?_
  have hfl : fl ≤ A.next := by have := hA.floor; omega
  have hfl1 : fl ≤ A.next + 1 := by have := hA.floor; omega
  have hfl2 : fl ≤ A.next + 2 := by have := hA.floor; omega
  have hfl3 : fl ≤ A.next + 3 := by have := hA.floor; omega
  have hfl4 : fl ≤ A.next + 4 := by have := hA.floor; omega
  have hfl5 : fl ≤ A.next + 5 := by have := hA.floor; omega
  have hfl6 : fl ≤ A.next + 6 := by have := hA.floor; omega
  have b1 := floor_8 q1 q2
  have b2 := floor_8 (q := -p) (by grind) (by grind)
  have b3 := c0_8 p1 p2
  have f1 := fun fl A => gfloor (G := G) (fl := fl) (A := A) hG fq hq hk (by omega)
  have ng := fun fl A => gneg (G := G) (fl := fl) (A := A) hG fp hp (by omega)
  have fn := fun fl A => qfit (G := G) (fl := fl) (A := A) (q := -p) hG (by have := hp.neg.1; omega) (by have := hp.neg.2; omega)
  have f2 := fun fl A => gfloor (G := G) (fl := fl) (A := A) hG fn hp.neg hk (by omega)
  have w1 : IntKind.i64.wrap (0 - (-p).floor) = -(-p).floor := by rw [wrapI (by omega)]; omega
  have w2 : IntKind.i64.wrap (-(-p).floor - 1) = c0 p := wrapI (by unfold c0 at b3; omega)
  have o1 := fun fl A => on_ok (G := G) (fl := fl) (A := A) (n := c0 p) (by omega) (by omega)
  have o2 := fun fl A => on_ok (G := G) (fl := fl) (A := A) (n := q.floor) (by omega) (by omega)
  simp only [ratV_def] at ng
  simp only [↓R1, R2, R3, R4, TY, reduceIte, Nat.reduceEqDiff, Nat.reduceAdd, Nat.reduceMul, Nat.reduceLT, Nat.reduceLeDiff, reduceCtorEq, decide_true, decide_false, Int.reduceLE, Int.reduceLT, Int.reduceToNat, Int.reduceAdd, Int.reduceSub, Int.reduceMul, Int.reduceEq, hfl, hfl1, hfl2, hfl3, hfl4, hfl5, hfl6, NE, NE9, Nat.add_assoc, w1, w2]
  refine call_of (f1 _ _) ?_
  simp only [↓R1, R2, R3, R4, TY, reduceIte, Nat.reduceEqDiff, Nat.reduceAdd, Nat.reduceMul, Nat.reduceLT, Nat.reduceLeDiff, reduceCtorEq, decide_true, decide_false, Int.reduceLE, Int.reduceLT, Int.reduceToNat, Int.reduceAdd, Int.reduceSub, Int.reduceMul, Int.reduceEq, hfl, hfl1, hfl2, hfl3, hfl4, hfl5, hfl6, NE, NE9, Nat.add_assoc, w1, w2]
  refine call_of (ng _ _) ?_
  simp only [↓R1, R2, R3, R4, TY, reduceIte, Nat.reduceEqDiff, Nat.reduceAdd, Nat.reduceMul, Nat.reduceLT, Nat.reduceLeDiff, reduceCtorEq, decide_true, decide_false, Int.reduceLE, Int.reduceLT, Int.reduceToNat, Int.reduceAdd, Int.reduceSub, Int.reduceMul, Int.reduceEq, hfl, hfl1, hfl2, hfl3, hfl4, hfl5, hfl6, NE, NE9, Nat.add_assoc, w1, w2]
  refine call_of (f2 _ _) ?_
  simp only [↓R1, R2, R3, R4, TY, reduceIte, Nat.reduceEqDiff, Nat.reduceAdd, Nat.reduceMul, Nat.reduceLT, Nat.reduceLeDiff, reduceCtorEq, decide_true, decide_false, Int.reduceLE, Int.reduceLT, Int.reduceToNat, Int.reduceAdd, Int.reduceSub, Int.reduceMul, Int.reduceEq, hfl, hfl1, hfl2, hfl3, hfl4, hfl5, hfl6, NE, NE9, Nat.add_assoc, w1, w2]
  refine call_of (o1 _ _) ?_
  simp only [↓R1, R2, R3, R4, TY, reduceIte, Nat.reduceEqDiff, Nat.reduceAdd, Nat.reduceMul, Nat.reduceLT, Nat.reduceLeDiff, reduceCtorEq, decide_true, decide_false, Int.reduceLE, Int.reduceLT, Int.reduceToNat, Int.reduceAdd, Int.reduceSub, Int.reduceMul, Int.reduceEq, hfl, hfl1, hfl2, hfl3, hfl4, hfl5, hfl6, NE, NE9, Nat.add_assoc, w1, w2]
  refine call_of (o2 _ _) ?_
  simp only [↓R1, R2, R3, R4, TY, reduceIte, Nat.reduceEqDiff, Nat.reduceAdd, Nat.reduceMul, Nat.reduceLT, Nat.reduceLeDiff, reduceCtorEq, decide_true, decide_false, Int.reduceLE, Int.reduceLT, Int.reduceToNat, Int.reduceAdd, Int.reduceSub, Int.reduceMul, Int.reduceEq, hfl, hfl1, hfl2, hfl3, hfl4, hfl5, hfl6, NE, NE9, Nat.add_assoc, w1, w2]
  refine Ended.back hA ?_ rfl (RB.tuple fun u hu => ?_)
  · simp (maxDischargeDepth := 20) only [xt_push, xt_put, xt_refl, Nat.le_refl, Nat.le_add_right, Nat.add_assoc, Nat.reduceAdd]
  · simp only [List.mem_cons, List.not_mem_nil, or_false] at hu
    rcases hu with rfl | rfl | rfl
    · exact RB.int _ _
    · exact RB.int _ _
    · exact RB.bool _

theorem isnan_ok {x : Int} : Sound Tryz.prog G 112 [.int .i64 x] fl A (.bool false) A := by
  refine Sound.of mixed Tryz.func112 Tryz.ntmps112 Tryz.results112 (by kernel_rfl) rfl (by kernel_rfl) (by simp) fun hA => ?_
  simp only [↓R1, R2, R3, R4, TY, reduceIte, Nat.reduceEqDiff, Nat.reduceAdd, Nat.reduceMul, Nat.reduceLT, Nat.reduceLeDiff, reduceCtorEq, decide_true, decide_false, Int.reduceLE, Int.reduceLT, Int.reduceToNat, Int.reduceAdd, Int.reduceSub, Int.reduceMul, Int.reduceEq]
  exact Ended.back hA (Xt.refl _) rfl (RB.bool _)
theorem cmpI_ok {x y : Int} : Sound Tryz.prog G 82 [.int .i64 x, .int .i64 y] fl A (.int .i64 (cmpI x y)) A := by
  refine Sound.of mixed Tryz.func82 Tryz.ntmps82 Tryz.results82 (by kernel_rfl) rfl (by kernel_rfl) (by simp) fun hA => ?_
  have n1 := fun fl A => isnan_ok (G := G) (fl := fl) (A := A) (x := x)
  have n2 := fun fl A => isnan_ok (G := G) (fl := fl) (A := A) (x := y)
  simp only [↓R1, R2, R3, R4, TY, reduceIte, Nat.reduceEqDiff, Nat.reduceAdd, Nat.reduceMul, Nat.reduceLT, Nat.reduceLeDiff, reduceCtorEq, decide_true, decide_false, Int.reduceLE, Int.reduceLT, Int.reduceToNat, Int.reduceAdd, Int.reduceSub, Int.reduceMul, Int.reduceEq]
  refine call_of (n1 _ _) ?_
  simp only [↓R1, R2, R3, R4, TY, reduceIte, Nat.reduceEqDiff, Nat.reduceAdd, Nat.reduceMul, Nat.reduceLT, Nat.reduceLeDiff, reduceCtorEq, decide_true, decide_false, Int.reduceLE, Int.reduceLT, Int.reduceToNat, Int.reduceAdd, Int.reduceSub, Int.reduceMul, Int.reduceEq]
  refine call_of (n2 _ _) ?_
  simp only [↓R1, R2, R3, R4, TY, reduceIte, Nat.reduceEqDiff, Nat.reduceAdd, Nat.reduceMul, Nat.reduceLT, Nat.reduceLeDiff, reduceCtorEq, decide_true, decide_false, Int.reduceLE, Int.reduceLT, Int.reduceToNat, Int.reduceAdd, Int.reduceSub, Int.reduceMul, Int.reduceEq]
  refine ⟨fun h => ?_, fun h => ⟨fun h2 => ?_, fun h2 => ?_⟩⟩
  · exact Ended.back hA (Xt.refl _) (by unfold cmpI; rw [if_pos h]) (RB.int _ _)
  · exact Ended.back hA (Xt.refl _) (by unfold cmpI; rw [if_neg h, if_pos h2]) (RB.int _ _)
  · exact Ended.back hA (Xt.refl _) (by unfold cmpI; rw [if_neg h, if_neg h2]) (RB.int _ _)
theorem order_lt {a b : Ce} (h : clt a b) : Sound Tryz.prog G 39 [.agg #[.int .i64 a.1, .int .i64 a.2], .agg #[.int .i64 b.1, .int .i64 b.2]] fl A (.int .i64 (-1)) A := by
  refine Sound.of mixed Tryz.func39 Tryz.ntmps39 Tryz.results39 (by kernel_rfl) rfl (by kernel_rfl) (by simp) fun hA => ?_
  have hfl : fl ≤ A.next := by have := hA.floor; omega
  have hfl1 : fl ≤ A.next + 1 := by have := hA.floor; omega
  have hfl2 : fl ≤ A.next + 2 := by have := hA.floor; omega
  have hfl3 : fl ≤ A.next + 3 := by have := hA.floor; omega
  have hfl4 : fl ≤ A.next + 4 := by have := hA.floor; omega
  have hfl5 : fl ≤ A.next + 5 := by have := hA.floor; omega
  have hfl6 : fl ≤ A.next + 6 := by have := hA.floor; omega
  have n1 := fun fl A => cmpI_ok (G := G) (fl := fl) (A := A) (x := a.2) (y := b.2)
  have n2 := fun fl A => cmpI_ok (G := G) (fl := fl) (A := A) (x := a.1) (y := b.1)
  rcases h with h | ⟨h, h'⟩
  · have e : cmpI a.2 b.2 = -1 := by unfold cmpI; rw [if_pos h]
    rw [e] at n1
    simp only [↓R1, R2, R3, R4, TY, reduceIte, Nat.reduceEqDiff, Nat.reduceAdd, Nat.reduceMul, Nat.reduceLT, Nat.reduceLeDiff, reduceCtorEq, decide_true, decide_false, Int.reduceLE, Int.reduceLT, Int.reduceToNat, Int.reduceAdd, Int.reduceSub, Int.reduceMul, Int.reduceEq, hfl, hfl1, hfl2, hfl3, hfl4, hfl5, hfl6, NE, NE9, Nat.add_assoc]
    refine call_of (n1 _ _) ?_
    simp only [↓R1, R2, R3, R4, TY, reduceIte, Nat.reduceEqDiff, Nat.reduceAdd, Nat.reduceMul, Nat.reduceLT, Nat.reduceLeDiff, reduceCtorEq, decide_true, decide_false, Int.reduceLE, Int.reduceLT, Int.reduceToNat, Int.reduceAdd, Int.reduceSub, Int.reduceMul, Int.reduceEq, hfl, hfl1, hfl2, hfl3, hfl4, hfl5, hfl6, NE, NE9, Nat.add_assoc]
    refine Ended.back hA ?_ rfl (RB.int _ _)
    simp (maxDischargeDepth := 20) only [xt_push, xt_put, xt_refl, Nat.le_refl, Nat.le_add_right, Nat.add_assoc, Nat.reduceAdd]
  · have e : cmpI a.2 b.2 = 0 := by unfold cmpI; rw [if_neg (by omega), if_neg (by omega)]
    have e' : cmpI a.1 b.1 = -1 := by unfold cmpI; rw [if_pos h']
    rw [e] at n1
    rw [e'] at n2
    simp only [↓R1, R2, R3, R4, TY, reduceIte, Nat.reduceEqDiff, Nat.reduceAdd, Nat.reduceMul, Nat.reduceLT, Nat.reduceLeDiff, reduceCtorEq, decide_true, decide_false, Int.reduceLE, Int.reduceLT, Int.reduceToNat, Int.reduceAdd, Int.reduceSub, Int.reduceMul, Int.reduceEq, hfl, hfl1, hfl2, hfl3, hfl4, hfl5, hfl6, NE, NE9, Nat.add_assoc]
    refine call_of (n1 _ _) ?_
    simp only [↓R1, R2, R3, R4, TY, reduceIte, Nat.reduceEqDiff, Nat.reduceAdd, Nat.reduceMul, Nat.reduceLT, Nat.reduceLeDiff, reduceCtorEq, decide_true, decide_false, Int.reduceLE, Int.reduceLT, Int.reduceToNat, Int.reduceAdd, Int.reduceSub, Int.reduceMul, Int.reduceEq, hfl, hfl1, hfl2, hfl3, hfl4, hfl5, hfl6, NE, NE9, Nat.add_assoc]
    refine call_of (n2 _ _) ?_
    simp only [↓R1, R2, R3, R4, TY, reduceIte, Nat.reduceEqDiff, Nat.reduceAdd, Nat.reduceMul, Nat.reduceLT, Nat.reduceLeDiff, reduceCtorEq, decide_true, decide_false, Int.reduceLE, Int.reduceLT, Int.reduceToNat, Int.reduceAdd, Int.reduceSub, Int.reduceMul, Int.reduceEq, hfl, hfl1, hfl2, hfl3, hfl4, hfl5, hfl6, NE, NE9, Nat.add_assoc]
    refine Ended.back hA ?_ rfl (RB.int _ _)
    simp (maxDischargeDepth := 20) only [xt_push, xt_put, xt_refl, Nat.le_refl, Nat.le_add_right, Nat.add_assoc, Nat.reduceAdd]

theorem cC_one (l : List Ce) : ∀ c ∈ l.map cC, ∀ u ∈ c, u.oneCell' = true := by
  intro c hc u hu
  obtain ⟨p, _, rfl⟩ := List.mem_map.1 hc
  simp only [cC, List.mem_cons, List.not_mem_nil, or_false] at hu
  rcases hu with rfl | rfl <;> rfl
theorem cC_rb (n : Nat) (l : List Ce) : ∀ c ∈ l.map cC, ∀ u ∈ c, RB n u := by
  intro c hc u hu
  obtain ⟨p, _, rfl⟩ := List.mem_map.1 hc
  simp only [cC, List.mem_cons, List.not_mem_nil, or_false] at hu
  rcases hu with rfl | rfl <;> exact RB.int _ _
theorem Ac.cell {D : Hp} {lo : Nat} {su : Value} {l : List Ce} {u : Ce} {f : Value × Hp → Prop} (hD : Ac D lo 2 su (l.map cC)) (hfl : fl ≤ lo) (hlo : lo ≤ D.next) (hul : l.length ≤ 1000)
    (k : ∀ su' D', Ac D' lo 2 su' ((l ++ [u]).map cC) → Xt lo D D' → f (su', D')) :
    @apn Tryz.prog G fl (D.push (.row [.int .i64 u.1, .int .i64 u.2] 0 2)) #[30, 30] [su, .slice (some ⟨D.next, 0, some 0⟩) 1 1] ⟨f⟩ := by
  refine apn_of (lo := lo) (sz := 2) ty30 rfl ty36 ty30 rfl rfl (by omega) rfl (hD.xt (Xt.push (Xt.refl D) (.row [.int .i64 u.1, .int .i64 u.2] 0 2))) hfl (by simp; omega) (new := [cC u]) ⟨by simp [cC], .inr (.inr ⟨_, _, _, 0, _, rfl, rfl, rfl, by rw [Hp.push_blk, if_pos rfl], fun j x hj => by simpa [cC] using hj⟩)⟩ (cC_one [u]) (by simp; omega) (by simp; omega) ?_
  intro su' D' hau hxt hn' hf hsome hid
  refine k su' D' (by simpa using hau) ⟨fun id hid => (hxt.blk id hid).trans ?_, hxt.next⟩
  rw [Hp.push_blk, if_neg (by omega)]

end
end Go.Proofs.YthclikeipdplpaaGreatDoor.Ab
