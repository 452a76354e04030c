/- Polygons from raw numbers: runs of gantmake.Poly; the fact about package poly. -/
import Derived.Test.YthclikeipdplpaaDoorYh
namespace Go.Proofs.YthclikeipdplpaaDoor.Ab
open Go.RowKit
set_option linter.unusedVariables false
set_option linter.unusedSimpArgs false
set_option maxRecDepth 100000

section
variable {G : Gl} {fl : Nat} {A : Hp}

theorem mpoly_all {xs : List Int} {sv : Value} {id : Nat} (hx : In64 xs) (hs : Sl A 1 sv (xs.map iC)) (hb : A.blk id = some (.row [sv] 0 1)) (hid : fl ≤ id) (hl : xs.length ≤ 9223372036854775807) (hne : ∀ a n c, sv = .slice (some a) n c → a.block ≠ id) :
    ∃ sv', Sound Tryd.prog G 46 [.pointer (some ⟨id, 0, some 0⟩)] fl A (.slice (some ⟨A.next, 0, some 0⟩) (mpoly xs).length (mpoly xs).length) ((A.put id (.row [sv'] 0 1)).push (.row ((mpoly xs).map vC).flatten 0 6)) := by
  have h3 := nxt_range (xs := xs.tail.tail) (n := 4) (by decide)
  have h : nxt xs.tail.tail 4 = 0 ∨ nxt xs.tail.tail 4 = 1 ∨ nxt xs.tail.tail 4 = 2 ∨ nxt xs.tail.tail 4 = 3 := by omega
  rcases h with h | h | h | h
  · exact ⟨_, mpoly_0 h hx hs hb hid hl hne⟩
  · exact ⟨_, mpoly_1 h hx hs hb hid hl hne⟩
  · exact ⟨_, mpoly_2 h hx hs hb hid hl hne⟩
  · exact ⟨_, mpoly_3 h hx hs hb hid hl hne⟩

theorem mpolyS {v : Value} {xs : List Int} (hx : In64 xs) (hs : Sl A 1 v (xs.map iC)) (hl : xs.length ≤ 9223372036854775807) :
    Sound Tryd.prog G 10 [v] fl A (.slice (some ⟨A.next, 0, some 0⟩) (mpoly xs).length (mpoly xs).length) (A.push (.row ((mpoly xs).map vC).flatten 0 6)) := by
  refine Sound.of mixed Tryd.func10 Tryd.ntmps10 Tryd.results10 (by kernel_rfl) rfl (by kernel_rfl) (by simp) fun hA => ?_
  obtain ⟨o, c, rfl⟩ := hs.len
  have hsB : Sl (A.push (.row [.slice o (xs.map iC).length c] 0 1)) 1 (.slice o (xs.map iC).length c) (xs.map iC) := hs.xt hA ((Xt.refl A).push _)
  have hfl := hA.floor
  obtain ⟨sv', hp⟩ := mpoly_all (G := G) (fl := fl) (A := A.push (.row [.slice o (xs.map iC).length c] 0 1)) (id := A.next) hx hsB (push_at rfl) hfl hl (fun a n c' e => by
    cases e
    exact Nat.ne_of_lt (hs.lt hA))
  simp only [↓R1, R2, R3, R4, TY, reduceIte, Nat.reduceEqDiff, Nat.reduceAdd, Nat.reduceMul, Nat.reduceLT, Nat.reduceLeDiff, reduceCtorEq, decide_true, decide_false, Int.reduceLE, Int.reduceLT, Int.reduceToNat, Int.reduceAdd, Int.reduceSub, Int.reduceMul, Int.reduceEq]
  refine call_of hp ?_
  simp only [↓R1, R2, R3, R4, TY, reduceIte, Nat.reduceEqDiff, Nat.reduceAdd, Nat.reduceMul, Nat.reduceLT, Nat.reduceLeDiff, reduceCtorEq, decide_true, decide_false, Int.reduceLE, Int.reduceLT, Int.reduceToNat, Int.reduceAdd, Int.reduceSub, Int.reduceMul, Int.reduceEq]
  refine Ended.one (id := A.next + 1) hA ?_ (Nat.le_succ _) ?_ (Nat.le_refl _) (vCs_rb _ _)
  · simp (maxDischargeDepth := 20) only [xt_push, xt_put, xt_refl, Nat.le_refl, Nat.le_add_right]
  · exact push_at rfl

theorem pbAt {x y : Int} (h1 : -1000 ≤ x) (h2 : x ≤ 1000) (h3 : -1000 ≤ y) (h4 : y ≤ 1000) : Sound Tryd.prog G 43 [.int .i64 x, .int .i64 y] fl A (prV (rOf x) (rOf y)) A := by
  refine Sound.of mixed Tryd.func43 Tryd.ntmps43 Tryd.results43 (by kernel_rfl) rfl (by kernel_rfl) (by simp) fun hA => ?_
  have hfl := hA.floor
  have o1 := fun fl A => rof_ok (G := G) (fl := fl) (A := A) (n := x) (by omega) (by omega)
  have o2 := fun fl A => rof_ok (G := G) (fl := fl) (A := A) (n := y) (by omega) (by omega)
  have hrb := prV_rb A.next (rOf x) (rOf y)
  generalize rOf x = p at *
  generalize rOf y = q at *
  simp only [prV_def] at hrb ⊢
  simp only [ratV_def] at o1 o2
  simp only [↓R1, R2, R3, R4, TY, reduceIte, Nat.reduceEqDiff, Nat.reduceAdd, Nat.reduceMul, Nat.reduceLT, Nat.reduceLeDiff, reduceCtorEq, decide_true, decide_false, Int.reduceLE, Int.reduceLT, Int.reduceToNat, Int.reduceAdd, Int.reduceSub, Int.reduceMul, Int.reduceEq, hfl, NE, NE9, Nat.add_assoc]
  refine call_of (o1 _ _) ?_
  simp only [↓R1, R2, R3, R4, TY, reduceIte, Nat.reduceEqDiff, Nat.reduceAdd, Nat.reduceMul, Nat.reduceLT, Nat.reduceLeDiff, reduceCtorEq, decide_true, decide_false, Int.reduceLE, Int.reduceLT, Int.reduceToNat, Int.reduceAdd, Int.reduceSub, Int.reduceMul, Int.reduceEq, hfl, NE, NE9, Nat.add_assoc]
  refine call_of (o2 _ _) ?_
  simp only [↓R1, R2, R3, R4, TY, reduceIte, Nat.reduceEqDiff, Nat.reduceAdd, Nat.reduceMul, Nat.reduceLT, Nat.reduceLeDiff, reduceCtorEq, decide_true, decide_false, Int.reduceLE, Int.reduceLT, Int.reduceToNat, Int.reduceAdd, Int.reduceSub, Int.reduceMul, Int.reduceEq, hfl, NE, NE9, Nat.add_assoc]
  refine Ended.back hA ?_ rfl hrb
  simp (maxDischargeDepth := 20) only [xt_push, xt_put, xt_refl, Nat.le_refl, Nat.le_add_right, Nat.add_assoc, Nat.reduceAdd]

set_option maxHeartbeats 4000000 in
theorem polyBegun_ok (hG : G 1 = some tabV) : Sound Tryd.prog G 9 [] fl A (.bool true) A := by
  refine Sound.of mixed Tryd.func9 Tryd.ntmps9 Tryd.results9 (by kernel_rfl) rfl (by kernel_rfl) (by simp) fun hA => ?_
  have hfl : fl ≤ A.next := by have := hA.floor; omega
  have hfl1 : fl ≤ A.next + 1 := by have := hA.floor; omega
  have hfl2 : fl ≤ A.next + 2 := by have := hA.floor; omega
  have hfl3 : fl ≤ A.next + 3 := by have := hA.floor; omega
  have hfl4 : fl ≤ A.next + 4 := by have := hA.floor; omega
  have hfl5 : fl ≤ A.next + 5 := by have := hA.floor; omega
  have hfl6 : fl ≤ A.next + 6 := by have := hA.floor; omega
  have bg := fun fl A => vecBegun_ok (G := G) (fl := fl) (A := A) hG
  have a00 := fun fl A => pbAt (G := G) (fl := fl) (A := A) (x := 0) (y := 0) (by decide) (by decide) (by decide) (by decide)
  have a20 := fun fl A => pbAt (G := G) (fl := fl) (A := A) (x := 2) (y := 0) (by decide) (by decide) (by decide) (by decide)
  have a22 := fun fl A => pbAt (G := G) (fl := fl) (A := A) (x := 2) (y := 2) (by decide) (by decide) (by decide) (by decide)
  have a02 := fun fl A => pbAt (G := G) (fl := fl) (A := A) (x := 0) (y := 2) (by decide) (by decide) (by decide) (by decide)
  have zz : zl [Value.bool false, .string { data := #[] }, .string { data := #[] }, .bool false, .string { data := #[] }, .string { data := #[] }] 24 = [Value.bool false, .string { data := #[] }, .string { data := #[] }, .bool false, .string { data := #[] }, .string { data := #[] }, Value.bool false, .string { data := #[] }, .string { data := #[] }, .bool false, .string { data := #[] }, .string { data := #[] }, Value.bool false, .string { data := #[] }, .string { data := #[] }, .bool false, .string { data := #[] }, .string { data := #[] }, Value.bool false, .string { data := #[] }, .string { data := #[] }, .bool false, .string { data := #[] }, .string { data := #[] }] := rfl
  have w4 := fun fl A => rof_ok (G := G) (fl := fl) (A := A) (n := 4) (by decide) (by decide)
  have hz := sqr_z (x := 0) (y := 0) (u := 2) (v := 2) (by decide) (by decide) (by decide) (by decide)
  have ar := fun fl (A : Hp) v (hs : Sl A 6 v ((sqr 0 0 2 2).map vC)) => parea_ok (G := G) (fl := fl) (A := A) hG hs hz (by decide) (by simp [sqr]) (by simp [sqr])
  have hd := eqD_rat (rOf 4) (rOf 4)
  rw [decide_eq_true rfl] at hd
  rw [sqr_area] at ar
  have el : (sqr 0 0 2 2).length = 4 := rfl
  have er : ((sqr 0 0 2 2).map vC).flatten = vC (rOf 0, rOf 0) ++ vC (rOf 2, rOf 0) ++ vC (rOf 2, rOf 2) ++ vC (rOf 0, rOf 2) := by simp [sqr]
  have sa := fun (B : Hp) id => sl_at (B := B) (id := id) (l := sqr 0 0 2 2)
  rw [er, el] at sa
  generalize sqr 0 0 2 2 = Q at *
  generalize rOf 0 = u0 at *
  generalize rOf 2 = u2 at *
  generalize rOf 4 = u4 at *
  simp only [ratV_def] at ar w4 hd
  simp only [prV_def] at a00 a20 a22 a02
  simp only [vC_def, List.cons_append, List.nil_append] at sa
  simp only [↓R1, R2, R3, R4, TY, reduceIte, Nat.reduceEqDiff, Nat.reduceAdd, Nat.reduceMul, Nat.reduceLT, Nat.reduceLeDiff, reduceCtorEq, decide_true, decide_false, Int.reduceLE, Int.reduceLT, Int.reduceToNat, Int.reduceAdd, Int.reduceSub, Int.reduceMul, Int.reduceEq, hfl, hfl1, hfl2, hfl3, hfl4, hfl5, hfl6, NE, NE9, Nat.add_assoc, zz]
  refine call_of (bg _ _) ?_
  simp only [↓R1, R2, R3, R4, TY, reduceIte, Nat.reduceEqDiff, Nat.reduceAdd, Nat.reduceMul, Nat.reduceLT, Nat.reduceLeDiff, reduceCtorEq, decide_true, decide_false, Int.reduceLE, Int.reduceLT, Int.reduceToNat, Int.reduceAdd, Int.reduceSub, Int.reduceMul, Int.reduceEq, hfl, hfl1, hfl2, hfl3, hfl4, hfl5, hfl6, NE, NE9, Nat.add_assoc, zz]
  refine call_of (a00 _ _) ?_
  simp only [↓R1, R2, R3, R4, TY, reduceIte, Nat.reduceEqDiff, Nat.reduceAdd, Nat.reduceMul, Nat.reduceLT, Nat.reduceLeDiff, reduceCtorEq, decide_true, decide_false, Int.reduceLE, Int.reduceLT, Int.reduceToNat, Int.reduceAdd, Int.reduceSub, Int.reduceMul, Int.reduceEq, hfl, hfl1, hfl2, hfl3, hfl4, hfl5, hfl6, NE, NE9, Nat.add_assoc, zz]
  refine call_of (a20 _ _) ?_
  simp only [↓R1, R2, R3, R4, TY, reduceIte, Nat.reduceEqDiff, Nat.reduceAdd, Nat.reduceMul, Nat.reduceLT, Nat.reduceLeDiff, reduceCtorEq, decide_true, decide_false, Int.reduceLE, Int.reduceLT, Int.reduceToNat, Int.reduceAdd, Int.reduceSub, Int.reduceMul, Int.reduceEq, hfl, hfl1, hfl2, hfl3, hfl4, hfl5, hfl6, NE, NE9, Nat.add_assoc, zz]
  refine call_of (a22 _ _) ?_
  simp only [↓R1, R2, R3, R4, TY, reduceIte, Nat.reduceEqDiff, Nat.reduceAdd, Nat.reduceMul, Nat.reduceLT, Nat.reduceLeDiff, reduceCtorEq, decide_true, decide_false, Int.reduceLE, Int.reduceLT, Int.reduceToNat, Int.reduceAdd, Int.reduceSub, Int.reduceMul, Int.reduceEq, hfl, hfl1, hfl2, hfl3, hfl4, hfl5, hfl6, NE, NE9, Nat.add_assoc, zz]
  refine call_of (a02 _ _) ?_
  simp only [↓R1, R2, R3, R4, TY, reduceIte, Nat.reduceEqDiff, Nat.reduceAdd, Nat.reduceMul, Nat.reduceLT, Nat.reduceLeDiff, reduceCtorEq, decide_true, decide_false, Int.reduceLE, Int.reduceLT, Int.reduceToNat, Int.reduceAdd, Int.reduceSub, Int.reduceMul, Int.reduceEq, hfl, hfl1, hfl2, hfl3, hfl4, hfl5, hfl6, NE, NE9, Nat.add_assoc, zz]
  refine call_of (ar _ _ _ (sa _ _ (push_at rfl))) ?_
  simp only [↓R1, R2, R3, R4, TY, reduceIte, Nat.reduceEqDiff, Nat.reduceAdd, Nat.reduceMul, Nat.reduceLT, Nat.reduceLeDiff, reduceCtorEq, decide_true, decide_false, Int.reduceLE, Int.reduceLT, Int.reduceToNat, Int.reduceAdd, Int.reduceSub, Int.reduceMul, Int.reduceEq, hfl, hfl1, hfl2, hfl3, hfl4, hfl5, hfl6, NE, NE9, Nat.add_assoc, hd, guard_rat]
  refine call_of (w4 _ _) ?_
  simp only [↓R1, R2, R3, R4, TY, reduceIte, Nat.reduceEqDiff, Nat.reduceAdd, Nat.reduceMul, Nat.reduceLT, Nat.reduceLeDiff, reduceCtorEq, decide_true, decide_false, Int.reduceLE, Int.reduceLT, Int.reduceToNat, Int.reduceAdd, Int.reduceSub, Int.reduceMul, Int.reduceEq, hfl, hfl1, hfl2, hfl3, hfl4, hfl5, hfl6, NE, NE9, Nat.add_assoc, hd, guard_rat]
  refine Ended.back hA ?_ rfl (RB.bool _)
  simp (maxDischargeDepth := 20) only [xt_push, xt_put, xt_refl, Nat.le_refl, Nat.le_add_right, Nat.add_assoc, Nat.reduceAdd]

end
end Go.Proofs.YthclikeipdplpaaDoor.Ab
