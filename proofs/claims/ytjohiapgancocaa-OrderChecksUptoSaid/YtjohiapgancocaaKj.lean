/- Orders: the fact about orders. -/
import Derived.Test.YtjohiapgancocaaKi
namespace Go.Proofs.Ytjohiapgancocaa.Ab
open Go.RowKit
set_option linter.unusedVariables false
set_option linter.unusedSimpArgs false
set_option maxRecDepth 100000
section
variable {G : Gl} {fl : Nat} {A : Hp}
theorem iequal_ok {v1 v2 : Value} {l1 l2 : List Int} (hl : l1.length < 9223372036854775807) (h1 : Sl A 1 v1 (l1.map iC)) (h2 : Sl A 1 v2 (l2.map iC)) : Sound Try.prog G 22 [v1, v2] fl A (.bool (decide (l1 = l2))) A := by
  refine Sound.of mixed Try.func22 Try.ntmps22 Try.results22 (by kernel_rfl) rfl (by kernel_rfl) (by kernel_rfl) fun hA => ?_
  obtain ⟨o1, c1, rfl⟩ := h1.len
  obtain ⟨o2, c2, rfl⟩ := h2.len
  rw [List.length_map] at h1 h2 ⊢
  rw [List.length_map]
  simp only [↓R1, R2, R3, R4, TY, reduceIte, Nat.reduceEqDiff, Nat.reduceAdd, Nat.reduceMul, Nat.reduceLT, Nat.reduceLeDiff, reduceCtorEq, decide_true, decide_false, Int.reduceLE, Int.reduceLT, Int.reduceToNat, Int.reduceAdd, Int.reduceSub, Int.reduceMul, Int.reduceEq, FE, Nat.mul_one]
  have hcast : ((l1.length : Int) = (l2.length : Int)) = (l1.length = l2.length) := propext Int.ofNat_inj
  simp only [hcast]
  refine ⟨fun he => ?_, fun he => ?_⟩
  rotate_left
  · exact Ended.back hA (Xt.refl A) (congrArg _ (dec_f fun h => he (by rw [h]))) (RB.bool _)
  refine range_of 13 l1.length (fun j τ B => B = A ∧ τ 0 = some (.slice o1 l1.length c1) ∧ τ 1 = some (.slice o2 l2.length c2) ∧ τ 12 = some (.int .i64 l1.length) ∧ τ 13 = some (.int .i64 j) ∧ l1.take j = l2.take j) ?_ ?_
  · exact ⟨rfl, rfl, rfl, rfl, rfl, rfl⟩
  rintro j τ B hj ⟨rfl, q0, q1, q12, q13, hpre⟩
  simp only [↓R1, R2, R3, R4, TY, reduceIte, Nat.reduceEqDiff, Nat.reduceAdd, Nat.reduceMul, Nat.reduceLT, Nat.reduceLeDiff, reduceCtorEq, decide_true, decide_false, Int.reduceLE, Int.reduceLT, Int.reduceToNat, Int.reduceAdd, Int.reduceSub, Int.reduceMul, Int.reduceEq, FE, Nat.mul_one, q0, q1, q12, q13]
  refine ⟨fun hlt => ?_, fun hlt => ?_⟩
  rotate_left
  · refine Ended.back hA (Xt.refl _) (congrArg _ (dec_t ?_)) (RB.bool _)
    rwa [List.take_of_length_le (by omega), List.take_of_length_le (by omega)] at hpre
  have hlt2 : j < l2.length := by omega
  obtain ⟨a1, rfl, -⟩ := h1.at (G := G) (i := j) (by simpa using hlt)
  obtain ⟨a2, rfl, -⟩ := h2.at (G := G) (i := j) (by simpa using hlt2)
  have g0 := int_get (G := G) h1 hlt
  have k0 := int_get (G := G) h2 hlt2
  have hj63 : j < 9223372036854775807 := by omega
  have hb1 := h1.lt hA
  have hb2 := h2.lt hA
  simp only [↓R1, R2, R3, R4, TY, reduceIte, Nat.reduceEqDiff, Nat.reduceAdd, Nat.reduceMul, Nat.reduceLT, Nat.reduceLeDiff, reduceCtorEq, decide_true, decide_false, Int.reduceLE, Int.reduceLT, Int.reduceToNat, Int.reduceAdd, Int.reduceSub, Int.reduceMul, Int.reduceEq, FE, Nat.mul_one, q0, q1, q12, q13, hlt, hlt2, g0, k0, hj63, hb1, hb2]
  refine ⟨fun hc => ?_, fun hc => ?_⟩
  · refine range_on q13 hlt rfl ⟨rfl, q0, q1, q12, rfl, ?_⟩
    rw [List.take_succ_eq_append_getElem hlt, List.take_succ_eq_append_getElem hlt2, hpre, hc]
  · refine Ended.back hA (Xt.refl _) (congrArg _ (dec_f fun h => hc ?_)) (RB.bool _)
    subst h; rfl
theorem longStep_ok : Sound Try.prog G 47 [.agg #[.int .i64 3, .int .i64 0, .int .i64 0, .int .i64 0, .int .i64 0]] fl A (.int .i64 20) A := by
  refine Sound.of mixed Try.func47 Try.ntmps47 Try.results47 (by kernel_rfl) rfl (by kernel_rfl) (by kernel_rfl) fun hA => ?_
  simp only [↓R1, R2, R3, R4, TY, reduceIte, Nat.reduceEqDiff, Nat.reduceAdd, Nat.reduceMul, Nat.reduceLT, Nat.reduceLeDiff, reduceCtorEq, decide_true, decide_false, Int.reduceLE, Int.reduceLT, Int.reduceToNat, Int.reduceAdd, Int.reduceSub, Int.reduceMul, Int.reduceEq, FE]
  exact Ended.back hA ((Xt.refl A).push _) rfl (RB.int _ _)
theorem ordered_ok : Sound Try.prog G 30 [] fl A (.bool true) A := by
  refine Sound.of mixed Try.func30 Try.ntmps30 Try.results30 (by kernel_rfl) rfl (by kernel_rfl) (by kernel_rfl) fun hA => ?_
  have z1 : zl [Value.int .i64 0] 1 = [Value.int .i64 0] := rfl
  have z3 : zl [Value.int .i64 0] 3 = [Value.int .i64 0, Value.int .i64 0, Value.int .i64 0] := rfl
  have z0 : zl [Value.int .i64 0] 0 = [] := rfl
  have s3 : zl [Value.slice none 0 0] 3 = [Value.slice none 0 0, Value.slice none 0 0, Value.slice none 0 0] := rfl
  simp only [↓R1, R2, R3, R4, TY, reduceIte, Nat.reduceEqDiff, Nat.reduceAdd, Nat.reduceMul, Nat.reduceLT, Nat.reduceLeDiff, reduceCtorEq, decide_true, decide_false, Int.reduceLE, Int.reduceLT, Int.reduceToNat, Int.reduceAdd, Int.reduceSub, Int.reduceMul, Int.reduceEq, FE, z1, z3, z0, s3, List.length_cons, List.length_nil]
  generalize hB : Hp.push _ (.row [Value.int .i64 1] 0 1) = B
  have hx : Xt A.next A B := by rw [← hB]; exact ((((((Xt.refl A).push _).push _).push _).push _).push _)
  have b0 : B.blk A.next = some (.row (rI []) 0 1) := by rw [← hB]; simp only [Hp.push_blk, Hp.push_next]; (repeat' split) <;> first | rfl | omega | simp_all
  have b1 : B.blk (A.next + 1) = some (.row (rI []) 0 1) := by rw [← hB]; simp only [Hp.push_blk, Hp.push_next]; (repeat' split) <;> first | rfl | omega | simp_all
  have b2 : B.blk (A.next + 1 + 1) = some (.row (rI [0]) 0 1) := by rw [← hB]; simp only [Hp.push_blk, Hp.push_next]; (repeat' split) <;> first | rfl | omega | simp_all
  have b3 : B.blk (A.next + 1 + 1 + 1) = some (.row [.slice (some ⟨A.next, 0, some 0⟩) 0 0, .slice (some ⟨A.next + 1, 0, some 0⟩) 0 0, .slice (some ⟨A.next + 1 + 1, 0, some 0⟩) 1 1] 0 1) := by rw [← hB]; simp only [Hp.push_blk, Hp.push_next]; (repeat' split) <;> first | rfl | omega | simp_all
  have b4 : B.blk (A.next + 1 + 1 + 1 + 1) = some (.row (rI [1]) 0 1) := by rw [← hB]; simp only [Hp.push_blk, Hp.push_next]; (repeat' split) <;> first | rfl | omega | simp_all
  clear hB
  have hN : Nst B (.slice (some ⟨A.next + 1 + 1 + 1, 0, some 0⟩) 3 3) [[], [], [0]] :=
    ⟨[.slice (some ⟨A.next, 0, some 0⟩) 0 0, .slice (some ⟨A.next + 1, 0, some 0⟩) 0 0, .slice (some ⟨A.next + 1 + 1, 0, some 0⟩) 1 1],
      ⟨fun c hc => by simp at hc; rcases hc with rfl | rfl | rfl <;> rfl, .inr (.inr ⟨_, 3, 3, 0, _, rfl, rfl, rfl, b3, fun j x hj => by simpa using hj⟩)⟩, rfl, fun i h h' => by
      match i, h with
      | 0, _ => exact rI_sl b0 rfl
      | 1, _ => exact rI_sl b1 rfl
      | 2, _ => exact rI_sl b2 rfl⟩
  have pc := fun fl => pick_ok (G := G) (fl := fl) (bs := [1]) hN (by decide) (rI_sl (c := 1) b4 rfl) (by decide) (by decide) (by decide)
  have e1 : pk [[], [], [0]] [1] 3 = [1, 0, 2] := by decide
  rw [show ([[], [], [0]] : List (List Int)).length = 3 from rfl, e1] at pc
  have ss := fun C x => nl_later (A := B) (C := C) (sz := 1) (css := ([1, 0, 2] : List Int).map iC) (i_len _) x
  have hx1 := nlH_xt (A := B) (sz := 1) (css := ([1, 0, 2] : List Int).map iC)
  generalize nlV B (([1, 0, 2] : List Int).map iC) = r1 at pc ss
  generalize nlH B 1 (([1, 0, 2] : List Int).map iC) = C at pc ss hx1
  have hxC := (Xt.refl C).push (.row [Value.int .i64 1, .int .i64 0, .int .i64 2] 0 1)
  have eq1 := fun fl => iequal_ok (G := G) (fl := fl) (l1 := [1, 0, 2]) (l2 := [1, 0, 2]) (by decide) (ss _ hxC) (rI_sl (B := C.push (.row [Value.int .i64 1, .int .i64 0, .int .i64 2] 0 1)) (id := C.next) (g := 0) (n := 3) (c := 3) (by rw [Hp.push_blk, if_pos rfl]; rfl) rfl)
  rw [decide_eq_true rfl] at eq1
  have lg := fun fl A => longStep_ok (G := G) (fl := fl) (A := A)
  refine call_of (pc _) ?_
  simp only [↓R1, R2, R3, R4, TY, reduceIte, Nat.reduceEqDiff, Nat.reduceAdd, Nat.reduceMul, Nat.reduceLT, Nat.reduceLeDiff, reduceCtorEq, decide_true, decide_false, Int.reduceLE, Int.reduceLT, Int.reduceToNat, Int.reduceAdd, Int.reduceSub, Int.reduceMul, Int.reduceEq, FE, z1, z3, z0, s3, List.length_cons, List.length_nil]
  refine call_of (eq1 _) ?_
  simp only [↓R1, R2, R3, R4, TY, reduceIte, Nat.reduceEqDiff, Nat.reduceAdd, Nat.reduceMul, Nat.reduceLT, Nat.reduceLeDiff, reduceCtorEq, decide_true, decide_false, Int.reduceLE, Int.reduceLT, Int.reduceToNat, Int.reduceAdd, Int.reduceSub, Int.reduceMul, Int.reduceEq, FE, z1, z3, z0, s3]
  refine call_of (lg _ _) ?_
  simp only [↓R1, R2, R3, R4, TY, reduceIte, Nat.reduceEqDiff, Nat.reduceAdd, Nat.reduceMul, Nat.reduceLT, Nat.reduceLeDiff, reduceCtorEq, decide_true, decide_false, Int.reduceLE, Int.reduceLT, Int.reduceToNat, Int.reduceAdd, Int.reduceSub, Int.reduceMul, Int.reduceEq, FE, z1, z3, z0, s3]
  exact Ended.back hA ((hx.trans hx1).push _) rfl (RB.bool _)
end
end Go.Proofs.Ytjohiapgancocaa.Ab
