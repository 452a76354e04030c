/- Cells of a grid: Of, Check, Contains. -/
import Derived.Test.YthclikeipdplpaaGreatDoorZb
namespace Go.Proofs.YthclikeipdplpaaGreatDoor.Ab
open Go.RowKit
set_option linter.unusedVariables false
set_option linter.unusedSimpArgs false
set_option maxRecDepth 100000

/-- How many cells a box has in a direction. -/
def nce (p q : Rat) : Nat := (q.floor - c0 p + 1).toNat
theorem nce_pos {p q : Rat} (h : p ≤ q) : 1 ≤ nce p q := by have := sides_le h; unfold nce; omega
theorem nce_le {p q : Rat} (p1 : -8 ≤ p) (p2 : p ≤ 8) (q1 : -8 ≤ q) (q2 : q ≤ 8) : nce p q ≤ 18 := by
  have := floor_8 q1 q2
  have := c0_8 p1 p2
  unfold nce; omega
theorem nce_eq {p q : Rat} (h : p ≤ q) : ((nce p q : Nat) : Int) = q.floor - c0 p + 1 := by have := sides_le h; unfold nce; omega
theorem Ac.some_of {D : Hp} {lo sz : Nat} {v : Value} {css : List (List Value)} (h : Ac D lo sz v css) (hne : css ≠ []) : ∃ id g n c, v = .slice (some ⟨id, 0, some g⟩) n c := by
  rcases h.at_ with ⟨_, h2⟩ | ⟨id, g, n, c, h1, _⟩
  · exact absurd h2 hne
  · exact ⟨id, g, n, c, h1⟩
theorem cell_get {G : Gl} {B : Hp} {a : Addr} {n c : Nat} {l : List Ce} (h : Sl B 2 (.slice (some a) n c) (l.map cC)) {i : Nat} (hi : i < l.length) :
    B.get G (aadd a (i * 2)) = some (.int .i64 l[i].1) ∧ B.get G (aadd a (i * 2 + 1)) = some (.int .i64 l[i].2) := by
  obtain ⟨a', h1, h2⟩ := h.at (G := G) (i := i) (by simpa using hi)
  cases h1
  simp only [List.getElem_map] at h2
  exact ⟨h2 0 _ rfl, h2 1 _ rfl⟩
theorem eqD_cell (a b c d : Int) : eqD Tryz.prog 20 36 (.agg #[.int .i64 a, .int .i64 b]) (.agg #[.int .i64 c, .int .i64 d]) = some (decide ((a, b) = (c, d))) := by
  have hst : Tryz.prog.stoodInHeld 36 = false := by kernel_rfl
  have h1 : eqD Tryz.prog 20 36 (.agg #[.int .i64 a, .int .i64 b]) (.agg #[.int .i64 c, .int .i64 d]) = some ((a == c) && ((b == d) && true)) := by
    simp [eqD, Tryz.underlying36, Tryz.underlying3, eqFs, partV, ty3, hst]
  rw [h1]
  congr 1
  by_cases h : (a, b) = (c, d)
  · rw [decide_eq_true h]
    cases h; simp
  · rw [decide_eq_false h]
    apply Bool.eq_false_iff.2
    intro hc
    simp only [Bool.and_eq_true, beq_iff_eq, Bool.and_true] at hc
    exact h (Prod.ext hc.1 hc.2)
theorem guard_cell : Tryz.prog.eqGuardType Tryz.prog.depth 36 = false := by kernel_rfl
/-- Where a cell first stands. -/
def ixC (l : List Ce) (c : Ce) : Int := if l.findIdx (fun x => decide (c = x)) < l.length then (l.findIdx (fun x => decide (c = x)) : Int) else -1
theorem ixC_found {l : List Ce} {c : Ce} {j : Nat} (hj : j < l.length) (h : c = l[j]) (hno : ∀ k (hk : k < j), ¬ c = l[k]) : ixC l c = j := by
  have : l.findIdx (fun x => decide (c = x)) = j := (List.findIdx_eq hj).2 ⟨decide_eq_true h, fun k hk => decide_eq_false (hno k hk)⟩
  rw [ixC, this, if_pos hj]
theorem ixC_none {l : List Ce} {c : Ce} (hno : ∀ k (hk : k < l.length), ¬ c = l[k]) : ixC l c = -1 := by
  rw [ixC, if_neg]
  intro h
  have := List.findIdx_getElem (w := h)
  exact hno _ h (of_decide_eq_true this)
theorem ixC_nonneg {l : List Ce} {c : Ce} : 0 ≤ ixC l c ↔ c ∈ l := by
  rw [ixC]
  split
  · rename_i h
    refine ⟨fun _ => ?_, fun _ => by omega⟩
    have := List.findIdx_getElem (w := h)
    rw [of_decide_eq_true this]
    exact List.getElem_mem _
  · rename_i h
    refine ⟨fun h => by omega, fun hb => ?_⟩
    exact absurd (List.findIdx_lt_length_of_exists ⟨c, hb, by simp⟩) h

section
variable {G : Gl} {fl : Nat} {A : Hp}

set_option maxHeartbeats 8000000 in
theorem gof {a b c d : Rat} {k : Nat} {a_n : Bool} {a_s a_d : ByteArray} {b_n : Bool} {b_s b_d : ByteArray} {c_n : Bool} {c_s c_d : ByteArray} {d_n : Bool} {d_s d_d : ByteArray} (hG : G 1 = some tabV) (fa : ∀ fl A, Sound Tryz.prog G 45 [.agg #[.bool a_n, .string a_s, .string a_d]] fl A (ratV a) A) (fb : ∀ fl A, Sound Tryz.prog G 45 [.agg #[.bool b_n, .string b_s, .string b_d]] fl A (ratV b) A) (fc : ∀ fl A, Sound Tryz.prog G 45 [.agg #[.bool c_n, .string c_s, .string c_d]] fl A (ratV c) A) (fd : ∀ fl A, Sound Tryz.prog G 45 [.agg #[.bool d_n, .string d_s, .string d_d]] fl A (ratV d) A) (ha : Rz a k) (hb : Rz b k) (hc : Rz c k) (hd : Rz d k) (hk : k ≤ 1000)
    (a1 : -8 ≤ a) (a2 : a ≤ 8) (b1 : -8 ≤ b) (b2 : b ≤ 8) (c1 : -8 ≤ c) (c2 : c ≤ 8) (d1 : -8 ≤ d) (d2 : d ≤ 8) (hac : a ≤ c) (hbd : b ≤ d) :
    Sound Tryz.prog G 9 [.agg #[.bool a_n, .string a_s, .string a_d, .bool b_n, .string b_s, .string b_d, .bool c_n, .string c_s, .string c_d, .bool d_n, .string d_s, .string d_d]] fl A
      (.tuple [.slice (some ⟨A.next, 0, some 0⟩) (gcl (c0 a) (c0 b) (nce a c) (nce b d)).length (gcl (c0 a) (c0 b) (nce a c) (nce b d)).length, Value.int .i64 0].toArray) (A.push (.row ((gcl (c0 a) (c0 b) (nce a c) (nce b d)).map cC).flatten 0 2)) := by
  refine Sound.of mixed Tryz.func9 Tryz.ntmps9 Tryz.results9 (by kernel_rfl) rfl (by kernel_rfl) (by simp) fun hA => ?_
  have hfl : fl ≤ A.next := by have := hA.floor; omega
  have hfl1 : fl ≤ A.next + 1 := by have := hA.floor; omega
  have hfl2 : fl ≤ A.next + 2 := by have := hA.floor; omega
  have hfl3 : fl ≤ A.next + 3 := by have := hA.floor; omega
  have hfl4 : fl ≤ A.next + 4 := by have := hA.floor; omega
  have hfl5 : fl ≤ A.next + 5 := by have := hA.floor; omega
  have hfl6 : fl ≤ A.next + 6 := by have := hA.floor; omega
  have cm1 := fun fl A => gcmp (G := G) (fl := fl) (A := A) hG fa fc ha hc (by omega)
  have cm2 := fun fl A => gcmp (G := G) (fl := fl) (A := A) hG fb fd hb hd (by omega)
  have s1 := fun fl A => sides_ok (G := G) (fl := fl) (A := A) hG fa fc ha hc hk a1 a2 c1 c2
  have s2 := fun fl A => sides_ok (G := G) (fl := fl) (A := A) hG fb fd hb hd hk b1 b2 d1 d2
  have j1 : (rcmp a c > 0) = False := eq_false (fun h => by have := rcmp_le_iff.2 hac; omega)
  have j1' : (0 < rcmp a c) = False := j1
  have j2 : (rcmp b d > 0) = False := eq_false (fun h => by have := rcmp_le_iff.2 hbd; omega)
  have j2' : (0 < rcmp b d) = False := j2
  have ex := nce_eq hac
  have ey := nce_eq hbd
  have px := nce_pos hac
  have py := nce_pos hbd
  have lx := nce_le a1 a2 c1 c2
  have ly := nce_le b1 b2 d1 d2
  have bx := c0_8 a1 a2
  have by' := c0_8 b1 b2
  have bc := floor_8 c1 c2
  have bd' := floor_8 d1 d2
  generalize hx0 : c0 a = x0 at *
  generalize hy0 : c0 b = y0 at *
  generalize hx1 : c.floor = X1 at *
  generalize hy1 : d.floor = Y1 at *
  generalize nce a c = nx at *
  generalize nce b d = ny at *
  have w1 : IntKind.i64.wrap (X1 - x0) = X1 - x0 := wrapI (by omega)
  have w2 : IntKind.i64.wrap (X1 - x0 + 1) = ((nx : Nat) : Int) := by rw [wrapI (by omega)]; omega
  have w3 : IntKind.i64.wrap (Y1 - y0) = Y1 - y0 := wrapI (by omega)
  have w4 : IntKind.i64.wrap (Y1 - y0 + 1) = ((ny : Nat) : Int) := by rw [wrapI (by omega)]; omega
  have hmul : nx * ny ≤ 18 * 18 := Nat.mul_le_mul lx ly
  have w5 : IntKind.i64.wrap (((nx : Nat) : Int) * ((ny : Nat) : Int)) = ((nx * ny : Nat) : Int) := by
    rw [← Int.natCast_mul]; exact wrapI (by omega)
  have w6 : (((nx * ny : Nat) : Int) > 400) = False := eq_false (by omega)
  have w6' : ((400 : Int) < ((nx * ny : Nat) : Int)) = False := w6
  simp only [↓R1, R2, R3, R4, TY, reduceIte, Nat.reduceEqDiff, Nat.reduceAdd, Nat.reduceMul, Nat.reduceLT, Nat.reduceLeDiff, reduceCtorEq, decide_true, decide_false, Int.reduceLE, Int.reduceLT, Int.reduceToNat, Int.reduceAdd, Int.reduceSub, Int.reduceMul, Int.reduceEq, hfl, hfl1, hfl2, hfl3, hfl4, hfl5, hfl6, NE, NE9, Nat.add_assoc]
  refine call_of (cm1 _ _) ?_
  simp only [↓R1, R2, R3, R4, TY, reduceIte, Nat.reduceEqDiff, Nat.reduceAdd, Nat.reduceMul, Nat.reduceLT, Nat.reduceLeDiff, reduceCtorEq, decide_true, decide_false, Int.reduceLE, Int.reduceLT, Int.reduceToNat, Int.reduceAdd, Int.reduceSub, Int.reduceMul, Int.reduceEq, hfl, hfl1, hfl2, hfl3, hfl4, hfl5, hfl6, NE, NE9, Nat.add_assoc, j1, j1']
  refine call_of (cm2 _ _) ?_
  simp only [↓R1, R2, R3, R4, TY, reduceIte, Nat.reduceEqDiff, Nat.reduceAdd, Nat.reduceMul, Nat.reduceLT, Nat.reduceLeDiff, reduceCtorEq, decide_true, decide_false, Int.reduceLE, Int.reduceLT, Int.reduceToNat, Int.reduceAdd, Int.reduceSub, Int.reduceMul, Int.reduceEq, hfl, hfl1, hfl2, hfl3, hfl4, hfl5, hfl6, NE, NE9, Nat.add_assoc, j2, j2']
  refine call_of (s1 _ _) ?_
  simp only [↓R1, R2, R3, R4, TY, reduceIte, Nat.reduceEqDiff, Nat.reduceAdd, Nat.reduceMul, Nat.reduceLT, Nat.reduceLeDiff, reduceCtorEq, decide_true, decide_false, Int.reduceLE, Int.reduceLT, Int.reduceToNat, Int.reduceAdd, Int.reduceSub, Int.reduceMul, Int.reduceEq, hfl, hfl1, hfl2, hfl3, hfl4, hfl5, hfl6, NE, NE9, Nat.add_assoc]
  refine call_of (s2 _ _) ?_
  simp only [↓R1, R2, R3, R4, TY, reduceIte, Nat.reduceEqDiff, Nat.reduceAdd, Nat.reduceMul, Nat.reduceLT, Nat.reduceLeDiff, reduceCtorEq, decide_true, decide_false, Int.reduceLE, Int.reduceLT, Int.reduceToNat, Int.reduceAdd, Int.reduceSub, Int.reduceMul, Int.reduceEq, hfl, hfl1, hfl2, hfl3, hfl4, hfl5, hfl6, NE, NE9, Nat.add_assoc, w1, w2, w3, w4, w5, w6, w6']
  generalize hB : Hp.push A _ = B
  have hBx : Xt A.next A B := by rw [← hB]; exact (Xt.refl A).push _
  clear hB
  refine for_of 11 y0 ny (fun j τ C => ∃ so, Xt A.next A C ∧ Ac C A.next 2 so ((gcl x0 y0 nx j).map cC) ∧ τ 4 = some (.int .i64 x0) ∧ τ 5 = some (.int .i64 X1) ∧ τ 8 = some (.int .i64 Y1) ∧ τ 10 = some so ∧ τ 11 = some (.int .i64 (y0 + (j : Int)))) ?_ ?_
  · exact ⟨_, hBx, Ac.nil _ _ _, rfl, rfl, rfl, rfl, by simp [upd_eq]⟩
  rintro j τ C hj ⟨so, hx, hac', q4, q5, q8, q10, q11⟩
  have cj : (y0 + (j : Int) ≤ Y1) = (j < ny) := by simp only [eq_iff_iff]; omega
  simp only [↓R1, R2, R3, R4, TY, reduceIte, Nat.reduceEqDiff, Nat.reduceAdd, Nat.reduceMul, Nat.reduceLT, Nat.reduceLeDiff, reduceCtorEq, decide_true, decide_false, Int.reduceLE, Int.reduceLT, Int.reduceToNat, Int.reduceAdd, Int.reduceSub, Int.reduceMul, Int.reduceEq, q4, q5, q8, q10, q11, cj]
  refine ⟨fun hlt => ?_, fun hlt => ?_⟩
  rotate_left
  · have e : j = ny := by omega
    subst e
    have hne : (gcl x0 y0 nx j).map cC ≠ [] := fun h => by
      have := congrArg List.length h
      rw [List.length_map, gcl_len, List.length_nil] at this
      have := Nat.mul_pos (show 0 < j by omega) (show 0 < nx by omega)
      omega
    have hend := Ended.acc2 (u := .int .i64 0) hA hx hac' (cC_rb _ _) (RB.int _ _)
    obtain ⟨id, g, n, c, rfl⟩ := hac'.some_of hne
    simp only [outV, outH, List.length_map] at hend
    exact hend
  refine for_of 12 x0 nx (fun i τ D => ∃ so, Xt A.next A D ∧ Ac D A.next 2 so ((gcl x0 y0 nx j ++ crow x0 (y0 + j) i).map cC) ∧ τ 4 = some (.int .i64 x0) ∧ τ 5 = some (.int .i64 X1) ∧ τ 8 = some (.int .i64 Y1) ∧ τ 10 = some so ∧ τ 11 = some (.int .i64 (y0 + (j : Int))) ∧ τ 12 = some (.int .i64 (x0 + (i : Int)))) ?_ ?_
  · exact ⟨so, hx, by simpa [crow] using hac', q4, q5, q8, q10, q11, by simp [upd_eq]⟩
  rintro i τ' D hi ⟨so', hx2, hac2, r4, r5, r8, r10, r11, r12⟩
  have ci : (x0 + (i : Int) ≤ X1) = (i < nx) := by simp only [eq_iff_iff]; omega
  simp only [↓R1, R2, R3, R4, TY, reduceIte, Nat.reduceEqDiff, Nat.reduceAdd, Nat.reduceMul, Nat.reduceLT, Nat.reduceLeDiff, reduceCtorEq, decide_true, decide_false, Int.reduceLE, Int.reduceLT, Int.reduceToNat, Int.reduceAdd, Int.reduceSub, Int.reduceMul, Int.reduceEq, r4, r5, r8, r10, r11, r12, ci]
  refine ⟨fun hil => ?_, fun hil => ?_⟩
  · have w7 : IntKind.i64.wrap (x0 + (i : Int) + 1) = x0 + ((i + 1 : Nat) : Int) := by rw [wrapI (by omega)]; omega
    have hlen : (gcl x0 y0 nx j ++ crow x0 (y0 + j) i).length ≤ 1000 := by
      rw [List.length_append, gcl_len, crow_len]
      have : j * nx ≤ 18 * 18 := Nat.mul_le_mul (by omega) (by omega)
      omega
    have z2 : zl [Value.int .i64 0, .int .i64 0] 2 = [Value.int .i64 0, .int .i64 0] := rfl
    simp only [↓R1, R2, R3, R4, TY, reduceIte, Nat.reduceEqDiff, Nat.reduceAdd, Nat.reduceMul, Nat.reduceLT, Nat.reduceLeDiff, reduceCtorEq, decide_true, decide_false, Int.reduceLE, Int.reduceLT, Int.reduceToNat, Int.reduceAdd, Int.reduceSub, Int.reduceMul, Int.reduceEq, r4, r5, r8, r10, r11, r12, z2]
    refine Ac.cell (u := (x0 + (i : Int), y0 + (j : Int))) hac2 hA.floor hx2.next hlen fun su' D' hac3 hx3 => ?_
    simp only [↓R1, R2, R3, R4, TY, reduceIte, Nat.reduceEqDiff, Nat.reduceAdd, Nat.reduceMul, Nat.reduceLT, Nat.reduceLeDiff, reduceCtorEq, decide_true, decide_false, Int.reduceLE, Int.reduceLT, Int.reduceToNat, Int.reduceAdd, Int.reduceSub, Int.reduceMul, Int.reduceEq, r4, r5, r8, r10, r11, r12, w7]
    refine for_on r12 rfl (by omega) rfl rfl ⟨su', ⟨fun id hid => (hx3.blk id hid).trans (hx2.blk id hid), hx3.next⟩, ?_, r4, r5, r8, rfl, r11, rfl⟩
    rw [List.append_assoc] at hac3
    exact hac3
  · have e : i = nx := by omega
    subst e
    have w8 : IntKind.i64.wrap (y0 + (j : Int) + 1) = y0 + ((j + 1 : Nat) : Int) := by rw [wrapI (by omega)]; omega
    simp only [↓R1, R2, R3, R4, TY, reduceIte, Nat.reduceEqDiff, Nat.reduceAdd, Nat.reduceMul, Nat.reduceLT, Nat.reduceLeDiff, reduceCtorEq, decide_true, decide_false, Int.reduceLE, Int.reduceLT, Int.reduceToNat, Int.reduceAdd, Int.reduceSub, Int.reduceMul, Int.reduceEq, r4, r5, r8, r10, r11, r12, w8]
    exact for_on q11 rfl (by omega) rfl rfl ⟨so', hx2, hac2, r4, r5, r8, r10, rfl⟩

set_option maxHeartbeats 8000000 in
theorem gcheck {v : Value} {l : List Ce} (hs : Sl A 2 v (l.map cC)) (hl : l.length ≤ 400) (hon : ∀ c ∈ l, -64 ≤ c.1 ∧ c.1 < 64 ∧ -64 ≤ c.2 ∧ c.2 < 64) (hp : l.Pairwise clt) :
    Sound Tryz.prog G 10 [v] fl A (.int .i64 0) A := by
  refine Sound.of mixed Tryz.func10 Tryz.ntmps10 Tryz.results10 (by kernel_rfl) rfl (by kernel_rfl) (by simp) fun hA => ?_
  obtain ⟨o, c, rfl⟩ := hs.len
  rw [List.length_map] at hs ⊢
  have hfl : fl ≤ A.next := by have := hA.floor; omega
  have hfl1 : fl ≤ A.next + 1 := by have := hA.floor; omega
  have hfl2 : fl ≤ A.next + 2 := by have := hA.floor; omega
  have hfl3 : fl ≤ A.next + 3 := by have := hA.floor; omega
  have hfl4 : fl ≤ A.next + 4 := by have := hA.floor; omega
  have hfl5 : fl ≤ A.next + 5 := by have := hA.floor; omega
  have hfl6 : fl ≤ A.next + 6 := by have := hA.floor; omega
  have c4 : (((l.length : Nat) : Int) > 400) = False := eq_false (by omega)
  have c4' : ((400 : Int) < ((l.length : Nat) : Int)) = False := c4
  simp only [↓R1, R2, R3, R4, TY, reduceIte, Nat.reduceEqDiff, Nat.reduceAdd, Nat.reduceMul, Nat.reduceLT, Nat.reduceLeDiff, reduceCtorEq, decide_true, decide_false, Int.reduceLE, Int.reduceLT, Int.reduceToNat, Int.reduceAdd, Int.reduceSub, Int.reduceMul, Int.reduceEq, c4, c4']
  refine range_of 10 l.length (fun i τ C => Xt A.next A C ∧ τ 0 = some (.slice o l.length c) ∧ τ 8 = some (.slice o l.length c) ∧ τ 9 = some (.int .i64 (l.length : Nat)) ∧ τ 10 = some (.int .i64 (i : Nat))) ?_ ?_
  · exact ⟨Xt.refl _, rfl, rfl, rfl, rfl⟩
  rintro i τ C hi ⟨hx, q0, q8, q9, q10⟩
  simp only [↓R1, R2, R3, R4, TY, reduceIte, Nat.reduceEqDiff, Nat.reduceAdd, Nat.reduceMul, Nat.reduceLT, Nat.reduceLeDiff, reduceCtorEq, decide_true, decide_false, Int.reduceLE, Int.reduceLT, Int.reduceToNat, Int.reduceAdd, Int.reduceSub, Int.reduceMul, Int.reduceEq, q0, q8, q9, q10]
  refine ⟨fun hlt => ?_, fun hlt => ?_⟩
  rotate_left
  · exact Ended.back hA hx rfl (RB.int _ _)
  have hlt' : i < l.length := by omega
  obtain ⟨a, rfl, -⟩ := hs.at (G := G) (i := i) (by simpa using hlt')
  have hsC := hs.xt hA hx
  have hac : a.block < C.next := Nat.lt_of_lt_of_le (hs.lt hA) hx.next
  have hac1 : a.block < C.next + 1 := Nat.lt_succ_of_lt hac
  have nec : (a.block = C.next) = False := eq_false (by omega)
  have hflC : fl ≤ C.next := Nat.le_trans hA.floor hx.next
  obtain ⟨g0, g1⟩ := cell_get (G := G) hsC hlt'
  obtain ⟨h1, h2, h3, h4⟩ := hon l[i] (List.getElem_mem _)
  have o1 := fun fl A => on_ok (G := G) (fl := fl) (A := A) h1 h2
  have o2 := fun fl A => on_ok (G := G) (fl := fl) (A := A) h3 h4
  have hi63 : i < 9223372036854775807 := by omega
  simp only [↓R1, R2, R3, R4, TY, reduceIte, Nat.reduceEqDiff, Nat.reduceAdd, Nat.reduceMul, Nat.reduceLT, Nat.reduceLeDiff, reduceCtorEq, decide_true, decide_false, Int.reduceLE, Int.reduceLT, Int.reduceToNat, Int.reduceAdd, Int.reduceSub, Int.reduceMul, Int.reduceEq, q0, q8, q9, q10, hlt, g0, g1, hac, hflC, NE]
  refine call_of (o1 _ _) ?_
  simp only [↓R1, R2, R3, R4, TY, reduceIte, Nat.reduceEqDiff, Nat.reduceAdd, Nat.reduceMul, Nat.reduceLT, Nat.reduceLeDiff, reduceCtorEq, decide_true, decide_false, Int.reduceLE, Int.reduceLT, Int.reduceToNat, Int.reduceAdd, Int.reduceSub, Int.reduceMul, Int.reduceEq, q0, q8, q9, q10, hflC, NE]
  refine call_of (o2 _ _) ?_
  have hend : ∀ D, Xt A.next A D → Xt A.next A D := fun _ h => h
  by_cases h0 : i = 0
  · have e0 : (((i : Nat) : Int) > 0) = False := eq_false (by omega)
    have e0' : ((0 : Int) < ((i : Nat) : Int)) = False := e0
    simp only [↓R1, R2, R3, R4, TY, reduceIte, Nat.reduceEqDiff, Nat.reduceAdd, Nat.reduceMul, Nat.reduceLT, Nat.reduceLeDiff, reduceCtorEq, decide_true, decide_false, Int.reduceLE, Int.reduceLT, Int.reduceToNat, Int.reduceAdd, Int.reduceSub, Int.reduceMul, Int.reduceEq, q0, q8, q9, q10, hflC, e0, e0', hi63, NE]
    refine range_on q10 hlt' rfl ⟨?_, q0, q8, q9, rfl⟩
    simp (maxDischargeDepth := 20) only [xt_push, xt_put, hx, hx.next, Nat.le_refl]
  · have e0 : (((i : Nat) : Int) > 0) = True := eq_true (by omega)
    have e0' : ((0 : Int) < ((i : Nat) : Int)) = True := e0
    have w1 : IntKind.i64.wrap (((i : Nat) : Int) - 1) = ((i - 1 : Nat) : Int) := by rw [wrapI (by omega)]; omega
    have hp1 : i - 1 < l.length := by omega
    obtain ⟨p0, p1⟩ := cell_get (G := G) hsC hp1
    have hlt2 : clt l[i - 1] l[i] := List.pairwise_iff_getElem.1 hp (i - 1) i hp1 hlt' (by omega)
    have od := fun fl A => order_lt (G := G) (fl := fl) (A := A) hlt2
    simp only [↓R1, R2, R3, R4, TY, reduceIte, Nat.reduceEqDiff, Nat.reduceAdd, Nat.reduceMul, Nat.reduceLT, Nat.reduceLeDiff, reduceCtorEq, decide_true, decide_false, Int.reduceLE, Int.reduceLT, Int.reduceToNat, Int.reduceAdd, Int.reduceSub, Int.reduceMul, Int.reduceEq, q0, q8, q9, q10, hflC, e0, e0', w1, hp1, p0, p1, hac, hac1, nec, NE]
    refine call_of (od _ _) ?_
    simp only [↓R1, R2, R3, R4, TY, reduceIte, Nat.reduceEqDiff, Nat.reduceAdd, Nat.reduceMul, Nat.reduceLT, Nat.reduceLeDiff, reduceCtorEq, decide_true, decide_false, Int.reduceLE, Int.reduceLT, Int.reduceToNat, Int.reduceAdd, Int.reduceSub, Int.reduceMul, Int.reduceEq, q0, q8, q9, q10, hi63]
    refine range_on q10 hlt' rfl ⟨?_, q0, q8, q9, rfl⟩
    simp (maxDischargeDepth := 20) only [xt_push, xt_put, hx, hx.next, Nat.le_refl]

set_option maxHeartbeats 4000000 in
theorem gindex {v : Value} {l : List Ce} {e : Ce} (hs : Sl A 2 v (l.map cC)) (hl : l.length ≤ 100000) :
    Sound Tryz.prog G 47 [v, .agg #[.int .i64 e.1, .int .i64 e.2]] fl A (.int .i64 (ixC l e)) A := by
  refine Sound.of mixed Tryz.func47 Tryz.ntmps47 Tryz.results47 (by kernel_rfl) rfl (by kernel_rfl) (by simp) fun hA => ?_
  obtain ⟨o, c, rfl⟩ := hs.len
  rw [List.length_map] at hs ⊢
  have hfl : fl ≤ A.next := by have := hA.floor; omega
  have hfl1 : fl ≤ A.next + 1 := by have := hA.floor; omega
  have hfl2 : fl ≤ A.next + 2 := by have := hA.floor; omega
  have hfl3 : fl ≤ A.next + 3 := by have := hA.floor; omega
  have hfl4 : fl ≤ A.next + 4 := by have := hA.floor; omega
  have hfl5 : fl ≤ A.next + 5 := by have := hA.floor; omega
  have hfl6 : fl ≤ A.next + 6 := by have := hA.floor; omega
  simp only [↓R1, R2, R3, R4, TY, reduceIte, Nat.reduceEqDiff, Nat.reduceAdd, Nat.reduceMul, Nat.reduceLT, Nat.reduceLeDiff, reduceCtorEq, decide_true, decide_false, Int.reduceLE, Int.reduceLT, Int.reduceToNat, Int.reduceAdd, Int.reduceSub, Int.reduceMul, Int.reduceEq, hfl, hfl1, hfl2, hfl3, hfl4, hfl5, hfl6, NE, NE9, Nat.add_assoc]
  refine range_of 8 l.length (fun i τ C => C = A.push (.row [.int .i64 e.1, .int .i64 e.2] 0 2) ∧ τ 0 = some (.slice o l.length c) ∧ τ 3 = some (.pointer (some ⟨A.next, 0, some 0⟩)) ∧ τ 7 = some (.int .i64 (l.length : Nat)) ∧ τ 8 = some (.int .i64 (i : Nat)) ∧ ∀ k (hk : k < l.length), k < i → ¬ e = l[k]) ?_ ?_
  · exact ⟨rfl, rfl, rfl, rfl, rfl, fun k _ h => absurd h (by omega)⟩
  rintro i τ C hi ⟨rfl, q0, q3, q7, q8, hno⟩
  simp only [↓R1, R2, R3, R4, TY, reduceIte, Nat.reduceEqDiff, Nat.reduceAdd, Nat.reduceMul, Nat.reduceLT, Nat.reduceLeDiff, reduceCtorEq, decide_true, decide_false, Int.reduceLE, Int.reduceLT, Int.reduceToNat, Int.reduceAdd, Int.reduceSub, Int.reduceMul, Int.reduceEq, q0, q3, q7, q8]
  refine ⟨fun hlt => ?_, fun hlt => ?_⟩
  rotate_left
  · refine Ended.back hA ((Xt.refl A).push _) (congrArg _ ?_) (RB.int _ _)
    rw [ixC_none fun k hk => hno k hk (by omega)]
  have hlt' : i < l.length := by omega
  obtain ⟨a, rfl, -⟩ := hs.at (G := G) (i := i) (by simpa using hlt')
  have hab := hs.lt hA
  obtain ⟨g0, g1⟩ := cell_get (G := G) hs hlt'
  have hi63 : i < 9223372036854775807 := by omega
  have hd : eqD Tryz.prog 20 36 (.agg #[.int .i64 e.1, .int .i64 e.2]) (.agg #[.int .i64 l[i].1, .int .i64 l[i].2]) = some (decide (e = l[i])) := eqD_cell e.1 e.2 l[i].1 l[i].2
  simp only [↓R1, R2, R3, R4, TY, reduceIte, Nat.reduceEqDiff, Nat.reduceAdd, Nat.reduceMul, Nat.reduceLT, Nat.reduceLeDiff, reduceCtorEq, decide_true, decide_false, Int.reduceLE, Int.reduceLT, Int.reduceToNat, Int.reduceAdd, Int.reduceSub, Int.reduceMul, Int.reduceEq, q0, q3, q7, q8, hlt, g0, g1, hab, hd, guard_cell]
  refine ⟨fun hy => ?_, fun hn => ?_⟩
  · refine Ended.back hA ((Xt.refl A).push _) (congrArg _ ?_) (RB.int _ _)
    rw [ixC_found hlt' hy fun k hk => hno k (by omega) hk]
  · simp only [↓R1, R2, R3, R4, TY, reduceIte, Nat.reduceEqDiff, Nat.reduceAdd, Nat.reduceMul, Nat.reduceLT, Nat.reduceLeDiff, reduceCtorEq, decide_true, decide_false, Int.reduceLE, Int.reduceLT, Int.reduceToNat, Int.reduceAdd, Int.reduceSub, Int.reduceMul, Int.reduceEq, q0, q3, q7, q8, hi63]
    refine range_on q8 hlt' rfl ⟨rfl, q0, q3, q7, rfl, fun k hk hki => ?_⟩
    by_cases ek : k = i
    · subst ek; exact hn
    · exact hno k hk (by omega)
theorem gcontains {v : Value} {l : List Ce} {e : Ce} (hs : Sl A 2 v (l.map cC)) (hl : l.length ≤ 100000) :
    Sound Tryz.prog G 16 [v, .agg #[.int .i64 e.1, .int .i64 e.2]] fl A (.bool (decide (e ∈ l))) A := by
  refine Sound.of mixed Tryz.func16 Tryz.ntmps16 Tryz.results16 (by kernel_rfl) rfl (by kernel_rfl) (by simp) fun hA => ?_
  have hsP : ∀ b, Sl (A.push b) 2 v (l.map cC) := fun b => hs.xt hA ((Xt.refl A).push _)
  have ix := fun fl (A : Hp) hs => gindex (G := G) (fl := fl) (A := A) (v := v) (l := l) (e := e) hs hl
  simp only [↓R1, R2, R3, R4, TY, reduceIte, Nat.reduceEqDiff, Nat.reduceAdd, Nat.reduceMul, Nat.reduceLT, Nat.reduceLeDiff, reduceCtorEq, decide_true, decide_false, Int.reduceLE, Int.reduceLT, Int.reduceToNat, Int.reduceAdd, Int.reduceSub, Int.reduceMul, Int.reduceEq]
  refine call_of (ix _ _ (hsP _)) ?_
  simp only [↓R1, R2, R3, R4, TY, reduceIte, Nat.reduceEqDiff, Nat.reduceAdd, Nat.reduceMul, Nat.reduceLT, Nat.reduceLeDiff, reduceCtorEq, decide_true, decide_false, Int.reduceLE, Int.reduceLT, Int.reduceToNat, Int.reduceAdd, Int.reduceSub, Int.reduceMul, Int.reduceEq]
  refine Ended.back hA ((Xt.refl A).push _) (congrArg _ ?_) (RB.bool _)
  by_cases h : e ∈ l
  · rw [decide_eq_true h, decide_eq_true (ixC_nonneg.2 h)]
  · rw [decide_eq_false h, decide_eq_false (fun h' => h (ixC_nonneg.1 h'))]

end
end Go.Proofs.YthclikeipdplpaaGreatDoor.Ab
