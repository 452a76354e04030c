/- Words: Text, and the law of Valid and Text. -/
import Derived.Test.YtjgkodhadgfbmaaDoorDm
namespace Go.Proofs.YtjgkodhadgfbmaaDoor.Ab
open Go.RowKit
set_option linter.unusedVariables false
set_option linter.unusedSimpArgs false
set_option maxRecDepth 100000

def txs (l : List Wx) : List (List UInt8) := l.map Wx.text
def textR (l : List Wx) : List UInt8 × Nat := if l.all valX = true then (if 4096 < (jn (txs l)).length then ([], 2) else (jn (txs l), 0)) else ([], 3)
section
variable {G : Gl} {fl : Nat} {A : Hp}
theorem wx_get {B : Hp} {a : Addr} {n c : Nat} {l : List Wx} (h : Sl B 3 (.slice (some a) n c) (l.map wX)) {i : Nat} (hi : i < l.length) :
    B.get G (aadd a (i * 3)) = some (.int .i64 l[i].kind) ∧ B.get G (aadd a (i * 3 + 1)) = some (.int .i64 l[i].at_) ∧ B.get G (aadd a (i * 3 + 2)) = some (.string (S l[i].text)) := by
  obtain ⟨a', h1, h2⟩ := h.at (G := G) (i := i) (by simpa using hi)
  cases h1
  simp only [List.getElem_map] at h2
  exact ⟨h2 0 _ rfl, h2 1 _ rfl, h2 2 _ rfl⟩
set_option maxHeartbeats 1000000 in
theorem text_ok {v : Value} {l : List Wx} (hs : Sl A 3 v (l.map wX)) (hN : l.length ≤ 1048576) (hm : ∀ w ∈ l, w.text.length ≤ 1048576) : Sound Tryd.prog G 15 [v] fl A
    (.tuple [Value.string (S (textR l).1), .int .i64 (((textR l).2 : Nat) : Int)].toArray) A := by
  refine Sound.of mixed Tryd.func15 Tryd.ntmps15 Tryd.results15 (by kernel_rfl) rfl (by kernel_rfl) (by kernel_rfl) fun hA => ?_
  have fin : ∀ (x : List UInt8) (e : Nat) (B : Hp), Xt A.next A B → textR l = (x, e) → Ended A (.tuple [Value.string (S x), .int .i64 ((e : Nat) : Int)].toArray) B (.tuple [Value.string (S (textR l).1), .int .i64 (((textR l).2 : Nat) : Int)].toArray) A := by
    intro x e B hx h
    rw [h]
    exact Ended.back hA hx rfl (RB.tuple (by simp [RB.string, RB.int]))
  obtain ⟨o, c, rfl⟩ := hs.len
  rw [List.length_map] at hs ⊢
  simp only [↓R1, R2, R3, R4, TY, reduceIte, Nat.reduceEqDiff, Nat.reduceAdd, Nat.reduceMul, Nat.reduceLT, Nat.reduceLeDiff, reduceCtorEq, decide_true, decide_false, Int.reduceLE, Int.reduceLT, Int.reduceToNat, Int.reduceAdd, Int.reduceSub, Int.reduceMul, Int.reduceEq, FE]
  refine range_of 10 l.length (fun j τ B => ∃ sb, Xt A.next A B ∧ Acn B A.next 1 sb ((txs (l.take j)).map sC) ∧ (l.take j).all valX = true ∧ τ 4 = some sb ∧ τ 8 = some (.slice o l.length c) ∧ τ 9 = some (.int .i64 l.length) ∧ τ 10 = some (.int .i64 (j : Nat))) ?_ ?_
  · exact ⟨_, Xt.refl A, Acn.none, rfl, rfl, rfl, rfl, rfl⟩
  rintro j τ B hj ⟨sb, hx, hac, hall, q4, q8, q9, q10⟩
  simp only [↓R1, R2, R3, R4, TY, reduceIte, Nat.reduceEqDiff, Nat.reduceAdd, Nat.reduceMul, Nat.reduceLT, Nat.reduceLeDiff, reduceCtorEq, decide_true, decide_false, Int.reduceLE, Int.reduceLT, Int.reduceToNat, Int.reduceAdd, Int.reduceSub, Int.reduceMul, Int.reduceEq, FE, q4, q8, q9, q10]
  refine ⟨fun hlt => ?_, fun hlt => ?_⟩
  rotate_left
  · have hjl : j = l.length := by omega
    subst hjl
    rw [List.take_length] at hac hall
    refine call_of (join_ok hac.sl (by simp [txs]; omega) (fun x hx => by obtain ⟨w, hw, rfl⟩ := List.mem_map.1 hx; exact hm w hw)) ?_
    simp only [↓R1, R2, R3, R4, TY, reduceIte, Nat.reduceEqDiff, Nat.reduceAdd, Nat.reduceMul, Nat.reduceLT, Nat.reduceLeDiff, reduceCtorEq, decide_true, decide_false, Int.reduceLE, Int.reduceLT, Int.reduceToNat, Int.reduceAdd, Int.reduceSub, Int.reduceMul, Int.reduceEq, FE, S_size, q4, q8, q9, q10]
    refine ⟨fun h => fin [] 2 _ hx (by rw [textR, if_pos hall, if_pos (by omega)]), fun h => fin _ 0 _ hx (by rw [textR, if_pos hall, if_neg (by omega)])⟩
  obtain ⟨a, rfl, -⟩ := hs.at (G := G) (i := j) (by simpa using hlt)
  have hsB := hs.xt hA hx
  have hab : a.block < B.next := Nat.lt_of_lt_of_le (hs.lt hA) hx.next
  have hfl : fl ≤ B.next := Nat.le_trans hA.floor hx.next
  obtain ⟨g0, g1, g2⟩ := wx_get (G := G) hsB hlt
  have hj63 : j < 9223372036854775807 := by omega
  have htl := hm l[j] (List.getElem_mem hlt)
  have hbad : valX l[j] = false → textR l = ([], 3) := fun h => by
    rw [textR, if_neg]
    rw [List.all_eq_true]
    intro hh
    have := hh _ (List.getElem_mem hlt)
    rw [h] at this; cases this
  have key : (l.take (j + 1)).all valX = valX l[j] := by rw [List.take_succ_eq_append_getElem hlt, List.all_append, hall]; simp
  have htk : txs (l.take (j + 1)) = txs (l.take j) ++ [l[j].text] := by rw [List.take_succ_eq_append_getElem hlt, txs, List.map_append]; rfl
  have hvo := fun fl C => valid_ok (G := G) (fl := fl) (A := C) l[j] htl
  simp only [wX] at hvo
  have hz3 : zl [Value.int .i64 0, Value.int .i64 0, Value.string { data := #[] }] 3 = [Value.int .i64 0, Value.int .i64 0, Value.string { data := #[] }] := rfl
  simp only [↓R1, R2, R3, R4, TY, reduceIte, Nat.reduceEqDiff, Nat.reduceAdd, Nat.reduceMul, Nat.reduceLT, Nat.reduceLeDiff, reduceCtorEq, decide_true, decide_false, Int.reduceLE, Int.reduceLT, Int.reduceToNat, Int.reduceAdd, Int.reduceSub, Int.reduceMul, Int.reduceEq, FE, q4, q8, q9, q10, hlt, hab, hfl, g0, g1, g2, hj63, hz3]
  refine call_of (hvo _ _) ?_
  cases hv : valX l[j]
  · simp only [↓R1, R2, R3, R4, TY, reduceIte, Nat.reduceEqDiff, Nat.reduceAdd, Nat.reduceMul, Nat.reduceLT, Nat.reduceLeDiff, reduceCtorEq, decide_true, decide_false, Int.reduceLE, Int.reduceLT, Int.reduceToNat, Int.reduceAdd, Int.reduceSub, Int.reduceMul, Int.reduceEq, FE, q4, q8, q9, q10, hlt, hab, hfl, g0, g1, g2, hj63, hz3]
    refine fin [] 3 _ ?_ (hbad hv)
    simp (maxDischargeDepth := 20) only [xt_push, xt_put, hx, hx.next]
  have hz1 : zl [Value.string { data := #[] }] 1 = [Value.string { data := #[] }] := rfl
  simp only [↓R1, R2, R3, R4, TY, reduceIte, Nat.reduceEqDiff, Nat.reduceAdd, Nat.reduceMul, Nat.reduceLT, Nat.reduceLeDiff, reduceCtorEq, decide_true, decide_false, Int.reduceLE, Int.reduceLT, Int.reduceToNat, Int.reduceAdd, Int.reduceSub, Int.reduceMul, Int.reduceEq, FE, q4, q8, q9, q10, hlt, hab, hfl, g0, g1, g2, hj63, hz3, hz1]
  have hxC : Xt B.next B ((B.push (.row [Value.int .i64 0, .int .i64 0, .string { data := #[] }] 0 3)).put B.next (.row [Value.int .i64 l[j].kind, .int .i64 l[j].at_, .string (S l[j].text)] 0 3)) := by
    simp (maxDischargeDepth := 20) only [xt_push, xt_put, xt_refl, Nat.le_refl]
  have hCn : ((B.push (.row [Value.int .i64 0, .int .i64 0, .string { data := #[] }] 0 3)).put B.next (.row [Value.int .i64 l[j].kind, .int .i64 l[j].at_, .string (S l[j].text)] 0 3)).next = B.next + 1 := rfl
  rw [← hCn]
  generalize (B.push _).put _ _ = C at *
  refine app1 (lo := A.next) (sz := 1) (cl := sC l[j].text) ty41 rfl ty9 rfl (by omega) rfl (hac.xt hxC) hA.floor (by have := hx.next; omega) rfl (by simp [sC]; rfl) (by simp [txs]; omega) (by simp [txs]; omega) ?_
  intro sb' D hac' hxD hnD hfD hidD
  simp only [↓R1, R2, R3, R4, TY, reduceIte, Nat.reduceEqDiff, Nat.reduceAdd, Nat.reduceMul, Nat.reduceLT, Nat.reduceLeDiff, reduceCtorEq, decide_true, decide_false, Int.reduceLE, Int.reduceLT, Int.reduceToNat, Int.reduceAdd, Int.reduceSub, Int.reduceMul, Int.reduceEq, FE, q4, q8, q9, q10, hj63]
  refine range_on q10 hlt rfl ⟨sb', ?_, ?_, by rw [key]; exact hv, rfl, q8, q9, rfl⟩
  · exact ⟨fun id hid => by rw [hxD.blk id hid, hxC.blk id (by have := hx.next; omega)]; exact hx.blk id hid, by have := hx.next; omega⟩
  · rw [htk, List.map_append]; exact hac'
/-- The law of Valid and Text. -/
theorem wordTexts_calls {v : Value} {l : List Wx} (hs : Sl A 3 v (l.map wX)) (hN : l.length ≤ 1048576) (hm : ∀ w ∈ l, w.text.length ≤ 1048576) :
    ∀ (μ : Mu) (w : World) (args' : Array Value), HR G μ fl A w → fl ≤ A.next → VRa μ A [v].toArray args' →
    Calls Tryd.prog 5 args' w fun e w' => ∃ u, e = .returned u ∧ ∃ ν, VR ν A (.bool true) u ∧ HR G ν fl A w' ∧ Trans fl μ A w ν A w' := by
  refine calls_of mixed Tryd.func5 Tryd.ntmps5 Tryd.results5 (by kernel_rfl) rfl (by kernel_rfl) (by kernel_rfl) fun hA => ?_
  have fin : ∀ (b : Bool) (B : Hp), Xt A.next A B → b = true → Ended A (.bool b) B (.bool true) A := fun b B hx hb => Ended.back hA hx (congrArg _ hb) (RB.bool _)
  simp only [↓R1, R2, R3, R4, TY, reduceIte, Nat.reduceEqDiff, Nat.reduceAdd, Nat.reduceMul, Nat.reduceLT, Nat.reduceLeDiff, reduceCtorEq, decide_true, decide_false, Int.reduceLE, Int.reduceLT, Int.reduceToNat, Int.reduceAdd, Int.reduceSub, Int.reduceMul, Int.reduceEq, FE]
  refine call_of (text_ok hs hN hm) ?_
  obtain ⟨o, c, rfl⟩ := hs.len
  rw [List.length_map] at hs ⊢
  simp only [↓R1, R2, R3, R4, TY, reduceIte, Nat.reduceEqDiff, Nat.reduceAdd, Nat.reduceMul, Nat.reduceLT, Nat.reduceLeDiff, reduceCtorEq, decide_true, decide_false, Int.reduceLE, Int.reduceLT, Int.reduceToNat, Int.reduceAdd, Int.reduceSub, Int.reduceMul, Int.reduceEq, FE]
  refine range_of 17 l.length (fun j τ B => Xt A.next A B ∧ τ 3 = some (.string (S (textR l).1)) ∧ τ 4 = some (.int .i64 (((textR l).2 : Nat) : Int)) ∧ τ 5 = some (.string (S (jn (txs (l.take j))))) ∧ τ 6 = some (.int .i64 (if (l.take j).all valX = true then 0 else 3)) ∧
    τ 15 = some (.slice o l.length c) ∧ τ 16 = some (.int .i64 l.length) ∧ τ 17 = some (.int .i64 (j : Nat))) ?_ ?_
  · exact ⟨Xt.refl A, rfl, rfl, rfl, rfl, rfl, rfl, rfl⟩
  rintro j τ B hj ⟨hx, q3, q4, q5, q6, q15, q16, q17⟩
  simp only [↓R1x, R2, R3, R4, TY, reduceIte, Nat.reduceEqDiff, Nat.reduceAdd, Nat.reduceMul, Nat.reduceLT, Nat.reduceLeDiff, reduceCtorEq, decide_true, decide_false, Int.reduceLE, Int.reduceLT, Int.reduceToNat, Int.reduceAdd, Int.reduceSub, Int.reduceMul, Int.reduceEq, FE, q3, q4, q5, q6, q15, q16, q17]
  simp only [k_then]
  simp only [↓R1x, R2, R3, R4, TY, reduceIte, Nat.reduceEqDiff, Nat.reduceAdd, Nat.reduceMul, Nat.reduceLT, Nat.reduceLeDiff, reduceCtorEq, decide_true, decide_false, Int.reduceLE, Int.reduceLT, Int.reduceToNat, Int.reduceAdd, Int.reduceSub, Int.reduceMul, Int.reduceEq, FE, q3, q4, q5, q6, q15, q16, q17]
  refine ⟨fun hlt => ?_, fun hlt => ?_⟩
  rotate_left
  · have hjl : j = l.length := by omega
    subst hjl
    rw [List.take_length] at q5 q6
    by_cases hall : l.all valX = true
    · rw [if_pos hall] at q6
      by_cases h4 : 4096 < (jn (txs l)).length
      · have e : textR l = ([], 2) := by rw [textR, if_pos hall, if_pos h4]
        rw [e] at q3 q4
        have h4' : (4096 < ((jn (txs l)).length : Int)) = True := eq_true (by omega)
        simp only [↓R1, R2, R3, R4, TY, reduceIte, Nat.reduceEqDiff, Nat.reduceAdd, Nat.reduceMul, Nat.reduceLT, Nat.reduceLeDiff, reduceCtorEq, decide_true, decide_false, Int.reduceLE, Int.reduceLT, Int.reduceToNat, Int.reduceAdd, Int.reduceSub, Int.reduceMul, Int.reduceEq, FE, S_size, q3, q4, q5, q6, h4']
        refine call_of (worded_ok) ?_
        simp only [↓R1, R2, R3, R4, TY, reduceIte, Nat.reduceEqDiff, Nat.reduceAdd, Nat.reduceMul, Nat.reduceLT, Nat.reduceLeDiff, reduceCtorEq, decide_true, decide_false, Int.reduceLE, Int.reduceLT, Int.reduceToNat, Int.reduceAdd, Int.reduceSub, Int.reduceMul, Int.reduceEq, FE, S_size, q3, q4, q5, q6, h4']
        exact fin _ _ hx rfl
      · have e : textR l = (jn (txs l), 0) := by rw [textR, if_pos hall, if_neg h4]
        rw [e] at q3 q4
        have h4' : (4096 < ((jn (txs l)).length : Int)) = False := eq_false (by omega)
        simp only [↓R1, R2, R3, R4, TY, reduceIte, Nat.reduceEqDiff, Nat.reduceAdd, Nat.reduceMul, Nat.reduceLT, Nat.reduceLeDiff, reduceCtorEq, decide_true, decide_false, Int.reduceLE, Int.reduceLT, Int.reduceToNat, Int.reduceAdd, Int.reduceSub, Int.reduceMul, Int.reduceEq, FE, S_size, q3, q4, q5, q6, h4']
        refine call_of (worded_ok) ?_
        simp only [↓R1, R2, R3, R4, TY, reduceIte, Nat.reduceEqDiff, Nat.reduceAdd, Nat.reduceMul, Nat.reduceLT, Nat.reduceLeDiff, reduceCtorEq, decide_true, decide_false, Int.reduceLE, Int.reduceLT, Int.reduceToNat, Int.reduceAdd, Int.reduceSub, Int.reduceMul, Int.reduceEq, FE, S_size, q3, q4, q5, q6, h4']
        exact fin _ _ hx rfl
    · rw [if_neg hall] at q6
      have e : textR l = ([], 3) := by rw [textR, if_neg hall]
      rw [e] at q3 q4
      simp only [↓R1, R2, R3, R4, TY, reduceIte, Nat.reduceEqDiff, Nat.reduceAdd, Nat.reduceMul, Nat.reduceLT, Nat.reduceLeDiff, reduceCtorEq, decide_true, decide_false, Int.reduceLE, Int.reduceLT, Int.reduceToNat, Int.reduceAdd, Int.reduceSub, Int.reduceMul, Int.reduceEq, FE, S_size, q3, q4, q5, q6]
      refine call_of (worded_ok) ?_
      simp only [↓R1, R2, R3, R4, TY, reduceIte, Nat.reduceEqDiff, Nat.reduceAdd, Nat.reduceMul, Nat.reduceLT, Nat.reduceLeDiff, reduceCtorEq, decide_true, decide_false, Int.reduceLE, Int.reduceLT, Int.reduceToNat, Int.reduceAdd, Int.reduceSub, Int.reduceMul, Int.reduceEq, FE, S_size, q3, q4, q5, q6]
      exact fin _ _ hx rfl
  obtain ⟨a, rfl, -⟩ := hs.at (G := G) (i := j) (by simpa using hlt)
  have hsB := hs.xt hA hx
  have hab : a.block < B.next := Nat.lt_of_lt_of_le (hs.lt hA) hx.next
  have hfl : fl ≤ B.next := Nat.le_trans hA.floor hx.next
  obtain ⟨g0, g1, g2⟩ := wx_get (G := G) hsB hlt
  have hj63 : j < 9223372036854775807 := by omega
  have htl := hm l[j] (List.getElem_mem hlt)
  have key : (l.take (j + 1)).all valX = ((l.take j).all valX && valX l[j]) := by rw [List.take_succ_eq_append_getElem hlt, List.all_append]; simp
  have htk : txs (l.take (j + 1)) = txs (l.take j) ++ [l[j].text] := by rw [List.take_succ_eq_append_getElem hlt, txs, List.map_append]; rfl
  have hvo := fun fl C => valid_ok (G := G) (fl := fl) (A := C) l[j] htl
  have hvw := fun fl C => wordValidX_ok (G := G) (fl := fl) (A := C) l[j] htl
  simp only [wX] at hvo hvw
  have hz3 : zl [Value.int .i64 0, Value.int .i64 0, Value.string { data := #[] }] 3 = [Value.int .i64 0, Value.int .i64 0, Value.string { data := #[] }] := rfl
  have hjl := jn_len (xs := txs (l.take j)) (m := 1048576) fun x hx => by
    obtain ⟨w, hw, rfl⟩ := List.mem_map.1 hx
    exact hm w (List.mem_of_mem_take hw)
  have hl0 : (txs (l.take j)).length = j := by simp [txs]; omega
  rw [hl0] at hjl
  have hjl2 : j * (1048576 + 1) ≤ 1048576 * (1048576 + 1) := Nat.mul_le_mul_right _ (by omega)
  have hsn := jn_snoc (txs (l.take j)) l[j].text
  rw [← htk] at hsn
  have z1 : (jn (txs (l.take j))).length + 1 ≤ 9223372036854775807 := by omega
  have z2 : (jn (txs (l.take j))).length + 1 + l[j].text.length ≤ 9223372036854775807 := by omega
  have z3 : (jn (txs (l.take j))).length + l[j].text.length ≤ 9223372036854775807 := by omega
  have hj0 : (0 < j) = (j ≠ 0) := propext (by omega)
  have key2 : ∀ x : Int, (if (l.take (j + 1)).all valX = true then (0 : Int) else 3) = x ↔ ((if ((l.take j).all valX && valX l[j]) = true then (0 : Int) else 3) = x) := fun x => by rw [key]
  have hx1 : ∀ r r', Xt A.next A ((B.push r).put B.next r') := fun r r' => by simp (maxDischargeDepth := 20) only [xt_push, xt_put, hx, hx.next]
  cases hv : valX l[j] <;> cases hall : (l.take j).all valX <;> rw [hall] at q6 <;> rw [hv, hall] at key <;> simp only [Bool.false_eq_true, if_false, if_true] at q6 <;> simp only [Bool.false_and, Bool.true_and, Bool.and_false, Bool.and_true] at key
  all_goals
    simp only [↓R1, R2, R3, R4, TY, reduceIte, Nat.reduceEqDiff, Nat.reduceAdd, Nat.reduceMul, Nat.reduceLT, Nat.reduceLeDiff, reduceCtorEq, decide_true, decide_false, Int.reduceLE, Int.reduceLT, Int.reduceToNat, Int.reduceAdd, Int.reduceSub, Int.reduceMul, Int.reduceEq, FE, S_size, S_append, List.length_append, List.length_cons, List.length_nil, Nat.zero_add, q3, q4, q5, q6, q15, q16, q17, hlt, hab, hfl, g0, g1, g2, hj63, hz3, hv, z1, z2, z3, hj0, beq_self_eq_true, Bool.not_true]
    refine call_of (hvw _ _) ?_
    simp only [↓R1, R2, R3, R4, TY, reduceIte, Nat.reduceEqDiff, Nat.reduceAdd, Nat.reduceMul, Nat.reduceLT, Nat.reduceLeDiff, reduceCtorEq, decide_true, decide_false, Int.reduceLE, Int.reduceLT, Int.reduceToNat, Int.reduceAdd, Int.reduceSub, Int.reduceMul, Int.reduceEq, FE, S_size, S_append, List.length_append, List.length_cons, List.length_nil, Nat.zero_add, q3, q4, q5, q6, q15, q16, q17, hlt, hab, hfl, g0, g1, g2, hj63, hz3, hv, z1, z2, z3, hj0, beq_self_eq_true, Bool.not_true]
    refine call_of (hvo _ _) ?_
    simp only [↓R1, R2, R3, R4, TY, reduceIte, Nat.reduceEqDiff, Nat.reduceAdd, Nat.reduceMul, Nat.reduceLT, Nat.reduceLeDiff, reduceCtorEq, decide_true, decide_false, Int.reduceLE, Int.reduceLT, Int.reduceToNat, Int.reduceAdd, Int.reduceSub, Int.reduceMul, Int.reduceEq, FE, S_size, S_append, List.length_append, List.length_cons, List.length_nil, Nat.zero_add, q3, q4, q5, q6, q15, q16, q17, hlt, hab, hfl, g0, g1, g2, hj63, hz3, hv, z1, z2, z3, hj0, beq_self_eq_true, Bool.not_true]
    refine ⟨fun h0 => ?_, fun h0 => ?_⟩
    · have hne : txs (l.take j) ≠ [] := by intro e; rw [e] at hl0; simp at hl0; omega
      rw [if_neg hne] at hsn
      refine range_on q17 hlt rfl ⟨hx1 _ _, q3, q4, ?_, ?_, q15, q16, rfl⟩
      · rw [hsn]; rfl
      · rw [key]; first | exact q6 | rfl
    · have hj0' : j = 0 := by omega
      have he : txs (l.take j) = [] := by rw [hj0']; rfl
      rw [if_pos he] at hsn
      have e0 : jn (txs (l.take j)) = [] := by rw [he]; rfl
      refine range_on q17 hlt rfl ⟨hx1 _ _, q3, q4, ?_, ?_, q15, q16, rfl⟩
      · show some (Value.string (S (jn (txs (l.take j)) ++ l[j].text))) = _
        rw [hsn, e0]; rfl
      · rw [key]; first | exact q6 | rfl
end
end Go.Proofs.YtjgkodhadgfbmaaDoor.Ab
