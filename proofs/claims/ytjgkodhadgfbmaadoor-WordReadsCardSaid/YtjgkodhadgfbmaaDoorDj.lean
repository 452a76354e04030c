/- Words: the reference's reading, walked. -/
import Derived.Test.YtjgkodhadgfbmaaDoorDi
namespace Go.Proofs.YtjgkodhadgfbmaaDoor.Ab
open Go.RowKit
set_option linter.unusedVariables false
set_option linter.unusedSimpArgs false
set_option maxRecDepth 100000

/-- What comes of the rest at a place, behind the end nothing. -/
def woT (l : List UInt8) (i : Nat) (c : Bool) (t : List UInt8) : List Wd × Nat := if i ≤ l.length then wo (l.drop i) i c t else ([], 0)
/-- What is begun at a place. -/
def stT (l : List UInt8) (i : Nat) : List Wd × Nat := if h : i < l.length then startR l[i] (wo (l.drop (i + 1)) (i + 1) false [l[i]]) (wo (l.drop (i + 1)) (i + 1) true []) (wo (l.drop (i + 1)) (i + 1) false []) else ([], 0)
def moT (l : List UInt8) (i : Nat) (t : List UInt8) : Bool := if h : i < l.length then moreB t l[i] (l.drop (i + 1)) else false
def kT (l : List UInt8) (i : Nat) : Nat := if h : i < l.length then clsB l[i] else 98
theorem woT_com {l : List UInt8} {i : Nat} (hi : i ≤ l.length) : woT l i true [] = if h : i < l.length then woT l (i + 1) (decide (l[i] ≠ 10)) [] else ([], 0) := by
  unfold woT
  rw [if_pos hi]
  split
  · rename_i h
    rw [if_pos (by omega), List.drop_eq_getElem_cons h, wo]
  · rename_i h
    rw [List.drop_of_length_le (by omega), wo, if_pos (.inl rfl)]
theorem woT_emp {l : List UInt8} {i : Nat} (hi : i ≤ l.length) : woT l i false [] = stT l i := by
  unfold woT stT
  rw [if_pos hi]
  split
  · rename_i h
    rw [List.drop_eq_getElem_cons h, wo_start]
  · rename_i h
    rw [List.drop_of_length_le (by omega), wo, if_pos (.inr rfl)]
theorem woT_more {l t : List UInt8} {i : Nat} (ht : t ≠ []) (h : i < l.length) (hm : moT l i t = true) : woT l i false t = woT l (i + 1) false (t ++ [l[i]]) := by
  rw [moT, dif_pos h] at hm
  unfold woT
  rw [if_pos (by omega), if_pos (by omega), List.drop_eq_getElem_cons h, wo_more ht hm]
theorem woT_flush {l t : List UInt8} {i : Nat} (ht : t ≠ []) (hi : i ≤ l.length) (hm : moT l i t = false) : woT l i false t = flushR t i (stT l i) := by
  rw [← woT_emp hi]
  unfold woT
  rw [if_pos hi, wo_flush ht]
  · rw [if_pos hi]
  · intro b r e
    have h : i < l.length := by
      rcases Nat.lt_or_ge i l.length with h | h
      · exact h
      · rw [List.drop_of_length_le h] at e; cases e
    rw [List.drop_eq_getElem_cons h] at e
    cases e
    rwa [moT, dif_pos h] at hm
def m1T (l : List UInt8) (i : Nat) (t : List UInt8) : Bool := decide ((clsB (hd0 t) = 110 ∧ kT l i = 110) ∨ (clsB (hd0 t) = 100 ∧ kT l i = 100))
def m2T (l : List UInt8) (i : Nat) (t : List UInt8) : Bool := decide (clsB (hd0 t) = 100 ∧ kT l i = 47 ∧ 47 ∉ t ∧ ∃ h : i + 1 < l.length, clsB l[i + 1] = 100)
theorem moT_eq (l : List UInt8) (i : Nat) (t : List UInt8) : moT l i t = (m1T l i t || m2T l i t) := by
  unfold moT m1T m2T kT
  by_cases h : i < l.length
  · rw [dif_pos h, dif_pos h]
    have hh : headDig (l.drop (i + 1)) = true ↔ ∃ h : i + 1 < l.length, clsB l[i + 1] = 100 := by
      by_cases h2 : i + 1 < l.length
      · rw [List.drop_eq_getElem_cons h2]
        simp only [headDig, cls_dig]
        exact ⟨fun e => ⟨h2, e⟩, fun ⟨_, e⟩ => e⟩
      · rw [List.drop_of_length_le (by omega)]
        simp only [headDig]
        exact ⟨fun e => (by cases e), fun ⟨h3, _⟩ => absurd h3 h2⟩
    rw [Bool.eq_iff_iff]
    simp only [moreB, Bool.or_eq_true, Bool.and_eq_true, decide_eq_true_iff, cls_let, cls_dig, cls_47, Bool.not_eq_true', decide_eq_false_iff_not]
    rw [hh]
    simp only [cls_dig]
    constructor
    · rintro (⟨a, b⟩ | ⟨a, b | ⟨⟨b, c⟩, d⟩⟩)
      · exact .inl (.inl ⟨a, b⟩)
      · exact .inl (.inr ⟨a, b⟩)
      · exact .inr ⟨a, b, c, d⟩
    · rintro ((⟨a, b⟩ | ⟨a, b⟩) | ⟨a, b, c, d⟩)
      · exact .inl ⟨a, b⟩
      · exact .inr ⟨a, .inl b⟩
      · exact .inr ⟨a, .inr ⟨⟨b, c⟩, d⟩⟩
  · rw [dif_neg h, dif_neg h]
    simp
theorem mf_nil {P : Program} {kt : TypeId} {k : Value} {i : Nat} : mfind P kt k [] i = some none := (rfl)
theorem mf_u {a b : Int} {v : Value} {s i : Nat} {es : List (Value × Value × Nat)} : mfind Tryd.prog 5 (.int .u8 a) ((.int .u8 b, v, s) :: es) i = if a = b then some (some (i, v)) else mfind Tryd.prog 5 (.int .u8 a) es (i + 1) := by
  have he : eqD Tryd.prog 20 5 (.int .u8 a) (.int .u8 b) = some (decide (a = b)) := eqD_int Tryd.underlying5 a b
  rw [mfind, he, Option.bind_some]
  by_cases h : a = b
  · rw [if_pos h, if_pos (by simp [h])]
  · rw [if_neg h, if_neg (by simp [h])]
section
variable {G : Gl} {fl : Nat} {A : Hp}
set_option maxHeartbeats 4000000 in
theorem wordsOf_ok (l : List UInt8) : Sound Tryd.prog G 13 [.string (S l)] fl A
    (.tuple [nlV A ((readR l).1.map wC), .int .i64 (((readR l).2 : Nat) : Int)].toArray) (nlH A 3 ((readR l).1.map wC)) := by
  refine Sound.of mixed Tryd.func13 Tryd.ntmps13 Tryd.results13 (by kernel_rfl) rfl (by kernel_rfl) (by kernel_rfl) fun hA => ?_
  have bad : ∀ (e : Nat) (B : Hp), Xt A.next A B → readR l = ([], e) → Ended A (.tuple [Value.slice none 0 0, .int .i64 ((e : Nat) : Int)].toArray) B (.tuple [nlV A ((readR l).1.map wC), .int .i64 (((readR l).2 : Nat) : Int)].toArray) (nlH A 3 ((readR l).1.map wC)) := by
    intro e B hx h
    rw [h]
    exact Ended.acnT (us := [.int .i64 ((e : Nat) : Int)]) hA hx Acn.none (wc_rb []) (fun w hw => by simp at hw; subst hw; exact RB.int _ _)
  simp only [↓R1, R2, R3, R4, TY, reduceIte, Nat.reduceEqDiff, Nat.reduceAdd, Nat.reduceMul, Nat.reduceLT, Nat.reduceLeDiff, reduceCtorEq, decide_true, decide_false, Int.reduceLE, Int.reduceLT, Int.reduceToNat, Int.reduceAdd, Int.reduceSub, Int.reduceMul, Int.reduceEq, FE, S_size]
  refine ⟨fun h => bad 2 _ (Xt.refl _) (by rw [readR, if_pos (by omega)]), fun h => ?_⟩
  have hl4 : l.length ≤ 4096 := by omega
  refine loop_of (fun τ B => ∃ (i : Nat) (c : Bool) (t : List UInt8) (ws : List Wd) (sb : Value), Xt A.next A B ∧ Acn B A.next 3 sb (ws.map wC) ∧ i ≤ l.length + 1 ∧ (c = true → t = []) ∧ ws.length + t.length ≤ i ∧ readR l = joinR ws (woT l i c t) ∧
    τ 0 = some (.string (S l)) ∧ τ 4 = some sb ∧ τ 5 = some (.string (S t)) ∧ τ 6 = some (.bool c) ∧ τ 7 = some (.int .i64 (i : Nat))) (mS 7 (l.length + 1)) ?_ ?_
  · refine ⟨0, false, [], [], _, Xt.refl A, Acn.none, Nat.zero_le _, fun _ => rfl, Nat.le_refl _, ?_, rfl, rfl, rfl, rfl, rfl⟩
    rw [woT, if_pos (Nat.zero_le _), List.drop_zero, wo_read hl4, readR, if_neg (by omega), joinR_nil]
  rintro τ B ⟨i, c, t, ws, sb, hx, hac, hi, hct, hwt, hr, q0, q4, q5, q6, q7⟩
  have hfl : fl ≤ B.next := Nat.le_trans hA.floor hx.next
  simp only [↓R1x, R2, R3, R4, TY, reduceIte, Nat.reduceEqDiff, Nat.reduceAdd, Nat.reduceMul, Nat.reduceLT, Nat.reduceLeDiff, reduceCtorEq, decide_true, decide_false, Int.reduceLE, Int.reduceLT, Int.reduceToNat, Int.reduceAdd, Int.reduceSub, Int.reduceMul, Int.reduceEq, FE, S_size, q0, q4, q5, q6, q7]
  simp only [k_then]
  simp only [↓R1x, R2, R3, R4, TY, reduceIte, Nat.reduceEqDiff, Nat.reduceAdd, Nat.reduceMul, Nat.reduceLT, Nat.reduceLeDiff, reduceCtorEq, decide_true, decide_false, Int.reduceLE, Int.reduceLT, Int.reduceToNat, Int.reduceAdd, Int.reduceSub, Int.reduceMul, Int.reduceEq, FE, S_size, q0, q4, q5, q6, q7]
  refine ⟨fun hle => ?_, fun hle => ?_⟩
  rotate_left
  · have e : readR l = (ws, 0) := by rw [hr, woT, if_neg (by omega)]; simp [joinR]
    simp only [↓R1, R2, R3, R4, TY, reduceIte, Nat.reduceEqDiff, Nat.reduceAdd, Nat.reduceMul, Nat.reduceLT, Nat.reduceLeDiff, reduceCtorEq, decide_true, decide_false, Int.reduceLE, Int.reduceLT, Int.reduceToNat, Int.reduceAdd, Int.reduceSub, Int.reduceMul, Int.reduceEq, FE, S_size, q0, q4, q5, q6, q7]
    rw [e]
    exact Ended.acnT (us := [.int .i64 0]) hA hx hac (wc_rb _) (fun w hw => by simp at hw; subst hw; exact RB.int _ _)
  simp only [k_then]
  simp only [↓R1x, R2, R3, R4, TY, reduceIte, Nat.reduceEqDiff, Nat.reduceAdd, Nat.reduceMul, Nat.reduceLT, Nat.reduceLeDiff, reduceCtorEq, decide_true, decide_false, Int.reduceLE, Int.reduceLT, Int.reduceToNat, Int.reduceAdd, Int.reduceSub, Int.reduceMul, Int.reduceEq, FE, S_size, q0, q4, q5, q6, q7]
  simp only [k_then]
  simp only [↓R1x, R2, R3, R4, TY, reduceIte, Nat.reduceEqDiff, Nat.reduceAdd, Nat.reduceMul, Nat.reduceLT, Nat.reduceLeDiff, reduceCtorEq, decide_true, decide_false, Int.reduceLE, Int.reduceLT, Int.reduceToNat, Int.reduceAdd, Int.reduceSub, Int.reduceMul, Int.reduceEq, FE, S_size, q0, q4, q5, q6, q7]
  have hi' : i ≤ l.length := by omega
  have hi63 : i < 9223372036854775807 := by omega
  apply merge (fun τ C => C = B ∧ τ 0 = some (.string (S l)) ∧ τ 4 = some sb ∧ τ 5 = some (.string (S t)) ∧ τ 6 = some (.bool c) ∧ τ 7 = some (.int .i64 (i : Nat)) ∧ τ 8 = some (.int .u8 ((kT l i : Nat) : Int)))
  · intro tail
    simp only [k_then]
    simp only [↓R1x, R2, R3, R4, TY, reduceIte, Nat.reduceEqDiff, Nat.reduceAdd, Nat.reduceMul, Nat.reduceLT, Nat.reduceLeDiff, reduceCtorEq, decide_true, decide_false, Int.reduceLE, Int.reduceLT, Int.reduceToNat, Int.reduceAdd, Int.reduceSub, Int.reduceMul, Int.reduceEq, FE, S_size, q0, q4, q5, q6, q7]
    refine ⟨fun hlt => ?_, fun hlt => ?_⟩
    · have hb : byteAt (S l) (i : Int) = ((l[i].toNat : Nat) : Int) := S_at hlt
      simp only [↓R1x, R2, R3, R4, TY, reduceIte, Nat.reduceEqDiff, Nat.reduceAdd, Nat.reduceMul, Nat.reduceLT, Nat.reduceLeDiff, reduceCtorEq, decide_true, decide_false, Int.reduceLE, Int.reduceLT, Int.reduceToNat, Int.reduceAdd, Int.reduceSub, Int.reduceMul, Int.reduceEq, FE, S_size, q0, q4, q5, q6, q7, hlt, hb]
      refine call_of (class_ok _) ?_
      simp only [↓R1x, R2, R3, R4, TY, reduceIte, Nat.reduceEqDiff, Nat.reduceAdd, Nat.reduceMul, Nat.reduceLT, Nat.reduceLeDiff, reduceCtorEq, decide_true, decide_false, Int.reduceLE, Int.reduceLT, Int.reduceToNat, Int.reduceAdd, Int.reduceSub, Int.reduceMul, Int.reduceEq, FE, S_size, q0, q4, q5, q6, q7, hlt, hb]
      exact tail _ _ ⟨rfl, q0, q4, q5, q6, q7, by rw [kT, dif_pos hlt]; rfl⟩
    · exact tail _ _ ⟨rfl, q0, q4, q5, q6, q7, by rw [kT, dif_neg hlt]; rfl⟩
  have k7 := q7
  clear q0 q4 q5 q6 q7
  rintro σ C ⟨rfl, q0, q4, q5, q6, q7, q8⟩
  cases c with
  | true =>
    obtain rfl := hct rfl
    have w1 : IntKind.i64.wrap ((i : Int) + 1) = ((i + 1 : Nat) : Int) := by rw [wrapI (by omega)]; omega
    rw [woT_com hi'] at hr
    simp only [↓R1, R2, R3, R4, TY, reduceIte, Nat.reduceEqDiff, Nat.reduceAdd, Nat.reduceMul, Nat.reduceLT, Nat.reduceLeDiff, reduceCtorEq, decide_true, decide_false, Int.reduceLE, Int.reduceLT, Int.reduceToNat, Int.reduceAdd, Int.reduceSub, Int.reduceMul, Int.reduceEq, FE, S_size, q0, q4, q5, q6, q7, q8, w1]
    refine ⟨fun hlt => ?_, fun hlt => ?_⟩
    · have hb : byteAt (S l) (i : Int) = ((l[i].toNat : Nat) : Int) := S_at hlt
      simp only [↓R1, R2, R3, R4, TY, reduceIte, Nat.reduceEqDiff, Nat.reduceAdd, Nat.reduceMul, Nat.reduceLT, Nat.reduceLeDiff, reduceCtorEq, decide_true, decide_false, Int.reduceLE, Int.reduceLT, Int.reduceToNat, Int.reduceAdd, Int.reduceSub, Int.reduceMul, Int.reduceEq, FE, S_size, q0, q4, q5, q6, q7, q8, hlt, hb, w1]
      rw [dif_pos hlt] at hr
      refine loop_on ⟨i + 1, decide (l[i] ≠ 10), [], ws, sb, hx, hac, by omega, fun _ => rfl, by simp at hwt ⊢; omega, hr, q0, q4, q5, ?_, rfl⟩ (mS_lt (i := i + 1) rfl k7 (by omega))
      show some (Value.bool (!decide (((l[i].toNat : Nat) : Int) = 10))) = _
      have : (((l[i].toNat : Nat) : Int) = 10) ↔ l[i] = 10 := by rw [← u10]; omega
      simp [this]
    · rw [dif_neg hlt] at hr
      refine loop_on ⟨i + 1, false, [], ws, sb, hx, hac, by omega, fun _ => rfl, by simp at hwt ⊢; omega, ?_, q0, q4, q5, rfl, rfl⟩ (mS_lt (i := i + 1) rfl k7 (by omega))
      rw [hr, woT, if_neg (by omega)]
  | false =>
  have w1 : IntKind.i64.wrap ((i : Int) + 1) = ((i + 1 : Nat) : Int) := by rw [wrapI (by omega)]; omega
  simp only [↓R1x, R2, R3, R4, TY, reduceIte, Nat.reduceEqDiff, Nat.reduceAdd, Nat.reduceMul, Nat.reduceLT, Nat.reduceLeDiff, reduceCtorEq, decide_true, decide_false, Int.reduceLE, Int.reduceLT, Int.reduceToNat, Int.reduceAdd, Int.reduceSub, Int.reduceMul, Int.reduceEq, FE, S_size, q0, q4, q5, q6, q7, q8]
  simp only [k_then]
  simp only [↓R1x, R2, R3, R4, TY, reduceIte, Nat.reduceEqDiff, Nat.reduceAdd, Nat.reduceMul, Nat.reduceLT, Nat.reduceLeDiff, reduceCtorEq, decide_true, decide_false, Int.reduceLE, Int.reduceLT, Int.reduceToNat, Int.reduceAdd, Int.reduceSub, Int.reduceMul, Int.reduceEq, FE, S_size, q0, q4, q5, q6, q7, q8]
  simp only [k_then]
  simp only [↓R1x, R2, R3, R4, TY, reduceIte, Nat.reduceEqDiff, Nat.reduceAdd, Nat.reduceMul, Nat.reduceLT, Nat.reduceLeDiff, reduceCtorEq, decide_true, decide_false, Int.reduceLE, Int.reduceLT, Int.reduceToNat, Int.reduceAdd, Int.reduceSub, Int.reduceMul, Int.reduceEq, FE, S_size, q0, q4, q5, q6, q7, q8]
  apply merge (fun τ C => ∃ (ws' : List Wd) (sb' : Value), Xt A.next A C ∧ Acn C A.next 3 sb' (ws'.map wC) ∧ ws'.length ≤ i ∧ readR l = joinR ws' (stT l i) ∧
    τ 0 = some (.string (S l)) ∧ τ 4 = some sb' ∧ τ 5 = some (.string (S [])) ∧ τ 6 = some (.bool false) ∧ τ 7 = some (.int .i64 (i : Nat)) ∧ τ 8 = some (.int .u8 ((kT l i : Nat) : Int)))
  · intro tail
    by_cases ht : t = []
    · have e1 : (S t = S []) = True := eq_true (by rw [ht])
      have hr2 : readR l = joinR ws (stT l i) := by rw [hr, ht, woT_emp hi']
      simp only [k_then]
      simp only [↓R1x, R2, R3, R4, TY, reduceIte, Nat.reduceEqDiff, Nat.reduceAdd, Nat.reduceMul, Nat.reduceLT, Nat.reduceLeDiff, reduceCtorEq, decide_true, decide_false, Int.reduceLE, Int.reduceLT, Int.reduceToNat, Int.reduceAdd, Int.reduceSub, Int.reduceMul, Int.reduceEq, FE, S_size, q0, q4, q5, q6, q7, q8, e1]
      exact tail _ _ ⟨ws, sb, hx, hac, by omega, hr2, q0, q4, by rw [← ht]; exact q5, q6, q7, q8⟩
    have e1 : (S t = S []) = False := eq_false (by rw [S_inj]; exact ht)
    have hb0 : byteAt (S t) 0 = (((hd0 t).toNat : Nat) : Int) := by
      cases t with
      | nil => exact absurd rfl ht
      | cons x t => rfl
    have hl0 : 0 < t.length := List.length_pos_iff.2 ht
    have hl1 : (0 : Int) < ((t.length : Nat) : Int) := by omega
    simp only [k_then]
    simp only [↓R1x, R2, R3, R4, TY, reduceIte, Nat.reduceEqDiff, Nat.reduceAdd, Nat.reduceMul, Nat.reduceLT, Nat.reduceLeDiff, reduceCtorEq, decide_true, decide_false, Int.reduceLE, Int.reduceLT, Int.reduceToNat, Int.reduceAdd, Int.reduceSub, Int.reduceMul, Int.reduceEq, FE, S_size, q0, q4, q5, q6, q7, q8, e1, hb0, hl0, hl1]
    refine call_of (class_ok _) ?_
    simp only [↓R1x, R2, R3, R4, TY, reduceIte, Nat.reduceEqDiff, Nat.reduceAdd, Nat.reduceMul, Nat.reduceLT, Nat.reduceLeDiff, reduceCtorEq, decide_true, decide_false, Int.reduceLE, Int.reduceLT, Int.reduceToNat, Int.reduceAdd, Int.reduceSub, Int.reduceMul, Int.reduceEq, FE, S_size, q0, q4, q5, q6, q7, q8, e1]
    apply merge (fun τ D => D = C ∧ τ 0 = some (.string (S l)) ∧ τ 4 = some sb ∧ τ 5 = some (.string (S t)) ∧ τ 6 = some (.bool false) ∧ τ 7 = some (.int .i64 (i : Nat)) ∧ τ 8 = some (.int .u8 ((kT l i : Nat) : Int)) ∧ τ 9 = some (.int .u8 ((clsB (hd0 t) : Nat) : Int)) ∧ τ 10 = some (.bool (moT l i t)))
    · intro tail2
      apply merge (fun τ D => D = C ∧ τ 0 = some (.string (S l)) ∧ τ 4 = some sb ∧ τ 5 = some (.string (S t)) ∧ τ 6 = some (.bool false) ∧ τ 7 = some (.int .i64 (i : Nat)) ∧ τ 8 = some (.int .u8 ((kT l i : Nat) : Int)) ∧ τ 9 = some (.int .u8 ((clsB (hd0 t) : Nat) : Int)) ∧ τ 10 = some (.bool (m1T l i t)))
      · intro tail3
        simp only [k_then]
        simp only [↓R1x, R2, R3, R4, TY, reduceIte, Nat.reduceEqDiff, Nat.reduceAdd, Nat.reduceMul, Nat.reduceLT, Nat.reduceLeDiff, reduceCtorEq, decide_true, decide_false, Int.reduceLE, Int.reduceLT, Int.reduceToNat, Int.reduceAdd, Int.reduceSub, Int.reduceMul, Int.reduceEq, FE, S_size, q0, q4, q5, q6, q7, q8]
        repeat' with_reducible refine And.intro (fun _ => ?_) (fun _ => ?_)
        all_goals
          refine tail3 _ _ ⟨rfl, q0, q4, q5, q6, q7, q8, rfl, congrArg some (congrArg Value.bool ?_)⟩
          unfold m1T
          first
            | (rw [eq_comm, decide_eq_true_iff]; omega)
            | (rw [eq_comm, decide_eq_false_iff_not]; omega)
            | (rw [decide_eq_decide]; omega)
      rintro ρ D ⟨rfl, q0, q4, q5, q6, q7, q8, q9, q10⟩
      have e10 : ∀ n : Nat, ((n : Int) = 100) = (n = 100) := fun n => propext (by omega)
      have e47 : ∀ n : Nat, ((n : Int) = 47) = (n = 47) := fun n => propext (by omega)
      by_cases hA : clsB (hd0 t) = 100 ∧ kT l i = 47
      rotate_left
      · have m2 : m2T l i t = false := decide_eq_false fun h => hA ⟨h.1, h.2.1⟩
        have hm : moT l i t = m1T l i t := by rw [moT_eq, m2, Bool.or_false]
        by_cases hB : clsB (hd0 t) = 100
        · have hk : (kT l i = 47) = False := eq_false fun e => hA ⟨hB, e⟩
          have hB' : (clsB (hd0 t) = 100) = True := eq_true hB
          simp only [↓R1x, R2, R3, R4, TY, reduceIte, Nat.reduceEqDiff, Nat.reduceAdd, Nat.reduceMul, Nat.reduceLT, Nat.reduceLeDiff, reduceCtorEq, decide_true, decide_false, Int.reduceLE, Int.reduceLT, Int.reduceToNat, Int.reduceAdd, Int.reduceSub, Int.reduceMul, Int.reduceEq, FE, S_size, q0, q4, q5, q6, q7, q8, q9, q10, e10, e47, hB', hk]
          simp only [k_then]
          simp only [↓R1x, R2, R3, R4, TY, reduceIte, Nat.reduceEqDiff, Nat.reduceAdd, Nat.reduceMul, Nat.reduceLT, Nat.reduceLeDiff, reduceCtorEq, decide_true, decide_false, Int.reduceLE, Int.reduceLT, Int.reduceToNat, Int.reduceAdd, Int.reduceSub, Int.reduceMul, Int.reduceEq, FE, S_size, q0, q4, q5, q6, q7, q8, q9, q10, e10, e47, hB', hk]
          exact tail2 _ _ ⟨rfl, q0, q4, q5, q6, q7, q8, q9, by rw [hm]; exact q10⟩
        · have hB' : (clsB (hd0 t) = 100) = False := eq_false hB
          simp only [↓R1x, R2, R3, R4, TY, reduceIte, Nat.reduceEqDiff, Nat.reduceAdd, Nat.reduceMul, Nat.reduceLT, Nat.reduceLeDiff, reduceCtorEq, decide_true, decide_false, Int.reduceLE, Int.reduceLT, Int.reduceToNat, Int.reduceAdd, Int.reduceSub, Int.reduceMul, Int.reduceEq, FE, S_size, q0, q4, q5, q6, q7, q8, q9, q10, e10, e47, hB']
          simp only [k_then]
          simp only [↓R1x, R2, R3, R4, TY, reduceIte, Nat.reduceEqDiff, Nat.reduceAdd, Nat.reduceMul, Nat.reduceLT, Nat.reduceLeDiff, reduceCtorEq, decide_true, decide_false, Int.reduceLE, Int.reduceLT, Int.reduceToNat, Int.reduceAdd, Int.reduceSub, Int.reduceMul, Int.reduceEq, FE, S_size, q0, q4, q5, q6, q7, q8, q9, q10, e10, e47, hB']
          exact tail2 _ _ ⟨rfl, q0, q4, q5, q6, q7, q8, q9, by rw [hm]; exact q10⟩
      obtain ⟨hA1, hA2⟩ := hA
      have f1 : (clsB (hd0 t) = 100) = True := eq_true hA1
      have f2 : (kT l i = 47) = True := eq_true hA2
      simp only [↓R1x, R2, R3, R4, TY, reduceIte, Nat.reduceEqDiff, Nat.reduceAdd, Nat.reduceMul, Nat.reduceLT, Nat.reduceLeDiff, reduceCtorEq, decide_true, decide_false, Int.reduceLE, Int.reduceLT, Int.reduceToNat, Int.reduceAdd, Int.reduceSub, Int.reduceMul, Int.reduceEq, FE, S_size, q0, q4, q5, q6, q7, q8, q9, q10, e10, e47, f1, f2]
      refine call_of (contains1_ok _ _) ?_
      by_cases hs : 47 ∈ t
      · have m2 : m2T l i t = false := decide_eq_false fun h => h.2.2.1 hs
        have hm : moT l i t = m1T l i t := by rw [moT_eq, m2, Bool.or_false]
        have f3 : (47 ∈ t) = True := eq_true hs
        simp only [↓R1x, R2, R3, R4, TY, reduceIte, Nat.reduceEqDiff, Nat.reduceAdd, Nat.reduceMul, Nat.reduceLT, Nat.reduceLeDiff, reduceCtorEq, decide_true, decide_false, Int.reduceLE, Int.reduceLT, Int.reduceToNat, Int.reduceAdd, Int.reduceSub, Int.reduceMul, Int.reduceEq, FE, S_size, q0, q4, q5, q6, q7, q8, q9, q10, e10, e47, f1, f2, f3, w1]
        simp only [k_then]
        simp only [↓R1x, R2, R3, R4, TY, reduceIte, Nat.reduceEqDiff, Nat.reduceAdd, Nat.reduceMul, Nat.reduceLT, Nat.reduceLeDiff, reduceCtorEq, decide_true, decide_false, Int.reduceLE, Int.reduceLT, Int.reduceToNat, Int.reduceAdd, Int.reduceSub, Int.reduceMul, Int.reduceEq, FE, S_size, q0, q4, q5, q6, q7, q8, q9, q10, e10, e47, f1, f2, f3, w1]
        exact tail2 _ _ ⟨rfl, q0, q4, q5, q6, q7, q8, q9, by rw [hm]; exact q10⟩
      have f3 : (47 ∈ t) = False := eq_false hs
      by_cases hn : i + 1 < l.length
      rotate_left
      · have m2 : m2T l i t = false := decide_eq_false fun h => hn h.2.2.2.1
        have hm : moT l i t = m1T l i t := by rw [moT_eq, m2, Bool.or_false]
        have f4 : (i + 1 < l.length) = False := eq_false hn
        simp only [↓R1x, R2, R3, R4, TY, reduceIte, Nat.reduceEqDiff, Nat.reduceAdd, Nat.reduceMul, Nat.reduceLT, Nat.reduceLeDiff, reduceCtorEq, decide_true, decide_false, Int.reduceLE, Int.reduceLT, Int.reduceToNat, Int.reduceAdd, Int.reduceSub, Int.reduceMul, Int.reduceEq, FE, S_size, q0, q4, q5, q6, q7, q8, q9, q10, e10, e47, f1, f2, f3, f4, w1]
        simp only [k_then]
        simp only [↓R1x, R2, R3, R4, TY, reduceIte, Nat.reduceEqDiff, Nat.reduceAdd, Nat.reduceMul, Nat.reduceLT, Nat.reduceLeDiff, reduceCtorEq, decide_true, decide_false, Int.reduceLE, Int.reduceLT, Int.reduceToNat, Int.reduceAdd, Int.reduceSub, Int.reduceMul, Int.reduceEq, FE, S_size, q0, q4, q5, q6, q7, q8, q9, q10, e10, e47, f1, f2, f3, f4, w1]
        exact tail2 _ _ ⟨rfl, q0, q4, q5, q6, q7, q8, q9, by rw [hm]; exact q10⟩
      have hb1 : byteAt (S l) ((i + 1 : Nat) : Int) = ((l[i + 1].toNat : Nat) : Int) := S_at hn
      have z1 : (0 : Int) ≤ ((i + 1 : Nat) : Int) := by omega
      simp only [↓R1x, R2, R3, R4, TY, reduceIte, Nat.reduceEqDiff, Nat.reduceAdd, Nat.reduceMul, Nat.reduceLT, Nat.reduceLeDiff, reduceCtorEq, decide_true, decide_false, Int.reduceLE, Int.reduceLT, Int.reduceToNat, Int.reduceAdd, Int.reduceSub, Int.reduceMul, Int.reduceEq, FE, S_size, q0, q4, q5, q6, q7, q8, q9, q10, e10, e47, f1, f2, f3, hn, hb1, z1, w1]
      refine call_of (class_ok _) ?_
      by_cases hd : clsB l[i + 1] = 100
      · have m2 : m2T l i t = true := decide_eq_true ⟨hA1, hA2, hs, hn, hd⟩
        have hm : moT l i t = true := by rw [moT_eq, m2, Bool.or_true]
        have f5 : (clsB l[i + 1] = 100) = True := eq_true hd
        simp only [↓R1x, R2, R3, R4, TY, reduceIte, Nat.reduceEqDiff, Nat.reduceAdd, Nat.reduceMul, Nat.reduceLT, Nat.reduceLeDiff, reduceCtorEq, decide_true, decide_false, Int.reduceLE, Int.reduceLT, Int.reduceToNat, Int.reduceAdd, Int.reduceSub, Int.reduceMul, Int.reduceEq, FE, S_size, q0, q4, q5, q6, q7, q8, q9, q10, e10, e47, f1, f2, f3, f5]
        simp only [k_then]
        simp only [↓R1x, R2, R3, R4, TY, reduceIte, Nat.reduceEqDiff, Nat.reduceAdd, Nat.reduceMul, Nat.reduceLT, Nat.reduceLeDiff, reduceCtorEq, decide_true, decide_false, Int.reduceLE, Int.reduceLT, Int.reduceToNat, Int.reduceAdd, Int.reduceSub, Int.reduceMul, Int.reduceEq, FE, S_size, q0, q4, q5, q6, q7, q8, q9, q10, e10, e47, f1, f2, f3, f5]
        exact tail2 _ _ ⟨rfl, q0, q4, q5, q6, q7, q8, q9, by rw [hm]; rfl⟩
      · have m2 : m2T l i t = false := decide_eq_false fun h => hd h.2.2.2.2
        have hm : moT l i t = m1T l i t := by rw [moT_eq, m2, Bool.or_false]
        have f5 : (clsB l[i + 1] = 100) = False := eq_false hd
        simp only [↓R1x, R2, R3, R4, TY, reduceIte, Nat.reduceEqDiff, Nat.reduceAdd, Nat.reduceMul, Nat.reduceLT, Nat.reduceLeDiff, reduceCtorEq, decide_true, decide_false, Int.reduceLE, Int.reduceLT, Int.reduceToNat, Int.reduceAdd, Int.reduceSub, Int.reduceMul, Int.reduceEq, FE, S_size, q0, q4, q5, q6, q7, q8, q9, q10, e10, e47, f1, f2, f3, f5]
        simp only [k_then]
        simp only [↓R1x, R2, R3, R4, TY, reduceIte, Nat.reduceEqDiff, Nat.reduceAdd, Nat.reduceMul, Nat.reduceLT, Nat.reduceLeDiff, reduceCtorEq, decide_true, decide_false, Int.reduceLE, Int.reduceLT, Int.reduceToNat, Int.reduceAdd, Int.reduceSub, Int.reduceMul, Int.reduceEq, FE, S_size, q0, q4, q5, q6, q7, q8, q9, q10, e10, e47, f1, f2, f3, f5]
        exact tail2 _ _ ⟨rfl, q0, q4, q5, q6, q7, q8, q9, by rw [hm]; exact q10⟩
    rintro ρ D ⟨rfl, q0, q4, q5, q6, q7, q8, q9, q10⟩
    cases hmo : moT l i t with
    | true =>
      have hlt : i < l.length := by
        rcases Nat.lt_or_ge i l.length with h | h
        · exact h
        · rw [moT, dif_neg (by omega)] at hmo; cases hmo
      rw [hmo] at q10
      rw [woT_more ht hlt hmo] at hr
      have z0 : (0 : Int) ≤ (i : Int) := by omega
      have z1 : (0 : Int) ≤ ((i + 1 : Nat) : Int) := by omega
      have z2 : i ≤ i + 1 := by omega
      have z3 : i + 1 ≤ l.length := by omega
      have z4 : (l.drop i).take (i + 1 - i) = [l[i]] := by rw [List.drop_eq_getElem_cons hlt, Nat.add_sub_cancel_left]; rfl
      have z5 : t.length + 1 ≤ 9223372036854775807 := by omega
      simp only [↓R1, R2, R3, R4, TY, reduceIte, Nat.reduceEqDiff, Nat.reduceAdd, Nat.reduceMul, Nat.reduceLT, Nat.reduceLeDiff, reduceCtorEq, decide_true, decide_false, Int.reduceLE, Int.reduceLT, Int.reduceToNat, Int.reduceAdd, Int.reduceSub, Int.reduceMul, Int.reduceEq, FE, S_size, q0, q4, q5, q6, q7, q8, q9, q10, w1, z0, z1, z2, z3, z4, z5, S_extract, S_append, List.length_cons, List.length_nil, Nat.zero_add]
      refine loop_on ⟨i + 1, false, t ++ [l[i]], ws, sb, hx, hac, by omega, (fun h => by cases h), (by simp; omega), hr, q0, q4, rfl, q6, rfl⟩ (mS_lt (i := i + 1) rfl k7 (by omega))
    | false =>
      rw [hmo] at q10
      rw [woT_flush ht hi' hmo] at hr
      have w2 : IntKind.i64.wrap ((i : Int) - (t.length : Int)) = ((i - t.length : Nat) : Int) := by rw [wrapI (by omega)]; omega
      simp only [↓R1x, R2, R3, R4, TY, reduceIte, Nat.reduceEqDiff, Nat.reduceAdd, Nat.reduceMul, Nat.reduceLT, Nat.reduceLeDiff, reduceCtorEq, decide_true, decide_false, Int.reduceLE, Int.reduceLT, Int.reduceToNat, Int.reduceAdd, Int.reduceSub, Int.reduceMul, Int.reduceEq, FE, S_size, q0, q4, q5, q6, q7, q8, q9, q10]
      simp only [k_then]
      simp only [↓R1x, R2, R3, R4, TY, reduceIte, Nat.reduceEqDiff, Nat.reduceAdd, Nat.reduceMul, Nat.reduceLT, Nat.reduceLeDiff, reduceCtorEq, decide_true, decide_false, Int.reduceLE, Int.reduceLT, Int.reduceToNat, Int.reduceAdd, Int.reduceSub, Int.reduceMul, Int.reduceEq, FE, S_size, q0, q4, q5, q6, q7, q8, q9, q10]
      have ck : ∀ a : Int, ckK Tryd.prog 20 5 (.int .u8 a) = true := fun a => ckK_int Tryd.underlying5 _
      apply merge (fun τ E => Xt D.next D E ∧ E.next = D.next + 2 ∧ E.blk (D.next + 1) = some (.row (wC (flW t i)) 0 3) ∧ τ 0 = some (.string (S l)) ∧ τ 4 = some sb ∧ τ 6 = some (.bool false) ∧ τ 7 = some (.int .i64 (i : Nat)) ∧ τ 8 = some (.int .u8 ((kT l i : Nat) : Int)) ∧ τ 11 = some (.pointer (some ⟨D.next + 1, 0, some 0⟩)))
      · intro tail4
        have e110 : ∀ n : Nat, ((n : Int) = 110) = (n = 110) := fun n => propext (by omega)
        have e100 : ∀ n : Nat, ((n : Int) = 100) = (n = 100) := fun n => propext (by omega)
        have e115 : ∀ n : Nat, ((n : Int) = 115) = (n = 115) := fun n => propext (by omega)
        have hz3 : zl [Value.int .i64 0, Value.int .i64 0, Value.string { data := #[] }] 3 = [Value.int .i64 0, Value.int .i64 0, Value.string { data := #[] }] := rfl
        have eqU : ∀ a b : Int, eqD Tryd.prog 20 5 (.int .u8 a) (.int .u8 b) = some (decide (a = b)) := fun a b => eqD_int Tryd.underlying5 a b
        by_cases h1 : clsB (hd0 t) = 110
        · have g1 : (clsB (hd0 t) = 110) = True := eq_true h1
          have hkd : kdB (hd0 t) = 1 := by rw [kdB, if_pos (cls_let ▸ h1)]
          simp only [k_then]
          simp only [↓R1x, R2, R3, R4, TY, reduceIte, Nat.reduceEqDiff, Nat.reduceAdd, Nat.reduceMul, Nat.reduceLT, Nat.reduceLeDiff, reduceCtorEq, decide_true, decide_false, Int.reduceLE, Int.reduceLT, Int.reduceToNat, Int.reduceAdd, Int.reduceSub, Int.reduceMul, Int.reduceEq, FE, S_size, q0, q4, q5, q6, q7, q8, q9, q10, w2, ck, hfl, eqU, Option.bind_some, Bool.false_eq_true, e110, e100, e115, g1, hz3]
          refine tail4 _ _ ⟨by simp (maxDischargeDepth := 20) only [xt_push, xt_put, xt_refl, Nat.le_refl, Hp.push_next, Hp.put_next, Nat.le_add_right], rfl, ?_, q0, q4, q6, q7, q8, rfl⟩
          rw [Hp.put_blk, if_pos rfl]; simp only [wC, flW, hkd]; rfl
        have g1 : (clsB (hd0 t) = 110) = False := eq_false h1
        have k1 : ¬ pLet (hd0 t) = true := cls_let ▸ h1
        by_cases h2 : clsB (hd0 t) = 100
        · have g2 : (clsB (hd0 t) = 100) = True := eq_true h2
          have hkd : kdB (hd0 t) = 2 := by rw [kdB, if_neg k1, if_pos (cls_dig ▸ h2)]
          simp only [k_then]
          simp only [↓R1x, R2, R3, R4, TY, reduceIte, Nat.reduceEqDiff, Nat.reduceAdd, Nat.reduceMul, Nat.reduceLT, Nat.reduceLeDiff, reduceCtorEq, decide_true, decide_false, Int.reduceLE, Int.reduceLT, Int.reduceToNat, Int.reduceAdd, Int.reduceSub, Int.reduceMul, Int.reduceEq, FE, S_size, q0, q4, q5, q6, q7, q8, q9, q10, w2, ck, hfl, eqU, Option.bind_some, Bool.false_eq_true, e110, e100, e115, g1, g2, hz3]
          refine tail4 _ _ ⟨by simp (maxDischargeDepth := 20) only [xt_push, xt_put, xt_refl, Nat.le_refl, Hp.push_next, Hp.put_next, Nat.le_add_right], rfl, ?_, q0, q4, q6, q7, q8, rfl⟩
          rw [Hp.put_blk, if_pos rfl]; simp only [wC, flW, hkd]; rfl
        have g2 : (clsB (hd0 t) = 100) = False := eq_false h2
        have k2 : ¬ pDig (hd0 t) = true := cls_dig ▸ h2
        by_cases h3 : clsB (hd0 t) = 115
        · have g3 : (clsB (hd0 t) = 115) = True := eq_true h3
          have hkd : kdB (hd0 t) = 3 := by rw [kdB, if_neg k1, if_neg k2, if_pos (cls_sgn ▸ h3)]
          simp only [k_then]
          simp only [↓R1x, R2, R3, R4, TY, reduceIte, Nat.reduceEqDiff, Nat.reduceAdd, Nat.reduceMul, Nat.reduceLT, Nat.reduceLeDiff, reduceCtorEq, decide_true, decide_false, Int.reduceLE, Int.reduceLT, Int.reduceToNat, Int.reduceAdd, Int.reduceSub, Int.reduceMul, Int.reduceEq, FE, S_size, q0, q4, q5, q6, q7, q8, q9, q10, w2, ck, hfl, eqU, Option.bind_some, Bool.false_eq_true, e110, e100, e115, g1, g2, g3, hz3]
          refine tail4 _ _ ⟨by simp (maxDischargeDepth := 20) only [xt_push, xt_put, xt_refl, Nat.le_refl, Hp.push_next, Hp.put_next, Nat.le_add_right], rfl, ?_, q0, q4, q6, q7, q8, rfl⟩
          rw [Hp.put_blk, if_pos rfl]; simp only [wC, flW, hkd]; rfl
        have g3 : (clsB (hd0 t) = 115) = False := eq_false h3
        have k3 : ¬ pSgn (hd0 t) = true := cls_sgn ▸ h3
        have hkd : kdB (hd0 t) = 0 := by rw [kdB, if_neg k1, if_neg k2, if_neg k3]
        simp only [k_then]
        simp only [↓R1x, R2, R3, R4, TY, reduceIte, Nat.reduceEqDiff, Nat.reduceAdd, Nat.reduceMul, Nat.reduceLT, Nat.reduceLeDiff, reduceCtorEq, decide_true, decide_false, Int.reduceLE, Int.reduceLT, Int.reduceToNat, Int.reduceAdd, Int.reduceSub, Int.reduceMul, Int.reduceEq, FE, S_size, q0, q4, q5, q6, q7, q8, q9, q10, w2, ck, hfl, eqU, Option.bind_some, Bool.false_eq_true, e110, e100, e115, g1, g2, g3, hz3]
        refine tail4 _ _ ⟨by simp (maxDischargeDepth := 20) only [xt_push, xt_put, xt_refl, Nat.le_refl, Hp.push_next, Hp.put_next, Nat.le_add_right], rfl, ?_, q0, q4, q6, q7, q8, rfl⟩
        rw [Hp.put_blk, if_pos rfl]; simp only [wC, flW, hkd]; rfl
      rintro π E ⟨hxE, hEn, hEb, q0, q4, q6, q7, q8, q11⟩
      have hg : ∀ j, E.get G ⟨D.next + 1, j, some 0⟩ = (wC (flW t i))[j]? := fun j => get_blk hEb
      have y0 := hg 0
      have y1 := hg 1
      have y2 := hg 2
      simp only [wC] at y0 y1 y2
      have m1 : D.next + 1 < E.next := by omega
      have hxAE : Xt A.next A E := ⟨fun id hid => (hxE.blk id (by have := hx.next; omega)).trans (hx.blk id hid), by have := hx.next; omega⟩
      have htl : (flW t i).text.length ≤ 1048576 := by show t.length ≤ _; omega
      simp only [↓R1x, R2, R3, R4, TY, reduceIte, Nat.reduceEqDiff, Nat.reduceAdd, Nat.reduceMul, Nat.reduceLT, Nat.reduceLeDiff, reduceCtorEq, decide_true, decide_false, Int.reduceLE, Int.reduceLT, Int.reduceToNat, Int.reduceAdd, Int.reduceSub, Int.reduceMul, Int.reduceEq, FE, q0, q4, q6, q7, q8, q11, y0, y1, y2, m1]
      refine call_of (wordValid_ok (flW t i) htl) ?_
      rw [flushR] at hr
      cases hv : valB (flW t i) with
      | false =>
        rw [hv] at hr
        simp only [↓R1, R2, R3, R4, TY, reduceIte, Nat.reduceEqDiff, Nat.reduceAdd, Nat.reduceMul, Nat.reduceLT, Nat.reduceLeDiff, reduceCtorEq, decide_true, decide_false, Int.reduceLE, Int.reduceLT, Int.reduceToNat, Int.reduceAdd, Int.reduceSub, Int.reduceMul, Int.reduceEq, FE, q0, q4, q6, q7, q8, q11, y0, y1, y2, m1]
        exact bad 2 _ hxAE (by rw [hr]; rfl)
      | true =>
      rw [hv, if_pos rfl] at hr
      simp only [↓R1x, R2, R3, R4, TY, reduceIte, Nat.reduceEqDiff, Nat.reduceAdd, Nat.reduceMul, Nat.reduceLT, Nat.reduceLeDiff, reduceCtorEq, decide_true, decide_false, Int.reduceLE, Int.reduceLT, Int.reduceToNat, Int.reduceAdd, Int.reduceSub, Int.reduceMul, Int.reduceEq, FE, q0, q4, q6, q7, q8, q11, y0, y1, y2, m1]
      simp only [k_then]
      simp only [↓R1x, R2, R3, R4, TY, reduceIte, Nat.reduceEqDiff, Nat.reduceAdd, Nat.reduceMul, Nat.reduceLT, Nat.reduceLeDiff, reduceCtorEq, decide_true, decide_false, Int.reduceLE, Int.reduceLT, Int.reduceToNat, Int.reduceAdd, Int.reduceSub, Int.reduceMul, Int.reduceEq, FE, q0, q4, q6, q7, q8, q11, y0, y1, y2, m1]
      have hz3 : zl [Value.int .i64 0, Value.int .i64 0, Value.string { data := #[] }] 3 = [Value.int .i64 0, Value.int .i64 0, Value.string { data := #[] }] := rfl
      simp only [k_then]
      simp only [↓R1x, R2, R3, R4, TY, reduceIte, Nat.reduceEqDiff, Nat.reduceAdd, Nat.reduceMul, Nat.reduceLT, Nat.reduceLeDiff, reduceCtorEq, decide_true, decide_false, Int.reduceLE, Int.reduceLT, Int.reduceToNat, Int.reduceAdd, Int.reduceSub, Int.reduceMul, Int.reduceEq, FE, q0, q4, q6, q7, q8, q11, y0, y1, y2, m1, hz3]
      refine app1 (lo := A.next) (sz := 3) (cl := wC (flW t i)) ty26 rfl ty32 rfl (by omega) rfl (hac.xt hxE) hA.floor (by have := hx.next; omega) rfl (by simp [wC]; exact ⟨rfl, rfl, rfl⟩) (by simp; omega) (by simp; omega) ?_
      intro sb' H hac' hxH hnH hfH hidH
      simp only [↓R1x, R2, R3, R4, TY, reduceIte, Nat.reduceEqDiff, Nat.reduceAdd, Nat.reduceMul, Nat.reduceLT, Nat.reduceLeDiff, reduceCtorEq, decide_true, decide_false, Int.reduceLE, Int.reduceLT, Int.reduceToNat, Int.reduceAdd, Int.reduceSub, Int.reduceMul, Int.reduceEq, FE, q0, q4, q6, q7, q8, q11]
      simp only [k_then]
      simp only [↓R1x, R2, R3, R4, TY, reduceIte, Nat.reduceEqDiff, Nat.reduceAdd, Nat.reduceMul, Nat.reduceLT, Nat.reduceLeDiff, reduceCtorEq, decide_true, decide_false, Int.reduceLE, Int.reduceLT, Int.reduceToNat, Int.reduceAdd, Int.reduceSub, Int.reduceMul, Int.reduceEq, FE, q0, q4, q6, q7, q8, q11]
      refine tail _ _ ⟨ws ++ [flW t i], sb', ?_, ?_, ?_, ?_, q0, rfl, rfl, q6, q7, q8⟩
      · exact ⟨fun id hid => (hxH.blk id hid).trans (hxAE.blk id hid), by have := hxAE.next; omega⟩
      · rw [List.map_append]; exact hac'
      · have : 0 < t.length := hl0
        simp; omega
      · rw [hr]
        unfold consR joinR
        by_cases h2 : (stT l i).2 ≠ 0
        · rw [if_pos h2]; simp [h2]
        · rw [if_neg h2, if_neg h2]; simp
  rintro σ D ⟨ws, sb, hx, hac, hwi, hr, q0, q4, q5, q6, q7, q8⟩
  have e110 : ∀ n : Nat, ((n : Int) = 110) = (n = 110) := fun n => propext (by omega)
  have e100 : ∀ n : Nat, ((n : Int) = 100) = (n = 100) := fun n => propext (by omega)
  have e115 : ∀ n : Nat, ((n : Int) = 115) = (n = 115) := fun n => propext (by omega)
  have e99 : ∀ n : Nat, ((n : Int) = 99) = (n = 99) := fun n => propext (by omega)
  have e120 : ∀ n : Nat, ((n : Int) = 120) = (n = 120) := fun n => propext (by omega)
  have e47 : ∀ n : Nat, ((n : Int) = 47) = (n = 47) := fun n => propext (by omega)
  have w1 : IntKind.i64.wrap ((i : Int) + 1) = ((i + 1 : Nat) : Int) := by rw [wrapI (by omega)]; omega
  by_cases hlt : i < l.length
  rotate_left
  · have hk : kT l i = 98 := by rw [kT, dif_neg hlt]
    rw [stT, dif_neg hlt] at hr
    rw [hk] at q8
    simp only [↓R1, R2, R3, R4, TY, reduceIte, Nat.reduceEqDiff, Nat.reduceAdd, Nat.reduceMul, Nat.reduceLT, Nat.reduceLeDiff, reduceCtorEq, decide_true, decide_false, Int.reduceLE, Int.reduceLT, Int.reduceToNat, Int.reduceAdd, Int.reduceSub, Int.reduceMul, Int.reduceEq, FE, S_size, q0, q4, q5, q6, q7, q8, e110, e100, e115, e99, e120, e47, w1]
    refine loop_on ⟨i + 1, false, [], ws, sb, hx, hac, by omega, (fun h => by cases h), by simp; omega, ?_, q0, q4, q5, q6, rfl⟩ (mS_lt (i := i + 1) rfl k7 (by omega))
    rw [hr, woT, if_neg (by omega)]
  have hk : kT l i = clsB l[i] := by rw [kT, dif_pos hlt]
  have hW : ∀ c t, wo (l.drop (i + 1)) (i + 1) c t = woT l (i + 1) c t := fun c t => by rw [woT, if_pos (by omega)]
  rw [stT, dif_pos hlt, hW, hW, hW, startR] at hr
  have z0 : (0 : Int) ≤ (i : Int) := by omega
  have z1 : (0 : Int) ≤ ((i + 1 : Nat) : Int) := by omega
  have z2 : i ≤ i + 1 := by omega
  have z3 : i + 1 ≤ l.length := by omega
  have z4 : (l.drop i).take (i + 1 - i) = [l[i]] := by rw [List.drop_eq_getElem_cons hlt, Nat.add_sub_cancel_left]; rfl
  have word : kdB l[i] ≠ 0 → readR l = joinR ws (woT l (i + 1) false [l[i]]) := fun h => by rw [hr, if_pos h]
  have kd1 : pLet l[i] = true → kdB l[i] ≠ 0 := fun h => by rw [kdB, if_pos h]; decide
  have kd2 : pDig l[i] = true → kdB l[i] ≠ 0 := fun h => by rw [kdB, if_neg (by simp [dig_let h]), if_pos h]; decide
  have kd3 : pSgn l[i] = true → kdB l[i] ≠ 0 := fun h => by rw [kdB, if_neg (by simp [sgn_let h]), if_neg (by simp [sgn_let h]), if_pos h]; decide
  by_cases h1 : clsB l[i] = 110
  · rw [hk, h1] at q8
    simp only [↓R1, R2, R3, R4, TY, reduceIte, Nat.reduceEqDiff, Nat.reduceAdd, Nat.reduceMul, Nat.reduceLT, Nat.reduceLeDiff, reduceCtorEq, decide_true, decide_false, Int.reduceLE, Int.reduceLT, Int.reduceToNat, Int.reduceAdd, Int.reduceSub, Int.reduceMul, Int.reduceEq, FE, S_size, q0, q4, q5, q6, q7, q8, e110, e100, e115, e99, e120, e47, w1, z0, z1, z2, z3, z4, S_extract]
    exact loop_on ⟨i + 1, false, [l[i]], ws, sb, hx, hac, by omega, (fun h => by cases h), by simp; omega, word (kd1 (cls_let ▸ h1)), q0, q4, rfl, q6, rfl⟩ (mS_lt (i := i + 1) rfl k7 (by omega))
  by_cases h2 : clsB l[i] = 100
  · rw [hk, h2] at q8
    simp only [↓R1, R2, R3, R4, TY, reduceIte, Nat.reduceEqDiff, Nat.reduceAdd, Nat.reduceMul, Nat.reduceLT, Nat.reduceLeDiff, reduceCtorEq, decide_true, decide_false, Int.reduceLE, Int.reduceLT, Int.reduceToNat, Int.reduceAdd, Int.reduceSub, Int.reduceMul, Int.reduceEq, FE, S_size, q0, q4, q5, q6, q7, q8, e110, e100, e115, e99, e120, e47, w1, z0, z1, z2, z3, z4, S_extract]
    exact loop_on ⟨i + 1, false, [l[i]], ws, sb, hx, hac, by omega, (fun h => by cases h), by simp; omega, word (kd2 (cls_dig ▸ h2)), q0, q4, rfl, q6, rfl⟩ (mS_lt (i := i + 1) rfl k7 (by omega))
  by_cases h3 : clsB l[i] = 115
  · rw [hk, h3] at q8
    simp only [↓R1, R2, R3, R4, TY, reduceIte, Nat.reduceEqDiff, Nat.reduceAdd, Nat.reduceMul, Nat.reduceLT, Nat.reduceLeDiff, reduceCtorEq, decide_true, decide_false, Int.reduceLE, Int.reduceLT, Int.reduceToNat, Int.reduceAdd, Int.reduceSub, Int.reduceMul, Int.reduceEq, FE, S_size, q0, q4, q5, q6, q7, q8, e110, e100, e115, e99, e120, e47, w1, z0, z1, z2, z3, z4, S_extract]
    exact loop_on ⟨i + 1, false, [l[i]], ws, sb, hx, hac, by omega, (fun h => by cases h), by simp; omega, word (kd3 (cls_sgn ▸ h3)), q0, q4, rfl, q6, rfl⟩ (mS_lt (i := i + 1) rfl k7 (by omega))
  have n1 : ¬ pLet l[i] = true := cls_let ▸ h1
  have n2 : ¬ pDig l[i] = true := cls_dig ▸ h2
  have n3 : ¬ pSgn l[i] = true := cls_sgn ▸ h3
  have n0 : ¬ kdB l[i] ≠ 0 := by simp [kdB, n1, n2, n3]
  rw [if_neg n0] at hr
  by_cases h4 : clsB l[i] = 99
  · have e35 : l[i] = 35 := cls_35 ▸ h4
    rw [if_neg (by rw [e35]; decide), if_pos e35] at hr
    rw [hk, h4] at q8
    simp only [↓R1, R2, R3, R4, TY, reduceIte, Nat.reduceEqDiff, Nat.reduceAdd, Nat.reduceMul, Nat.reduceLT, Nat.reduceLeDiff, reduceCtorEq, decide_true, decide_false, Int.reduceLE, Int.reduceLT, Int.reduceToNat, Int.reduceAdd, Int.reduceSub, Int.reduceMul, Int.reduceEq, FE, S_size, q0, q4, q5, q6, q7, q8, e110, e100, e115, e99, e120, e47, w1]
    exact loop_on ⟨i + 1, true, [], ws, sb, hx, hac, by omega, (fun _ => rfl), by simp; omega, hr, q0, q4, q5, rfl, rfl⟩ (mS_lt (i := i + 1) rfl k7 (by omega))
  by_cases h5 : clsB l[i] = 98
  · have hbk : pBlk l[i] = true := by
      unfold clsB at h5
      unfold pBlk
      rw [decide_eq_true_iff]
      (repeat' split at h5) <;> omega
    rw [if_pos hbk] at hr
    rw [hk, h5] at q8
    simp only [↓R1, R2, R3, R4, TY, reduceIte, Nat.reduceEqDiff, Nat.reduceAdd, Nat.reduceMul, Nat.reduceLT, Nat.reduceLeDiff, reduceCtorEq, decide_true, decide_false, Int.reduceLE, Int.reduceLT, Int.reduceToNat, Int.reduceAdd, Int.reduceSub, Int.reduceMul, Int.reduceEq, FE, S_size, q0, q4, q5, q6, q7, q8, e110, e100, e115, e99, e120, e47, w1]
    exact loop_on ⟨i + 1, false, [], ws, sb, hx, hac, by omega, (fun h => by cases h), by simp; omega, hr, q0, q4, q5, q6, rfl⟩ (mS_lt (i := i + 1) rfl k7 (by omega))
  have n35 : l[i] ≠ 35 := fun e => h4 (by rw [cls_35]; exact e)
  have nbk : ¬ pBlk l[i] = true := fun e => h5 (by
    have e' := of_decide_eq_true e
    unfold clsB
    (repeat' split) <;> omega)
  rw [if_neg nbk, if_neg n35] at hr
  have hbad : readR l = ([], 15) := by rw [hr]; rfl
  by_cases h6 : clsB l[i] = 47
  · rw [hk, h6] at q8
    simp only [↓R1, R2, R3, R4, TY, reduceIte, Nat.reduceEqDiff, Nat.reduceAdd, Nat.reduceMul, Nat.reduceLT, Nat.reduceLeDiff, reduceCtorEq, decide_true, decide_false, Int.reduceLE, Int.reduceLT, Int.reduceToNat, Int.reduceAdd, Int.reduceSub, Int.reduceMul, Int.reduceEq, FE, S_size, q0, q4, q5, q6, q7, q8, e110, e100, e115, e99, e120, e47, w1]
    exact bad 15 _ hx hbad
  · have h7 : clsB l[i] = 120 := by
      revert h1 h2 h3 h4 h5 h6
      unfold clsB
      (repeat' split) <;> omega
    rw [hk, h7] at q8
    simp only [↓R1, R2, R3, R4, TY, reduceIte, Nat.reduceEqDiff, Nat.reduceAdd, Nat.reduceMul, Nat.reduceLT, Nat.reduceLeDiff, reduceCtorEq, decide_true, decide_false, Int.reduceLE, Int.reduceLT, Int.reduceToNat, Int.reduceAdd, Int.reduceSub, Int.reduceMul, Int.reduceEq, FE, S_size, q0, q4, q5, q6, q7, q8, e110, e100, e115, e99, e120, e47, w1]
    exact bad 15 _ hx hbad
end
end Go.Proofs.YtjgkodhadgfbmaaDoor.Ab
