/- Words: blanks, one word. -/
import Derived.Test.YtjgkodhadgfbmaaDoorDd
namespace Go.Proofs.YtjgkodhadgfbmaaDoor.Ab
open Go.RowKit
set_option linter.unusedVariables false
set_option linter.unusedSimpArgs false
set_option maxRecDepth 100000

/-- How many bytes of blanks and comments a list begins with; true: in a comment. -/
def skL : Bool → List UInt8 → Nat
  | _, [] => 0
  | false, b :: r => if pBlk b then skL false r + 1 else if b.toNat = 35 then skL true r + 1 else 0
  | true, b :: r => if b.toNat = 10 then skL false r + 1 else skL true r + 1
theorem skL_le : ∀ (c : Bool) (l : List UInt8), skL c l ≤ l.length
  | _, [] => by simp [skL]
  | false, b :: r => by
    have h1 := skL_le false r
    have h2 := skL_le true r
    rw [skL]; split
    · simp; omega
    · split <;> simp; omega
  | true, b :: r => by
    have h1 := skL_le false r
    have h2 := skL_le true r
    rw [skL]; split <;> simp <;> omega
/-- The number that a list begins with: how long it is. -/
def numL (d : List UInt8) : Nat :=
  if runL pDig d + 1 < d.length ∧ d.getD (runL pDig d) 0 = 47 ∧ pDig (d.getD (runL pDig d + 1) 0) = true then runL pDig d + 1 + runL pDig (d.drop (runL pDig d + 1)) else runL pDig d
/-- The kind and the length of the word that a list begins with. -/
def oneK : List UInt8 → Nat × Nat
  | [] => (0, 0)
  | c :: r => if pLet c then (1, runL pLet (c :: r)) else if pDig c then (2, numL (c :: r)) else if pSgn c then (3, 1) else (0, 0)
theorem numL_le (d : List UInt8) : numL d ≤ d.length := by
  unfold numL
  split
  · have := runL_le pDig (d.drop (runL pDig d + 1))
    simp only [List.length_drop] at this
    omega
  · exact runL_le _ _
theorem oneK_le (d : List UInt8) : (oneK d).2 ≤ d.length := by
  cases d with
  | nil => simp [oneK]
  | cons c r =>
    rw [oneK]
    split
    · exact runL_le _ _
    · split
      · exact numL_le _
      · split <;> simp
/-- What is wrong with that word. -/
def oneE (d : List UInt8) : Nat := if (oneK d).1 = 0 then 15 else if (oneK d).1 = 1 ∧ nmB (d.take (oneK d).2) = false then 2 else if (oneK d).1 = 2 ∧ nuB (d.take (oneK d).2) = false then 2 else 0
/-- A word: its kind, its place, its text. -/
structure Wd where
  kind : Nat
  at_ : Nat
  text : List UInt8
deriving DecidableEq
def wC (w : Wd) : List Value := [.int .i64 (w.kind : Int), .int .i64 (w.at_ : Int), .string (S w.text)]
/-- The word at a place. -/
def oneW (d : List UInt8) (k : Nat) : Wd := if oneE d = 0 then ⟨(oneK d).1, k, d.take (oneK d).2⟩ else ⟨0, 0, []⟩
/-- How far a counting slot is from n. -/
def mS (t n : Nat) (τ : Tm) (_ : Hp) : Nat := match τ t with | some (.int _ x) => n - x.toNat | _ => 0
theorem mS_lt {t n i j : Nat} {τ τ' : Tm} {A A' : Hp} (h1 : τ' t = some (.int .i64 (i : Nat))) (h2 : τ t = some (.int .i64 (j : Nat))) (h : n - i < n - j) : mS t n τ' A' < mS t n τ A := by
  simp only [mS, h1, h2, Int.toNat_natCast]; exact h
section
variable {G : Gl} {fl : Nat} {A : Hp}
theorem skip_ok {l : List UInt8} (hl : l.length < 9223372036854775807) {k : Nat} (hk : k ≤ l.length) :
    Sound Tryd.prog G 24 [.string (S l), .int .i64 (k : Nat)] fl A (.int .i64 ((k + skL false (l.drop k) : Nat) : Int)) A := by
  refine Sound.of mixed Tryd.func24 Tryd.ntmps24 Tryd.results24 (by kernel_rfl) rfl (by kernel_rfl) (by kernel_rfl) fun hA => ?_
  simp only [↓R1, R2, R3, R4, TY, reduceIte, Nat.reduceEqDiff, Nat.reduceAdd, Nat.reduceMul, Nat.reduceLT, Nat.reduceLeDiff, reduceCtorEq, decide_true, decide_false, Int.reduceLE, Int.reduceLT, Int.reduceToNat, Int.reduceAdd, Int.reduceSub, Int.reduceMul, Int.reduceEq, FE, S_size]
  refine loop_of (fun τ B => B = A ∧ ∃ j : Nat, j ≤ l.length ∧ j + skL false (l.drop j) = k + skL false (l.drop k) ∧ τ 0 = some (.string (S l)) ∧ τ 1 = some (.int .i64 (j : Nat)))
    (mS 1 l.length) ⟨rfl, k, hk, rfl, rfl, rfl⟩ ?_
  rintro τ B ⟨rfl, j, hj, hr, q0, q1⟩
  have fin : ∀ y : Nat, y = k + skL false (l.drop k) → Ended B (.int .i64 (y : Int)) B (.int .i64 ((k + skL false (l.drop k) : Nat) : Int)) B := fun y h => Ended.back hA (Xt.refl _) (by rw [h]) (RB.int _ _)
  simp only [↓R1, R2, R3, R4, TY, reduceIte, Nat.reduceEqDiff, Nat.reduceAdd, Nat.reduceMul, Nat.reduceLT, Nat.reduceLeDiff, reduceCtorEq, decide_true, decide_false, Int.reduceLE, Int.reduceLT, Int.reduceToNat, Int.reduceAdd, Int.reduceSub, Int.reduceMul, Int.reduceEq, FE, S_size, q0, q1]
  refine ⟨fun hlt => ?_, fun hlt => ?_⟩
  rotate_left
  · refine fin j ?_
    have : j = l.length := by omega
    subst this
    rw [List.drop_length] at hr
    rw [← hr]; rfl
  have hlt' : j < l.length := by omega
  have hb : byteAt (S l) (j : Int) = ((l[j].toNat : Nat) : Int) := S_at hlt'
  have hj63 : j < 9223372036854775807 := by omega
  have hd : l.drop j = l[j] :: l.drop (j + 1) := List.drop_eq_getElem_cons hlt'
  rw [hd, skL] at hr
  cases hc : pBlk l[j]
  · rw [hc] at hr
    simp only [Bool.false_eq_true, if_false] at hr
    simp only [↓R1, R2, R3, R4, TY, reduceIte, Nat.reduceEqDiff, Nat.reduceAdd, Nat.reduceMul, Nat.reduceLT, Nat.reduceLeDiff, reduceCtorEq, decide_true, decide_false, Int.reduceLE, Int.reduceLT, Int.reduceToNat, Int.reduceAdd, Int.reduceSub, Int.reduceMul, Int.reduceEq, FE, S_size, q0, q1, hlt, hlt', hb, hj63, hc]
    refine call_of (blank_ok _) ?_
    simp only [↓R1, R2, R3, R4, TY, reduceIte, Nat.reduceEqDiff, Nat.reduceAdd, Nat.reduceMul, Nat.reduceLT, Nat.reduceLeDiff, reduceCtorEq, decide_true, decide_false, Int.reduceLE, Int.reduceLT, Int.reduceToNat, Int.reduceAdd, Int.reduceSub, Int.reduceMul, Int.reduceEq, FE, S_size, q0, q1, hlt, hlt', hb, hj63, hc]
    refine ⟨fun h35 => ?_, fun h35 => ?_⟩
    rotate_left
    · refine fin j ?_
      rw [if_neg (by omega)] at hr
      exact hr
    rw [if_pos (by omega)] at hr
    refine loop_of (fun τ C => C = B ∧ ∃ i : Nat, j ≤ i ∧ i ≤ l.length ∧ i + skL true (l.drop i) = k + skL false (l.drop k) ∧ τ 0 = some (.string (S l)) ∧ τ 1 = some (.int .i64 (i : Nat)))
      (mS 1 l.length) ?_ ?_
    · refine ⟨rfl, j, Nat.le_refl _, hj, ?_, q0, q1⟩
      rw [hd, skL, if_neg (by omega)]; exact hr
    have k1 := q1
    clear q0 q1
    rintro σ C ⟨rfl, i, hji, hil, hri, q0, q1⟩
    simp only [↓R1, R2, R3, R4, TY, reduceIte, Nat.reduceEqDiff, Nat.reduceAdd, Nat.reduceMul, Nat.reduceLT, Nat.reduceLeDiff, reduceCtorEq, decide_true, decide_false, Int.reduceLE, Int.reduceLT, Int.reduceToNat, Int.reduceAdd, Int.reduceSub, Int.reduceMul, Int.reduceEq, FE, S_size, q0, q1]
    refine ⟨fun hi => ?_, fun hi => ?_⟩
    · have hib : byteAt (S l) (i : Int) = ((l[i].toNat : Nat) : Int) := S_at hi
      have hi63 : i < 9223372036854775807 := by omega
      have hdi : l.drop i = l[i] :: l.drop (i + 1) := List.drop_eq_getElem_cons hi
      rw [hdi, skL] at hri
      simp only [↓R1, R2, R3, R4, TY, reduceIte, Nat.reduceEqDiff, Nat.reduceAdd, Nat.reduceMul, Nat.reduceLT, Nat.reduceLeDiff, reduceCtorEq, decide_true, decide_false, Int.reduceLE, Int.reduceLT, Int.reduceToNat, Int.reduceAdd, Int.reduceSub, Int.reduceMul, Int.reduceEq, FE, S_size, q0, q1, hi, hib, hi63]
      refine ⟨fun h10 => ?_, fun h10 => ?_⟩
      · have hne : j < i := by
          rcases Nat.lt_or_ge j i with h | h
          · exact h
          · obtain rfl : i = j := by omega
            omega
        rw [if_pos (by omega)] at hri
        refine loop_on ⟨rfl, i, hil, ?_, q0, q1⟩ ?_
        · rw [hdi, skL, if_pos (by simp [pBlk]; omega)]; exact hri
        · exact mS_lt q1 k1 (by omega)
      · rw [if_neg (by omega)] at hri
        refine loop_on ⟨rfl, i + 1, by omega, hi, by omega, q0, rfl⟩ ?_
        exact mS_lt (i := i + 1) rfl q1 (by omega)
    · obtain rfl : i = l.length := by omega
      refine loop_on ⟨rfl, l.length, Nat.le_refl _, ?_, q0, q1⟩ ?_
      · rw [List.drop_length] at hri ⊢
        exact hri
      · exact mS_lt q1 k1 (by omega)
  · rw [hc] at hr
    simp only [if_true] at hr
    simp only [↓R1, R2, R3, R4, TY, reduceIte, Nat.reduceEqDiff, Nat.reduceAdd, Nat.reduceMul, Nat.reduceLT, Nat.reduceLeDiff, reduceCtorEq, decide_true, decide_false, Int.reduceLE, Int.reduceLT, Int.reduceToNat, Int.reduceAdd, Int.reduceSub, Int.reduceMul, Int.reduceEq, FE, S_size, q0, q1, hlt, hlt', hb, hj63, hc]
    refine call_of (blank_ok _) ?_
    simp only [↓R1, R2, R3, R4, TY, reduceIte, Nat.reduceEqDiff, Nat.reduceAdd, Nat.reduceMul, Nat.reduceLT, Nat.reduceLeDiff, reduceCtorEq, decide_true, decide_false, Int.reduceLE, Int.reduceLT, Int.reduceToNat, Int.reduceAdd, Int.reduceSub, Int.reduceMul, Int.reduceEq, FE, S_size, q0, q1, hlt, hlt', hb, hj63, hc]
    refine loop_on ⟨rfl, j + 1, hlt', by omega, q0, rfl⟩ ?_
    exact mS_lt (i := j + 1) rfl q1 (by omega)
theorem one_ok {l : List UInt8} (hl : l.length < 9223372036854775807) {k : Nat} (hk : k < l.length) :
    Sound Tryd.prog G 25 [.string (S l), .int .i64 (k : Nat)] fl A (.tuple [Value.agg (wC (oneW (l.drop k) k)).toArray, .int .i64 ((oneE (l.drop k) : Nat) : Int)].toArray) A := by
  refine Sound.of mixed Tryd.func25 Tryd.ntmps25 Tryd.results25 (by kernel_rfl) rfl (by kernel_rfl) (by kernel_rfl) fun hA => ?_
  have hb : byteAt (S l) (k : Int) = ((l[k].toNat : Nat) : Int) := S_at hk
  have hk63 : k < 9223372036854775807 := by omega
  have hfl : fl ≤ A.next := hA.floor
  have fin : ∀ (w : Wd) (e : Nat) (B : Hp), Xt A.next A B → w = oneW (l.drop k) k → e = oneE (l.drop k) → Ended A (.tuple [Value.agg (wC w).toArray, .int .i64 ((e : Nat) : Int)].toArray) B (.tuple [Value.agg (wC (oneW (l.drop k) k)).toArray, .int .i64 ((oneE (l.drop k) : Nat) : Int)].toArray) A := by
    rintro w e B hx rfl rfl
    refine Ended.back hA hx rfl (RB.tuple fun u hu => ?_)
    simp only [List.mem_cons, List.not_mem_nil, or_false] at hu
    rcases hu with rfl | rfl
    · exact RB.zc rfl
    · exact RB.int _ _
  have hdk : l.drop k = l[k] :: l.drop (k + 1) := List.drop_eq_getElem_cons hk
  simp only [↓R1x, R2, R3, R4, TY, reduceIte, Nat.reduceEqDiff, Nat.reduceAdd, Nat.reduceMul, Nat.reduceLT, Nat.reduceLeDiff, reduceCtorEq, decide_true, decide_false, Int.reduceLE, Int.reduceLT, Int.reduceToNat, Int.reduceAdd, Int.reduceSub, Int.reduceMul, Int.reduceEq, FE, S_size, hb, hk, hk63, hfl]
  simp only [k_then]
  simp only [↓R1x, R2, R3, R4, TY, reduceIte, Nat.reduceEqDiff, Nat.reduceAdd, Nat.reduceMul, Nat.reduceLT, Nat.reduceLeDiff, reduceCtorEq, decide_true, decide_false, Int.reduceLE, Int.reduceLT, Int.reduceToNat, Int.reduceAdd, Int.reduceSub, Int.reduceMul, Int.reduceEq, FE, S_size, hb, hk, hk63, hfl]
  simp only [k_then]
  simp only [↓R1x, R2, R3, R4, TY, reduceIte, Nat.reduceEqDiff, Nat.reduceAdd, Nat.reduceMul, Nat.reduceLT, Nat.reduceLeDiff, reduceCtorEq, decide_true, decide_false, Int.reduceLE, Int.reduceLT, Int.reduceToNat, Int.reduceAdd, Int.reduceSub, Int.reduceMul, Int.reduceEq, FE, S_size, hb, hk, hk63, hfl]
  simp only [k_then]
  simp only [↓R1x, R2, R3, R4, TY, reduceIte, Nat.reduceEqDiff, Nat.reduceAdd, Nat.reduceMul, Nat.reduceLT, Nat.reduceLeDiff, reduceCtorEq, decide_true, decide_false, Int.reduceLE, Int.reduceLT, Int.reduceToNat, Int.reduceAdd, Int.reduceSub, Int.reduceMul, Int.reduceEq, FE, S_size, hb, hk, hk63, hfl]
  refine go_on (fun τ B => Xt A.next A B ∧ B.next = A.next + 2 ∧ B.blk A.next = some (.row [Value.int .i64 0, .int .i64 0, .string (S [])] 0 3) ∧ B.blk (A.next + 1) = some (.row [Value.int .i64 0, .int .i64 (k : Int), .string (S [])] 0 3) ∧
    τ 0 = some (.string (S l)) ∧ τ 1 = some (.int .i64 (k : Nat)) ∧ τ 4 = some (.pointer (some ⟨A.next, 0, some 0⟩)) ∧ τ 6 = some (.pointer (some ⟨A.next + 1, 0, some 0⟩)) ∧ τ 7 = some (.int .i64 ((k + 1 : Nat) : Int)) ∧ τ 8 = some (.int .u8 ((l[k].toNat : Nat) : Int)))
    ⟨by simp (maxDischargeDepth := 20) only [xt_push, xt_put, xt_refl, Hp.push_next, Nat.le_add_right], by simp, by simp [Hp.put_blk, Hp.push_blk], by simp [Hp.put_blk, Hp.push_blk], rfl, rfl, rfl, rfl, rfl, rfl⟩ ?_
  rintro τ B ⟨hx, hBn, b0, b1, q0, q1, q4, q6, q7, q8⟩
  have n0 : A.next < B.next := by omega
  have n1 : A.next + 1 < B.next := by omega
  have n2 : fl ≤ A.next + 1 := by omega
  apply merge (fun τ B => (oneK (l.drop k)).1 ≠ 0 ∧ Xt A.next A B ∧ B.next = A.next + 2 ∧ B.blk A.next = some (.row [Value.int .i64 0, .int .i64 0, .string (S [])] 0 3) ∧ B.blk (A.next + 1) = some (.row [Value.int .i64 ((oneK (l.drop k)).1 : Int), .int .i64 (k : Int), .string (S [])] 0 3) ∧
    τ 0 = some (.string (S l)) ∧ τ 1 = some (.int .i64 (k : Nat)) ∧ τ 4 = some (.pointer (some ⟨A.next, 0, some 0⟩)) ∧ τ 6 = some (.pointer (some ⟨A.next + 1, 0, some 0⟩)) ∧ τ 7 = some (.int .i64 ((k + (oneK (l.drop k)).2 : Nat) : Int)))
  · intro tail
    have r1 := run_ok (G := G) (fl := fl) (A := B) (g := 18) (p := pLet) (fun b fl A => letter_ok b) hl (Nat.le_of_lt hk)
    have r2 := run_ok (G := G) (fl := fl) (A := B) (g := 38) (p := pDig) (fun b fl A => digit_ok b) hl (Nat.le_of_lt hk)
    cases h1 : pLet l[k]
    rotate_left
    · have hone : oneK (l.drop k) = (1, runL pLet (l.drop k)) := by rw [hdk, oneK, if_pos h1]
      simp only [↓R1x, R2, R3, R4, TY, reduceIte, Nat.reduceEqDiff, Nat.reduceAdd, Nat.reduceMul, Nat.reduceLT, Nat.reduceLeDiff, reduceCtorEq, decide_true, decide_false, Int.reduceLE, Int.reduceLT, Int.reduceToNat, Int.reduceAdd, Int.reduceSub, Int.reduceMul, Int.reduceEq, FE, S_size, q0, q1, q4, q6, q7, q8, b0, b1, hk, hk63, hfl, n0, n1, n2]
      refine call_of (letter_ok _) ?_
      simp only [↓R1x, R2, R3, R4, TY, reduceIte, Nat.reduceEqDiff, Nat.reduceAdd, Nat.reduceMul, Nat.reduceLT, Nat.reduceLeDiff, reduceCtorEq, decide_true, decide_false, Int.reduceLE, Int.reduceLT, Int.reduceToNat, Int.reduceAdd, Int.reduceSub, Int.reduceMul, Int.reduceEq, FE, S_size, q0, q1, q4, q6, q7, q8, b0, b1, hk, hk63, hfl, n0, n1, n2, h1]
      simp only [k_then]
      simp only [↓R1x, R2, R3, R4, TY, reduceIte, Nat.reduceEqDiff, Nat.reduceAdd, Nat.reduceMul, Nat.reduceLT, Nat.reduceLeDiff, reduceCtorEq, decide_true, decide_false, Int.reduceLE, Int.reduceLT, Int.reduceToNat, Int.reduceAdd, Int.reduceSub, Int.reduceMul, Int.reduceEq, FE, S_size, q0, q1, q4, q6, q7, q8, b0, b1, hk, hk63, hfl, n0, n1, n2, h1]
      refine call_of r1 ?_
      simp only [↓R1x, R2, R3, R4, TY, reduceIte, Nat.reduceEqDiff, Nat.reduceAdd, Nat.reduceMul, Nat.reduceLT, Nat.reduceLeDiff, reduceCtorEq, decide_true, decide_false, Int.reduceLE, Int.reduceLT, Int.reduceToNat, Int.reduceAdd, Int.reduceSub, Int.reduceMul, Int.reduceEq, FE, S_size, q0, q1, q4, q6, q7, q8, b0, b1, hk, hk63, hfl, n0, n1, n2, h1]
      refine tail _ _ ?_
      rw [hone]
      exact ⟨by simp, ⟨fun id hid => by rw [Hp.put_blk, if_neg (by omega)]; exact hx.blk id hid, hx.next⟩, hBn, by rw [Hp.put_blk, if_neg (by omega)]; exact b0, by rw [Hp.put_blk, if_pos rfl]; rfl, q0, q1, q4, q6, rfl⟩
    cases h2 : pDig l[k]
    rotate_left
    · have hone : oneK (l.drop k) = (2, numL (l.drop k)) := by rw [hdk, oneK, if_neg (by simp [h1]), if_pos h2]
      simp only [↓R1x, R2, R3, R4, TY, reduceIte, Nat.reduceEqDiff, Nat.reduceAdd, Nat.reduceMul, Nat.reduceLT, Nat.reduceLeDiff, reduceCtorEq, decide_true, decide_false, Int.reduceLE, Int.reduceLT, Int.reduceToNat, Int.reduceAdd, Int.reduceSub, Int.reduceMul, Int.reduceEq, FE, S_size, q0, q1, q4, q6, q7, q8, b0, b1, hk, hk63, hfl, n0, n1, n2]
      refine call_of (letter_ok _) ?_
      simp only [↓R1x, R2, R3, R4, TY, reduceIte, Nat.reduceEqDiff, Nat.reduceAdd, Nat.reduceMul, Nat.reduceLT, Nat.reduceLeDiff, reduceCtorEq, decide_true, decide_false, Int.reduceLE, Int.reduceLT, Int.reduceToNat, Int.reduceAdd, Int.reduceSub, Int.reduceMul, Int.reduceEq, FE, S_size, q0, q1, q4, q6, q7, q8, b0, b1, hk, hk63, hfl, n0, n1, n2, h1]
      simp only [k_then]
      simp only [↓R1x, R2, R3, R4, TY, reduceIte, Nat.reduceEqDiff, Nat.reduceAdd, Nat.reduceMul, Nat.reduceLT, Nat.reduceLeDiff, reduceCtorEq, decide_true, decide_false, Int.reduceLE, Int.reduceLT, Int.reduceToNat, Int.reduceAdd, Int.reduceSub, Int.reduceMul, Int.reduceEq, FE, S_size, q0, q1, q4, q6, q7, q8, b0, b1, hk, hk63, hfl, n0, n1, n2, h1]
      refine call_of (digit_ok _) ?_
      simp only [↓R1x, R2, R3, R4, TY, reduceIte, Nat.reduceEqDiff, Nat.reduceAdd, Nat.reduceMul, Nat.reduceLT, Nat.reduceLeDiff, reduceCtorEq, decide_true, decide_false, Int.reduceLE, Int.reduceLT, Int.reduceToNat, Int.reduceAdd, Int.reduceSub, Int.reduceMul, Int.reduceEq, FE, S_size, q0, q1, q4, q6, q7, q8, b0, b1, hk, hk63, hfl, n0, n1, n2, h1, h2]
      simp only [k_then]
      simp only [↓R1x, R2, R3, R4, TY, reduceIte, Nat.reduceEqDiff, Nat.reduceAdd, Nat.reduceMul, Nat.reduceLT, Nat.reduceLeDiff, reduceCtorEq, decide_true, decide_false, Int.reduceLE, Int.reduceLT, Int.reduceToNat, Int.reduceAdd, Int.reduceSub, Int.reduceMul, Int.reduceEq, FE, S_size, q0, q1, q4, q6, q7, q8, b0, b1, hk, hk63, hfl, n0, n1, n2, h1, h2]
      refine call_of r2 ?_
      simp only [↓R1x, R2, R3, R4, TY, reduceIte, Nat.reduceEqDiff, Nat.reduceAdd, Nat.reduceMul, Nat.reduceLT, Nat.reduceLeDiff, reduceCtorEq, decide_true, decide_false, Int.reduceLE, Int.reduceLT, Int.reduceToNat, Int.reduceAdd, Int.reduceSub, Int.reduceMul, Int.reduceEq, FE, S_size, q0, q1, q4, q6, q7, q8, b0, b1, hk, hk63, hfl, n0, n1, n2, h1, h2]
      simp only [k_then]
      simp only [↓R1x, R2, R3, R4, TY, reduceIte, Nat.reduceEqDiff, Nat.reduceAdd, Nat.reduceMul, Nat.reduceLT, Nat.reduceLeDiff, reduceCtorEq, decide_true, decide_false, Int.reduceLE, Int.reduceLT, Int.reduceToNat, Int.reduceAdd, Int.reduceSub, Int.reduceMul, Int.reduceEq, FE, S_size, q0, q1, q4, q6, q7, q8, b0, b1, hk, hk63, hfl, n0, n1, n2, h1, h2]
      have hnl := runL_le pDig (l.drop k)
      rw [List.length_drop] at hnl
      have hnum : numL (l.drop k) = if runL pDig (l.drop k) + 1 < (l.drop k).length ∧ (l.drop k).getD (runL pDig (l.drop k)) 0 = 47 ∧ pDig ((l.drop k).getD (runL pDig (l.drop k) + 1) 0) = true then runL pDig (l.drop k) + 1 + runL pDig ((l.drop k).drop (runL pDig (l.drop k) + 1)) else runL pDig (l.drop k) := rfl
      rw [List.length_drop, List.drop_drop] at hnum
      have hC : ∀ C : Hp, C = B.put (A.next + 1) (.row [Value.int .i64 2, .int .i64 (k : Int), .string (S [])] 0 3) → Xt A.next A C ∧ C.next = A.next + 2 ∧ C.blk A.next = some (.row [Value.int .i64 0, .int .i64 0, .string (S [])] 0 3) ∧ C.blk (A.next + 1) = some (.row [Value.int .i64 2, .int .i64 (k : Int), .string (S [])] 0 3) := by
        rintro C rfl
        exact ⟨⟨fun id hid => by rw [Hp.put_blk, if_neg (by omega)]; exact hx.blk id hid, hx.next⟩, hBn, by rw [Hp.put_blk, if_neg (by omega)]; exact b0, by rw [Hp.put_blk, if_pos rfl]⟩
      obtain ⟨C1, C2, C3, C4⟩ := hC _ rfl
      generalize hn : runL pDig (l.drop k) = n at *
      have w1 : IntKind.i64.wrap (((k + n : Nat) : Int) + 1) = ((k + n + 1 : Nat) : Int) := by rw [wrapI (by omega)]; omega
      have g1 : (l.drop k).getD n 0 = l.getD (k + n) 0 := by simp [List.getD]
      have g2 : (l.drop k).getD (n + 1) 0 = l.getD (k + n + 1) 0 := by simp [List.getD, Nat.add_assoc]
      rw [g1, g2] at hnum
      simp only [w1]
      refine ⟨fun c1 => ?_, fun c1 => ?_⟩
      rotate_left
      · simp only [k_then]
        simp only [↓R1x, R2, R3, R4, TY, reduceIte, Nat.reduceEqDiff, Nat.reduceAdd, Nat.reduceMul, Nat.reduceLT, Nat.reduceLeDiff, reduceCtorEq, decide_true, decide_false, Int.reduceLE, Int.reduceLT, Int.reduceToNat, Int.reduceAdd, Int.reduceSub, Int.reduceMul, Int.reduceEq, FE, S_size, q0, q1, q4, q6, q7, q8, b0, b1, hk, hk63, hfl, n0, n1, n2, h1, h2]
        refine tail _ _ ?_
        rw [hone, hnum, if_neg (fun h => c1 (by omega))]
        exact ⟨by simp, C1, C2, C3, C4, q0, q1, q4, q6, rfl⟩
      have l1 : k + n + 1 < l.length := by omega
      have l0 : k + n < l.length := by omega
      have d1 : byteAt (S l) ((k + n : Nat) : Int) = ((l[k + n].toNat : Nat) : Int) := S_at l0
      have d2 : byteAt (S l) ((k + n + 1 : Nat) : Int) = ((l[k + n + 1].toNat : Nat) : Int) := S_at l1
      have z1 : (0 : Int) ≤ ((k + n : Nat) : Int) := by omega
      have z2 : (0 : Int) ≤ ((k + n + 1 : Nat) : Int) := by omega
      rw [show l.getD (k + n) 0 = l[k + n] by simp [List.getD, l0], show l.getD (k + n + 1) 0 = l[k + n + 1] by simp [List.getD, l1]] at hnum
      simp only [↓R1x, R2, R3, R4, TY, reduceIte, Nat.reduceEqDiff, Nat.reduceAdd, Nat.reduceMul, Nat.reduceLT, Nat.reduceLeDiff, reduceCtorEq, decide_true, decide_false, Int.reduceLE, Int.reduceLT, Int.reduceToNat, Int.reduceAdd, Int.reduceSub, Int.reduceMul, Int.reduceEq, FE, S_size, q0, q1, q4, q6, q7, q8, b0, b1, hk, hk63, hfl, n0, n1, n2, h1, h2, l0, l1, d1, d2, w1, z1, z2]
      refine ⟨fun c2 => ?_, fun c2 => ?_⟩
      rotate_left
      · simp only [k_then]
        simp only [↓R1x, R2, R3, R4, TY, reduceIte, Nat.reduceEqDiff, Nat.reduceAdd, Nat.reduceMul, Nat.reduceLT, Nat.reduceLeDiff, reduceCtorEq, decide_true, decide_false, Int.reduceLE, Int.reduceLT, Int.reduceToNat, Int.reduceAdd, Int.reduceSub, Int.reduceMul, Int.reduceEq, FE, S_size, q0, q1, q4, q6, q7, q8, b0, b1, hk, hk63, hfl, n0, n1, n2, h1, h2]
        refine tail _ _ ?_
        rw [hone, hnum, if_neg (fun h => c2 (by rw [h.2.1]; rfl))]
        exact ⟨by simp, C1, C2, C3, C4, q0, q1, q4, q6, rfl⟩
      have c2' : l[k + n] = 47 := UInt8.toNat_inj.1 (by simp; omega)
      refine call_of (digit_ok _) ?_
      cases c3 : pDig l[k + n + 1]
      · simp only [↓R1x, R2, R3, R4, TY, reduceIte, Nat.reduceEqDiff, Nat.reduceAdd, Nat.reduceMul, Nat.reduceLT, Nat.reduceLeDiff, reduceCtorEq, decide_true, decide_false, Int.reduceLE, Int.reduceLT, Int.reduceToNat, Int.reduceAdd, Int.reduceSub, Int.reduceMul, Int.reduceEq, FE, S_size, q0, q1, q4, q6, q7, q8, b0, b1, hk, hk63, hfl, n0, n1, n2, h1, h2, c3]
        simp only [k_then]
        simp only [↓R1x, R2, R3, R4, TY, reduceIte, Nat.reduceEqDiff, Nat.reduceAdd, Nat.reduceMul, Nat.reduceLT, Nat.reduceLeDiff, reduceCtorEq, decide_true, decide_false, Int.reduceLE, Int.reduceLT, Int.reduceToNat, Int.reduceAdd, Int.reduceSub, Int.reduceMul, Int.reduceEq, FE, S_size, q0, q1, q4, q6, q7, q8, b0, b1, hk, hk63, hfl, n0, n1, n2, h1, h2, c3]
        refine tail _ _ ?_
        rw [hone, hnum, if_neg (fun h => by rw [c3] at h; cases h.2.2)]
        exact ⟨by simp, C1, C2, C3, C4, q0, q1, q4, q6, rfl⟩
      · simp only [↓R1x, R2, R3, R4, TY, reduceIte, Nat.reduceEqDiff, Nat.reduceAdd, Nat.reduceMul, Nat.reduceLT, Nat.reduceLeDiff, reduceCtorEq, decide_true, decide_false, Int.reduceLE, Int.reduceLT, Int.reduceToNat, Int.reduceAdd, Int.reduceSub, Int.reduceMul, Int.reduceEq, FE, S_size, q0, q1, q4, q6, q7, q8, b0, b1, hk, hk63, hfl, n0, n1, n2, h1, h2, c3]
        simp only [k_then]
        simp only [↓R1x, R2, R3, R4, TY, reduceIte, Nat.reduceEqDiff, Nat.reduceAdd, Nat.reduceMul, Nat.reduceLT, Nat.reduceLeDiff, reduceCtorEq, decide_true, decide_false, Int.reduceLE, Int.reduceLT, Int.reduceToNat, Int.reduceAdd, Int.reduceSub, Int.reduceMul, Int.reduceEq, FE, S_size, q0, q1, q4, q6, q7, q8, b0, b1, hk, hk63, hfl, n0, n1, n2, h1, h2, c3, w1]
        have r3 := run_ok (G := G) (fl := fl) (A := B.put (A.next + 1) (.row [Value.int .i64 2, .int .i64 (k : Int), .string (S [])] 0 3)) (g := 38) (p := pDig) (fun b fl A => digit_ok b) hl (k := k + n + 1) (Nat.le_of_lt l1)
        refine call_of r3 ?_
        simp only [↓R1x, R2, R3, R4, TY, reduceIte, Nat.reduceEqDiff, Nat.reduceAdd, Nat.reduceMul, Nat.reduceLT, Nat.reduceLeDiff, reduceCtorEq, decide_true, decide_false, Int.reduceLE, Int.reduceLT, Int.reduceToNat, Int.reduceAdd, Int.reduceSub, Int.reduceMul, Int.reduceEq, FE, S_size, q0, q1, q4, q6, q7, q8, b0, b1, hk, hk63, hfl, n0, n1, n2, h1, h2, c3]
        refine tail _ _ ?_
        rw [hone, hnum, if_pos ⟨by omega, c2', c3⟩]
        refine ⟨by simp, C1, C2, C3, C4, q0, q1, q4, q6, ?_⟩
        refine congrArg some (congrArg (Value.int _) ?_)
        simp only [Nat.add_assoc]
    have hone : pSgn l[k] = true → oneK (l.drop k) = (3, 1) := fun h => by rw [hdk, oneK, if_neg (by simp [h1]), if_neg (by simp [h2]), if_pos h]
    have hone0 : pSgn l[k] = false → oneK (l.drop k) = (0, 0) := fun h => by rw [hdk, oneK, if_neg (by simp [h1]), if_neg (by simp [h2]), if_neg (by simp [h])]
    simp only [↓R1x, R2, R3, R4, TY, reduceIte, Nat.reduceEqDiff, Nat.reduceAdd, Nat.reduceMul, Nat.reduceLT, Nat.reduceLeDiff, reduceCtorEq, decide_true, decide_false, Int.reduceLE, Int.reduceLT, Int.reduceToNat, Int.reduceAdd, Int.reduceSub, Int.reduceMul, Int.reduceEq, FE, S_size, q0, q1, q4, q6, q7, q8, b0, b1, hk, hk63, hfl, n0, n1, n2]
    refine call_of (letter_ok _) ?_
    simp only [↓R1x, R2, R3, R4, TY, reduceIte, Nat.reduceEqDiff, Nat.reduceAdd, Nat.reduceMul, Nat.reduceLT, Nat.reduceLeDiff, reduceCtorEq, decide_true, decide_false, Int.reduceLE, Int.reduceLT, Int.reduceToNat, Int.reduceAdd, Int.reduceSub, Int.reduceMul, Int.reduceEq, FE, S_size, q0, q1, q4, q6, q7, q8, b0, b1, hk, hk63, hfl, n0, n1, n2, h1]
    simp only [k_then]
    simp only [↓R1x, R2, R3, R4, TY, reduceIte, Nat.reduceEqDiff, Nat.reduceAdd, Nat.reduceMul, Nat.reduceLT, Nat.reduceLeDiff, reduceCtorEq, decide_true, decide_false, Int.reduceLE, Int.reduceLT, Int.reduceToNat, Int.reduceAdd, Int.reduceSub, Int.reduceMul, Int.reduceEq, FE, S_size, q0, q1, q4, q6, q7, q8, b0, b1, hk, hk63, hfl, n0, n1, n2, h1]
    refine call_of (digit_ok _) ?_
    simp only [↓R1x, R2, R3, R4, TY, reduceIte, Nat.reduceEqDiff, Nat.reduceAdd, Nat.reduceMul, Nat.reduceLT, Nat.reduceLeDiff, reduceCtorEq, decide_true, decide_false, Int.reduceLE, Int.reduceLT, Int.reduceToNat, Int.reduceAdd, Int.reduceSub, Int.reduceMul, Int.reduceEq, FE, S_size, q0, q1, q4, q6, q7, q8, b0, b1, hk, hk63, hfl, n0, n1, n2, h1, h2]
    simp only [k_then]
    simp only [↓R1x, R2, R3, R4, TY, reduceIte, Nat.reduceEqDiff, Nat.reduceAdd, Nat.reduceMul, Nat.reduceLT, Nat.reduceLeDiff, reduceCtorEq, decide_true, decide_false, Int.reduceLE, Int.reduceLT, Int.reduceToNat, Int.reduceAdd, Int.reduceSub, Int.reduceMul, Int.reduceEq, FE, S_size, q0, q1, q4, q6, q7, q8, b0, b1, hk, hk63, hfl, n0, n1, n2, h1, h2]
    refine call_of (sign_ok _) ?_
    cases h3 : pSgn l[k]
    · simp only [↓R1, R2, R3, R4, TY, reduceIte, Nat.reduceEqDiff, Nat.reduceAdd, Nat.reduceMul, Nat.reduceLT, Nat.reduceLeDiff, reduceCtorEq, decide_true, decide_false, Int.reduceLE, Int.reduceLT, Int.reduceToNat, Int.reduceAdd, Int.reduceSub, Int.reduceMul, Int.reduceEq, FE, S_size, q0, q1, q4, q6, q7, q8, b0, b1, hk, hk63, hfl, n0, n1, n2, h1, h2, h3]
      refine fin ⟨0, 0, []⟩ 15 _ ⟨fun id hid => by rw [Hp.put_blk, if_neg (by omega)]; exact hx.blk id hid, hx.next⟩ ?_ ?_
      · rw [oneW, oneE, hone0 h3]; rfl
      · rw [oneE, hone0 h3]; rfl
    · simp only [↓R1x, R2, R3, R4, TY, reduceIte, Nat.reduceEqDiff, Nat.reduceAdd, Nat.reduceMul, Nat.reduceLT, Nat.reduceLeDiff, reduceCtorEq, decide_true, decide_false, Int.reduceLE, Int.reduceLT, Int.reduceToNat, Int.reduceAdd, Int.reduceSub, Int.reduceMul, Int.reduceEq, FE, S_size, q0, q1, q4, q6, q7, q8, b0, b1, hk, hk63, hfl, n0, n1, n2, h1, h2, h3]
      simp only [k_then]
      simp only [↓R1x, R2, R3, R4, TY, reduceIte, Nat.reduceEqDiff, Nat.reduceAdd, Nat.reduceMul, Nat.reduceLT, Nat.reduceLeDiff, reduceCtorEq, decide_true, decide_false, Int.reduceLE, Int.reduceLT, Int.reduceToNat, Int.reduceAdd, Int.reduceSub, Int.reduceMul, Int.reduceEq, FE, S_size, q0, q1, q4, q6, q7, q8, b0, b1, hk, hk63, hfl, n0, n1, n2, h1, h2, h3]
      refine tail _ _ ?_
      rw [hone h3]
      exact ⟨by simp, ⟨fun id hid => by rw [Hp.put_blk, if_neg (by omega)]; exact hx.blk id hid, hx.next⟩, hBn, by rw [Hp.put_blk, if_neg (by omega)]; exact b0, by rw [Hp.put_blk, if_pos rfl]; rfl, q0, q1, q4, q6, q7⟩
  clear q0 q1 q4 q6 q7 q8 b0 b1 hx hBn n0 n1 n2
  clear τ B
  rintro τ B ⟨hkd, hx, hBn, b0, b1, q0, q1, q4, q6, q7⟩
  have n0 : A.next < B.next := by omega
  have n1 : A.next + 1 < B.next := by omega
  have n2 : fl ≤ A.next + 1 := by omega
  have hle := oneK_le (l.drop k)
  rw [List.length_drop] at hle
  have w0 : (0 : Int) ≤ (k : Int) := by omega
  have w1 : k ≤ k + (oneK (l.drop k)).2 := by omega
  have w2 : k + (oneK (l.drop k)).2 ≤ l.length := by omega
  have w3 : (0 : Int) ≤ ((k + (oneK (l.drop k)).2 : Nat) : Int) := by omega
  have w4 : (l.drop k).take (k + (oneK (l.drop k)).2 - k) = (l.drop k).take (oneK (l.drop k)).2 := by rw [Nat.add_sub_cancel_left]
  simp only [↓R1x, R2, R3, R4, TY, reduceIte, Nat.reduceEqDiff, Nat.reduceAdd, Nat.reduceMul, Nat.reduceLT, Nat.reduceLeDiff, reduceCtorEq, decide_true, decide_false, Int.reduceLE, Int.reduceLT, Int.reduceToNat, Int.reduceAdd, Int.reduceSub, Int.reduceMul, Int.reduceEq, FE, S_size, S_extract, q0, q1, q4, q6, q7, b0, b1, hk, hk63, hfl, n0, n1, n2, w0, w1, w2, w3, w4]
  simp only [k_then]
  simp only [↓R1x, R2, R3, R4, TY, reduceIte, Nat.reduceEqDiff, Nat.reduceAdd, Nat.reduceMul, Nat.reduceLT, Nat.reduceLeDiff, reduceCtorEq, decide_true, decide_false, Int.reduceLE, Int.reduceLT, Int.reduceToNat, Int.reduceAdd, Int.reduceSub, Int.reduceMul, Int.reduceEq, FE, S_size, S_extract, q0, q1, q4, q6, q7, b0, b1, hk, hk63, hfl, n0, n1, n2, w0, w1, w2, w3, w4]
  have c32 : ∀ n : Nat, ((n : Int) = 1) = (n = 1) := fun n => propext (by omega)
  have c33 : ∀ n : Nat, ((n : Int) = 2) = (n = 2) := fun n => propext (by omega)
  have hE0 : oneE (l.drop k) = if (oneK (l.drop k)).1 = 0 then 15 else if (oneK (l.drop k)).1 = 1 ∧ nmB ((l.drop k).take (oneK (l.drop k)).2) = false then 2 else if (oneK (l.drop k)).1 = 2 ∧ nuB ((l.drop k).take (oneK (l.drop k)).2) = false then 2 else 0 := rfl
  rw [if_neg hkd] at hE0
  have hW0 : oneW (l.drop k) k = if oneE (l.drop k) = 0 then ⟨(oneK (l.drop k)).1, k, (l.drop k).take (oneK (l.drop k)).2⟩ else ⟨0, 0, []⟩ := rfl
  generalize htx : (l.drop k).take (oneK (l.drop k)).2 = tx at *
  have htl : tx.length < 9223372036854775807 := by rw [← htx]; simp; omega
  generalize (oneK (l.drop k)).1 = kd at *
  have hx1 : ∀ C : Hp, C = (B.put (A.next + 1) (.row [Value.int .i64 (kd : Int), .int .i64 (k : Int), .string (S tx)] 0 3)) → ∀ r, Xt A.next A (C.put A.next r) := by
    rintro C rfl r
    exact ⟨fun id hid => by rw [Hp.put_blk, if_neg (by omega), Hp.put_blk, if_neg (by omega)]; exact hx.blk id hid, hx.next⟩
  have d1 : ∀ (e : Nat) (C : Hp), e ≠ 0 → oneE (l.drop k) = e → Xt A.next A C → Ended A (.tuple [Value.agg (wC ⟨0, 0, []⟩).toArray, .int .i64 ((e : Nat) : Int)].toArray) C (.tuple [Value.agg (wC (oneW (l.drop k) k)).toArray, .int .i64 ((oneE (l.drop k) : Nat) : Int)].toArray) A :=
    fun e C he h hx => fin _ _ _ hx (by rw [hW0, h, if_neg he]) h.symm
  have d2 : ∀ (C : Hp), oneE (l.drop k) = 0 → Xt A.next A C → Ended A (.tuple [Value.agg (wC ⟨kd, k, tx⟩).toArray, .int .i64 ((0 : Nat) : Int)].toArray) C (.tuple [Value.agg (wC (oneW (l.drop k) k)).toArray, .int .i64 ((oneE (l.drop k) : Nat) : Int)].toArray) A :=
    fun C h hx => fin _ _ _ hx (by rw [hW0, h, if_pos rfl]) h.symm
  simp only [c32, c33]
  refine ⟨fun e1 => ?_, fun e1 => ⟨fun e2 => ?_, fun e2 => ?_⟩⟩
  · refine call_of (isName_ok _) ?_
    have hE1 := hE0
    cases hB : nmB tx
    · rw [if_pos ⟨e1, hB⟩] at hE1
      simp only [↓R1, R2, R3, R4, TY, reduceIte, Nat.reduceEqDiff, Nat.reduceAdd, Nat.reduceMul, Nat.reduceLT, Nat.reduceLeDiff, reduceCtorEq, decide_true, decide_false, Int.reduceLE, Int.reduceLT, Int.reduceToNat, Int.reduceAdd, Int.reduceSub, Int.reduceMul, Int.reduceEq, FE, S_size, S_extract, q0, q1, q4, q6, q7, b0, b1, hk, hk63, hfl, n0, n1, n2, w0, w1, w2, w3, w4, hB]
      exact d1 2 _ (by decide) hE1 (hx1 _ rfl _)
    · rw [if_neg (fun h => by rw [hB] at h; cases h.2), if_neg (fun h => by omega)] at hE1
      simp only [↓R1, R2, R3, R4, TY, reduceIte, Nat.reduceEqDiff, Nat.reduceAdd, Nat.reduceMul, Nat.reduceLT, Nat.reduceLeDiff, reduceCtorEq, decide_true, decide_false, Int.reduceLE, Int.reduceLT, Int.reduceToNat, Int.reduceAdd, Int.reduceSub, Int.reduceMul, Int.reduceEq, FE, S_size, S_extract, q0, q1, q4, q6, q7, b0, b1, hk, hk63, hfl, n0, n1, n2, w0, w1, w2, w3, w4, hB]
      exact ⟨fun h => absurd h (by omega), fun _ => d2 _ hE1 (hx1 _ rfl _)⟩
  · refine call_of (isNumber_ok _ htl) ?_
    have hE1 := hE0
    cases hB : nuB tx
    · rw [if_neg (fun h => by omega), if_pos ⟨e2, hB⟩] at hE1
      simp only [↓R1, R2, R3, R4, TY, reduceIte, Nat.reduceEqDiff, Nat.reduceAdd, Nat.reduceMul, Nat.reduceLT, Nat.reduceLeDiff, reduceCtorEq, decide_true, decide_false, Int.reduceLE, Int.reduceLT, Int.reduceToNat, Int.reduceAdd, Int.reduceSub, Int.reduceMul, Int.reduceEq, FE, S_size, S_extract, q0, q1, q4, q6, q7, b0, b1, hk, hk63, hfl, n0, n1, n2, w0, w1, w2, w3, w4, hB]
      exact d1 2 _ (by decide) hE1 (hx1 _ rfl _)
    · rw [if_neg (fun h => by omega), if_neg (fun h => by rw [hB] at h; cases h.2)] at hE1
      simp only [↓R1, R2, R3, R4, TY, reduceIte, Nat.reduceEqDiff, Nat.reduceAdd, Nat.reduceMul, Nat.reduceLT, Nat.reduceLeDiff, reduceCtorEq, decide_true, decide_false, Int.reduceLE, Int.reduceLT, Int.reduceToNat, Int.reduceAdd, Int.reduceSub, Int.reduceMul, Int.reduceEq, FE, S_size, S_extract, q0, q1, q4, q6, q7, b0, b1, hk, hk63, hfl, n0, n1, n2, w0, w1, w2, w3, w4, hB]
      exact d2 _ hE1 (hx1 _ rfl _)
  · rw [if_neg (fun h => e1 h.1), if_neg (fun h => e2 h.1)] at hE0
    simp only [↓R1, R2, R3, R4, TY, reduceIte, Nat.reduceEqDiff, Nat.reduceAdd, Nat.reduceMul, Nat.reduceLT, Nat.reduceLeDiff, reduceCtorEq, decide_true, decide_false, Int.reduceLE, Int.reduceLT, Int.reduceToNat, Int.reduceAdd, Int.reduceSub, Int.reduceMul, Int.reduceEq, FE, S_size, S_extract, q0, q1, q4, q6, q7, b0, b1, hk, hk63, hfl, n0, n1, n2, w0, w1, w2, w3, w4]
    exact d2 _ hE0 (hx1 _ rfl _)
end
end Go.Proofs.YtjgkodhadgfbmaaDoor.Ab
