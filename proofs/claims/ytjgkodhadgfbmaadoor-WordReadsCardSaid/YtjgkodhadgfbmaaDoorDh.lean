/- Words: the reference's reading byte by byte comes to the same words. -/
import Derived.Test.YtjgkodhadgfbmaaDoorDf
namespace Go.Proofs.YtjgkodhadgfbmaaDoor.Ab
open Go.RowKit
set_option linter.unusedVariables false
set_option linter.unusedSimpArgs false
set_option maxRecDepth 100000

def hd0 : List UInt8 → UInt8
  | [] => 0
  | c :: _ => c
theorem hd0_cons (c : UInt8) (r : List UInt8) : hd0 (c :: r) = c := rfl
def kdB (c : UInt8) : Nat := if pLet c then 1 else if pDig c then 2 else if pSgn c then 3 else 0
def headDig : List UInt8 → Bool
  | [] => false
  | x :: _ => pDig x
/-- Does a byte continue a word? -/
def moreB (t : List UInt8) (b : UInt8) (r : List UInt8) : Bool := (pLet (hd0 t) && pLet b) || (pDig (hd0 t) && (pDig b || (decide (b = 47) && !decide (47 ∈ t) && headDig r)))
/-- Is a word a word of its kind? -/
def valB (w : Wd) : Bool := if w.kind = 1 then nmB w.text else if w.kind = 2 then nuB w.text else decide (w.kind = 3 ∧ (w.text = [123] ∨ w.text = [125] ∨ w.text = [59]))
def consR (w : Wd) (R : List Wd × Nat) : List Wd × Nat := if R.2 ≠ 0 then ([], R.2) else (w :: R.1, 0)
def flW (t : List UInt8) (i : Nat) : Wd := ⟨kdB (hd0 t), i - t.length, t⟩
def flushR (t : List UInt8) (i : Nat) (R : List Wd × Nat) : List Wd × Nat := if valB (flW t i) then consR (flW t i) R else ([], 2)
def startR (b : UInt8) (w1 w2 w3 : List Wd × Nat) : List Wd × Nat := if kdB b ≠ 0 then w1 else if pBlk b then w3 else if b = 35 then w2 else ([], 15)
/-- What comes of the rest, with a state. -/
def wo : List UInt8 → Nat → Bool → List UInt8 → List Wd × Nat
  | [], i, c, t => if c = true ∨ t = [] then ([], 0) else flushR t i ([], 0)
  | b :: r, i, true, t => wo r (i + 1) (decide (b ≠ 10)) t
  | b :: r, i, false, t =>
    if t = [] then startR b (wo r (i + 1) false [b]) (wo r (i + 1) true []) (wo r (i + 1) false [])
    else if moreB t b r then wo r (i + 1) false (t ++ [b])
    else flushR t i (startR b (wo r (i + 1) false [b]) (wo r (i + 1) true []) (wo r (i + 1) false []))
theorem wo_start (b : UInt8) (r : List UInt8) (i : Nat) : wo (b :: r) i false [] = startR b (wo r (i + 1) false [b]) (wo r (i + 1) true []) (wo r (i + 1) false []) := by rw [wo, if_pos rfl]
theorem wo_flush {t d : List UInt8} {i : Nat} (ht : t ≠ []) (h : ∀ b r, d = b :: r → moreB t b r = false) : wo d i false t = flushR t i (wo d i false []) := by
  cases d with
  | nil => rw [wo, if_neg (by simp [ht]), wo, if_pos (.inr rfl)]
  | cons b r =>
    rw [wo, if_neg ht, if_neg (by simp [h b r rfl]), wo_start]
theorem wo_more {t r : List UInt8} {b : UInt8} {i : Nat} (ht : t ≠ []) (h : moreB t b r = true) : wo (b :: r) i false t = wo r (i + 1) false (t ++ [b]) := by
  rw [wo, if_neg ht, if_pos h]
theorem blk_kd {b : UInt8} (h : pBlk b = true) : kdB b = 0 := by
  have h' := of_decide_eq_true h
  have h1 : pLet b = false := decide_eq_false (by omega)
  have h2 : pDig b = false := decide_eq_false (by omega)
  have h3 : pSgn b = false := decide_eq_false (by omega)
  simp [kdB, h1, h2, h3]
theorem let_dig {b : UInt8} (h : pLet b = true) : pDig b = false := by
  have h' := of_decide_eq_true h
  exact decide_eq_false (by omega)
theorem dig_let {b : UInt8} (h : pDig b = true) : pLet b = false := by
  have h' := of_decide_eq_true h
  exact decide_eq_false (by omega)
theorem sgn_let {b : UInt8} (h : pSgn b = true) : pLet b = false ∧ pDig b = false := by
  have h' := of_decide_eq_true h
  exact ⟨decide_eq_false (by omega), decide_eq_false (by omega)⟩
theorem b35 : kdB 35 = 0 ∧ pBlk 35 = false := by decide
theorem u35 {b : UInt8} : b.toNat = 35 ↔ b = 35 := ⟨fun h => UInt8.toNat_inj.1 (by simpa using h), fun h => by rw [h]; rfl⟩
theorem u10 {b : UInt8} : b.toNat = 10 ↔ b = 10 := ⟨fun h => UInt8.toNat_inj.1 (by simpa using h), fun h => by rw [h]; rfl⟩
/-- Blanks and comments change nothing. -/
theorem wo_skip : ∀ (d : List UInt8) (i : Nat) (c : Bool), wo d i c [] = wo (d.drop (skL c d)) (i + skL c d) false []
  | [], i, c => by cases c <;> simp [wo, skL]
  | b :: r, i, false => by
    rw [skL]
    split
    · rename_i h
      rw [wo_start, startR, if_neg (by simp [blk_kd h]), if_pos h, wo_skip r (i + 1) false]
      rw [List.drop_succ_cons, Nat.add_assoc, Nat.add_comm 1]
    · rename_i h
      split
      · rename_i h2
        have h2 := u35.1 h2
        subst h2
        rw [wo_start, startR, if_neg (by decide), if_neg h, if_pos rfl, wo_skip r (i + 1) true]
        rw [List.drop_succ_cons, Nat.add_assoc, Nat.add_comm 1]
      · rfl
  | b :: r, i, true => by
    rw [skL, wo]
    split
    · rename_i h
      have h := u10.1 h
      rw [decide_eq_false (by simp [h]), wo_skip r (i + 1) false, List.drop_succ_cons, Nat.add_assoc, Nat.add_comm 1]
    · rename_i h
      have hne : b ≠ 10 := fun e => h (u10.2 e)
      rw [decide_eq_true hne, wo_skip r (i + 1) true, List.drop_succ_cons, Nat.add_assoc, Nat.add_comm 1]
theorem skL_skL : ∀ (c : Bool) (d : List UInt8), skL false (d.drop (skL c d)) = 0
  | c, [] => by cases c <;> rfl
  | false, b :: r => by
    rw [skL]
    split
    · rw [List.drop_succ_cons]; exact skL_skL false r
    · split
      · rw [List.drop_succ_cons]; exact skL_skL true r
      · rename_i h1 h2
        rw [List.drop_zero, skL, if_neg h1, if_neg h2]
  | true, b :: r => by
    rw [skL]
    split
    · rw [List.drop_succ_cons]; exact skL_skL false r
    · rw [List.drop_succ_cons]; exact skL_skL true r
theorem headD_app {t : List UInt8} (ht : t ≠ []) (b : UInt8) : hd0 (t ++ [b]) = hd0 t := by
  cases t with
  | nil => exact absurd rfl ht
  | cons x t => rfl
theorem runL_cons (p : UInt8 → Bool) (b : UInt8) (r : List UInt8) : runL p (b :: r) = if p b then runL p r + 1 else 0 := by
  unfold runL
  rw [List.takeWhile_cons]
  split <;> simp
/-- Letters go on. -/
theorem wo_let : ∀ (r t : List UInt8) (i : Nat), t ≠ [] → pLet (hd0 t) = true → wo r i false t = flushR (t ++ r.take (runL pLet r)) (i + runL pLet r) (wo (r.drop (runL pLet r)) (i + runL pLet r) false [])
  | [], t, i, ht, hp => by
    rw [wo_flush ht (fun b r h => by cases h)]; simp [runL]
  | b :: r, t, i, ht, hp => by
    rw [runL_cons]
    cases hb : pLet b
    · simp only [Bool.false_eq_true, if_false, List.take_zero, List.append_nil, Nat.add_zero, List.drop_zero]
      refine wo_flush ht fun b' r' h => ?_
      cases h
      simp [moreB, hb, let_dig hp]
    · simp only [if_true]
      rw [wo_more ht (by simp [moreB, hb, hp]), wo_let r (t ++ [b]) (i + 1) (by simp) (by rw [headD_app ht]; exact hp)]
      simp only [List.append_assoc, List.singleton_append, List.take_succ_cons, List.drop_succ_cons]
      rw [show i + 1 + runL pLet r = i + (runL pLet r + 1) by omega]
/-- Digits behind the stroke go on. -/
theorem wo_dig2 : ∀ (r t : List UInt8) (i : Nat), t ≠ [] → pDig (hd0 t) = true → 47 ∈ t → wo r i false t = flushR (t ++ r.take (runL pDig r)) (i + runL pDig r) (wo (r.drop (runL pDig r)) (i + runL pDig r) false [])
  | [], t, i, ht, hp, hs => by
    rw [wo_flush ht (fun b r h => by cases h)]; simp [runL]
  | b :: r, t, i, ht, hp, hs => by
    rw [runL_cons]
    cases hb : pDig b
    · simp only [Bool.false_eq_true, if_false, List.take_zero, List.append_nil, Nat.add_zero, List.drop_zero]
      refine wo_flush ht fun b' r' h => ?_
      cases h
      simp [moreB, hb, dig_let hp, hs]
    · simp only [if_true]
      rw [wo_more ht (by simp [moreB, hb, hp]), wo_dig2 r (t ++ [b]) (i + 1) (by simp) (by rw [headD_app ht]; exact hp) (by simp [hs])]
      simp only [List.append_assoc, List.singleton_append, List.take_succ_cons, List.drop_succ_cons]
      rw [show i + 1 + runL pDig r = i + (runL pDig r + 1) by omega]
theorem numL_dig {b : UInt8} (h : pDig b = true) (r : List UInt8) : numL (b :: r) = numL r + 1 := by
  unfold numL
  rw [runL_cons, if_pos h]
  simp only [List.length_cons, List.getD_cons_succ, List.drop_succ_cons]
  by_cases h2 : runL pDig r + 1 < r.length ∧ r.getD (runL pDig r) 0 = 47 ∧ pDig (r.getD (runL pDig r + 1) 0) = true
  · rw [if_pos h2, if_pos ⟨by omega, h2.2⟩]; omega
  · rw [if_neg h2, if_neg (fun h3 => h2 ⟨by omega, h3.2⟩)]
theorem numL_slash {b : UInt8} (h : pDig b = false) (r : List UInt8) : numL (b :: r) = if b = 47 ∧ headDig r = true then 1 + runL pDig r else 0 := by
  have h0 : runL pDig (b :: r) = 0 := by rw [runL_cons, if_neg (by simp [h])]
  unfold numL
  rw [h0]
  cases r with
  | nil => simp [headDig]
  | cons x r =>
    rw [show headDig (x :: r) = pDig x from rfl]
    simp only [List.length_cons, List.getD_cons_zero, List.getD_cons_succ, List.drop_succ_cons, List.drop_zero, Nat.zero_add]
    by_cases hc : b = 47 ∧ pDig x = true
    · rw [if_pos hc, if_pos ⟨by omega, hc⟩]
    · rw [if_neg hc, if_neg (fun h => hc h.2)]
/-- Digits go on. -/
theorem wo_dig : ∀ (r t : List UInt8) (i : Nat), t ≠ [] → pDig (hd0 t) = true → 47 ∉ t → wo r i false t = flushR (t ++ r.take (numL r)) (i + numL r) (wo (r.drop (numL r)) (i + numL r) false [])
  | [], t, i, ht, hp, hs => by
    rw [wo_flush ht (fun b r h => by cases h)]; simp [numL, runL]
  | b :: r, t, i, ht, hp, hs => by
    cases hb : pDig b
    · rw [numL_slash hb]
      by_cases hc : b = 47 ∧ headDig r = true
      · rw [if_pos hc, wo_more ht (by simp [moreB, hp, hc.1, hc.2, hs]), wo_dig2 r (t ++ [b]) (i + 1) (by simp) (by rw [headD_app ht]; exact hp) (by simp [hc.1])]
        rw [Nat.add_comm 1 (runL pDig r)]
        simp only [List.append_assoc, List.singleton_append, List.take_succ_cons, List.drop_succ_cons]
        rw [show i + 1 + runL pDig r = i + (runL pDig r + 1) by omega]
      · rw [if_neg hc]
        simp only [List.take_zero, List.append_nil, Nat.add_zero, List.drop_zero]
        refine wo_flush ht fun b' r' h => ?_
        cases h
        simp only [moreB, hb, dig_let hp, Bool.false_and, Bool.false_or, Bool.and_eq_false_iff]
        by_cases h1 : b = 47
        · exact .inr (.inr (by cases hh : headDig r with | true => exact absurd ⟨h1, hh⟩ hc | false => rfl))
        · exact .inr (.inl (.inl (by simp [h1])))
    · rw [numL_dig hb, wo_more ht (by simp [moreB, hb, hp]), wo_dig r (t ++ [b]) (i + 1) (by simp) (by rw [headD_app ht]; exact hp) (by
        have : b ≠ 47 := fun e => by rw [e] at hb; revert hb; decide
        simp [hs, Ne.symm this])]
      simp only [List.append_assoc, List.singleton_append, List.take_succ_cons, List.drop_succ_cons]
      rw [show i + 1 + numL r = i + (numL r + 1) by omega]
/-- One word. -/
theorem wo_one {c : UInt8} {r : List UInt8} {i : Nat} (h : kdB c ≠ 0) : wo (c :: r) i false [] = flushR ((c :: r).take (oneK (c :: r)).2) (i + (oneK (c :: r)).2) (wo ((c :: r).drop (oneK (c :: r)).2) (i + (oneK (c :: r)).2) false []) := by
  rw [wo_start, startR, if_pos h, oneK]
  have fin : ∀ n, (c :: r).take (n + 1) = [c] ++ r.take n := fun n => by simp
  cases h1 : pLet c
  · cases h2 : pDig c
    · cases h3 : pSgn c
      · simp [kdB, h1, h2, h3] at h
      · simp only [Bool.false_eq_true, if_false, if_true]
        rw [wo_flush (by simp) (fun b' r' _ => by simp [moreB, hd0_cons, h1, h2])]
        rfl
    · simp only [Bool.false_eq_true, if_false, if_true]
      have h47 : (47 : UInt8) ∉ [c] := fun e => by
        have : c = 47 := by simpa [eq_comm] using e
        rw [this] at h2; revert h2; decide
      rw [numL_dig h2, wo_dig r [c] (i + 1) (by simp) h2 h47, fin, List.drop_succ_cons, show i + 1 + numL r = i + (numL r + 1) by omega]
  · simp only [if_true]
    rw [runL_cons, if_pos h1, wo_let r [c] (i + 1) (by simp) h1, fin, List.drop_succ_cons, show i + 1 + runL pLet r = i + (runL pLet r + 1) by omega]
theorem oneK_kd (c : UInt8) (r : List UInt8) : (oneK (c :: r)).1 = kdB c := by
  rw [oneK, kdB]
  split
  · rfl
  · split
    · rfl
    · split <;> rfl
theorem oneK_pos2 {c : UInt8} {r : List UInt8} (h : kdB c ≠ 0) : 0 < (oneK (c :: r)).2 := by
  rw [oneK]
  split
  · rename_i h1; rw [runL_cons, if_pos h1]; simp
  · split
    · rename_i h1 h2; rw [numL_dig h2]; simp
    · split
      · simp
      · rename_i h1 h2 h3; exact absurd (by simp [kdB, h1, h2, h3]) h
theorem val_one {c : UInt8} {r : List UInt8} {i : Nat} (h : kdB c ≠ 0) : valB (flW ((c :: r).take (oneK (c :: r)).2) (i + (oneK (c :: r)).2)) = decide (oneE (c :: r) = 0) ∧ (oneE (c :: r) ≠ 0 → oneE (c :: r) = 2) ∧
    (oneE (c :: r) = 0 → flW ((c :: r).take (oneK (c :: r)).2) (i + (oneK (c :: r)).2) = oneW (c :: r) i) := by
  have hp := oneK_pos2 (r := r) h
  have hle := oneK_le (c :: r)
  have hk := oneK_kd c r
  have hE : oneE (c :: r) = if (oneK (c :: r)).1 = 0 then 15 else if (oneK (c :: r)).1 = 1 ∧ nmB ((c :: r).take (oneK (c :: r)).2) = false then 2 else if (oneK (c :: r)).1 = 2 ∧ nuB ((c :: r).take (oneK (c :: r)).2) = false then 2 else 0 := rfl
  have hW : oneW (c :: r) i = if oneE (c :: r) = 0 then ⟨(oneK (c :: r)).1, i, (c :: r).take (oneK (c :: r)).2⟩ else ⟨0, 0, []⟩ := rfl
  have h3 : kdB c = 3 → (oneK (c :: r)).2 = 1 ∧ (c = 123 ∨ c = 125 ∨ c = 59) := by
    intro h3
    have hl : pLet c = false := by cases hl : pLet c with | true => simp [kdB, hl] at h3 | false => rfl
    have hd : pDig c = false := by cases hd : pDig c with | true => simp [kdB, hl, hd] at h3 | false => rfl
    have hs : pSgn c = true := by cases hs : pSgn c with | true => rfl | false => simp [kdB, hl, hd, hs] at h3
    refine ⟨by simp [oneK, hl, hd, hs], ?_⟩
    have hs' := of_decide_eq_true hs
    rcases hs' with e | e | e
    · exact .inl (UInt8.toNat_inj.1 (by simpa using e))
    · exact .inr (.inl (UInt8.toNat_inj.1 (by simpa using e)))
    · exact .inr (.inr (UInt8.toNat_inj.1 (by simpa using e)))
  have hkc : kdB c = 1 ∨ kdB c = 2 ∨ kdB c = 3 := by
    unfold kdB at h ⊢
    split
    · simp
    · split
      · simp
      · split
        · simp
        · rename_i h1 h2 h3; simp [h1, h2, h3] at h
  have hhd : hd0 ((c :: r).take (oneK (c :: r)).2) = c := by
    obtain ⟨m, hm⟩ : ∃ m, (oneK (c :: r)).2 = m + 1 := ⟨_, (Nat.succ_pred_eq_of_pos hp).symm⟩
    rw [hm]; rfl
  have hlen : ((c :: r).take (oneK (c :: r)).2).length = (oneK (c :: r)).2 := by rw [List.length_take]; omega
  have hfl : flW ((c :: r).take (oneK (c :: r)).2) (i + (oneK (c :: r)).2) = ⟨kdB c, i, (c :: r).take (oneK (c :: r)).2⟩ := by
    rw [flW, hhd, hlen, Nat.add_sub_cancel]
  rw [hk, if_neg h] at hE
  rw [hk] at hW
  rw [hfl, hW]
  have htx : (oneK (c :: r)).2 = 1 → (c :: r).take (oneK (c :: r)).2 = [c] := fun e => by rw [e]; rfl
  generalize (c :: r).take (oneK (c :: r)).2 = tx at *
  have hV : valB ⟨kdB c, i, tx⟩ = if kdB c = 1 then nmB tx else if kdB c = 2 then nuB tx else decide (kdB c = 3 ∧ (tx = [123] ∨ tx = [125] ∨ tx = [59])) := rfl
  rw [hV]
  rcases hkc with e | e | e
  · rw [e] at hE ⊢
    cases hn : nmB tx
    · simp [hn] at hE; simp [hE]
    · simp [hn] at hE; simp [hE]
  · rw [e] at hE ⊢
    cases hn : nuB tx
    · simp [hn] at hE; simp [hE]
    · simp [hn] at hE; simp [hE]
  · obtain ⟨e1, e2⟩ := h3 e
    rw [e] at hE ⊢
    simp at hE
    rw [htx e1]
    simp [hE]
    exact e2
theorem wo_rdS : ∀ (f : Nat) (d : List UInt8) (i : Nat), d.length < f → skL false d = 0 → wo d i false [] = rdS f d i
  | 0, d, i, h, _ => absurd h (Nat.not_lt_zero _)
  | f + 1, [], i, _, _ => by rw [wo, if_pos (.inr rfl)]; rfl
  | f + 1, c :: r, i, hf, hs => by
    have hnb : pBlk c = false := by
      cases hb : pBlk c with
      | true => rw [skL, if_pos hb] at hs; cases hs
      | false => rfl
    have hn35 : c ≠ 35 := by
      rintro rfl
      rw [skL, if_neg (by simp [hnb]), if_pos (by decide)] at hs; cases hs
    by_cases hk : kdB c = 0
    · have hE : oneE (c :: r) = 15 := by rw [oneE, oneK_kd, if_pos hk]
      rw [wo_start, startR, if_neg (by simp [hk]), if_neg (by simp [hnb]), if_neg hn35, rdS, if_pos (by rw [hE]; decide), hE]
    · obtain ⟨v1, v2, v3⟩ := val_one (r := r) (i := i) hk
      have hp := oneK_pos2 (r := r) hk
      rw [wo_one hk, flushR, v1]
      by_cases hE : oneE (c :: r) = 0
      · rw [if_pos (by simp [hE]), v3 hE, wo_skip, consR]
        have ih := wo_rdS f (((c :: r).drop (oneK (c :: r)).2).drop (skL false ((c :: r).drop (oneK (c :: r)).2))) (i + (oneK (c :: r)).2 + skL false ((c :: r).drop (oneK (c :: r)).2)) (by
          simp only [List.length_drop, List.length_cons] at hf ⊢; omega) (skL_skL _ _)
        rw [ih, rdS, if_neg (c := oneE (c :: r) ≠ 0) (by simpa using hE)]
        simp only [List.drop_drop, Nat.add_assoc]
      · rw [if_neg (by simp [hE]), rdS, if_pos hE, v2 hE]
theorem wo_read {l : List UInt8} (hl : l.length ≤ 4096) : wo l 0 false [] = readR l := by
  rw [readR, if_neg (by omega), wo_skip l 0 false, Nat.zero_add]
  refine wo_rdS _ _ _ ?_ (skL_skL _ _)
  rw [List.length_drop]; omega
end Go.Proofs.YtjgkodhadgfbmaaDoor.Ab
