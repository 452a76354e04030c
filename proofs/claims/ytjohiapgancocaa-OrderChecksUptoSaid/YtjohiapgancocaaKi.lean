/- Orders: Pick. -/
import Derived.Test.YtjohiapgancocaaKh
namespace Go.Proofs.Ytjohiapgancocaa.Ab
open Go.RowKit
set_option linter.unusedVariables false
set_option linter.unusedSimpArgs false
set_option maxRecDepth 100000

/-- Is a step ready, these done. -/
def isR (ls : List (List Int)) (d : List Int) (k : Nat) : Bool := !decide ((k : Int) ∈ d) && !decide (∃ x ∈ ls.getD k [], (!decide (x ∈ d)) = true)
def rdyP (ls : List (List Int)) (d : List Int) (k : Nat) : List Int := ((List.range k).filter (isR ls d)).map fun (j : Nat) => (j : Int)
def rdy (ls : List (List Int)) (d : List Int) : List Int := rdyP ls d ls.length
/-- Which of the ready ones is picked. -/
def pix (bs d r : List Int) : Int := if d.length < bs.length then (if Int.tmod (bs.getD d.length 0) r.length < 0 then Int.tmod (bs.getD d.length 0) r.length + r.length else Int.tmod (bs.getD d.length 0) r.length) else 0
def pk (ls : List (List Int)) (bs : List Int) : Nat → List Int
  | 0 => []
  | m + 1 => pk ls bs m ++ [(rdy ls (pk ls bs m)).getD (pix bs (pk ls bs m) (rdy ls (pk ls bs m))).toNat 0]
theorem pk_len {ls : List (List Int)} {bs : List Int} : ∀ {m : Nat}, (pk ls bs m).length = m
  | 0 => rfl
  | m + 1 => by rw [pk, List.length_append, pk_len]; rfl
theorem rdyP_succ {ls : List (List Int)} {d : List Int} {k : Nat} : rdyP ls d (k + 1) = rdyP ls d k ++ if isR ls d k = true then [(k : Int)] else [] := by
  unfold rdyP
  rw [List.range_succ, List.filter_append, List.map_append]
  congr 1
  by_cases h : isR ls d k = true
  · rw [List.filter_cons, h, if_pos rfl, if_pos rfl]; rfl
  · rw [List.filter_cons, if_neg h, if_neg h]; rfl
theorem rdyP_len {ls : List (List Int)} {d : List Int} {k : Nat} : (rdyP ls d k).length ≤ k := by
  unfold rdyP
  rw [List.length_map]
  have := List.length_filter_le (isR ls d) (List.range k)
  rw [List.length_range] at this
  exact this

section
variable {G : Gl} {fl : Nat} {A : Hp}
set_option maxHeartbeats 8000000 in
theorem pick_ok {v u : Value} {ls : List (List Int)} {bs : List Int} (h : Nst A v ls) (hmx : ∀ k, k < ls.length → (ls.getD k []).length ≤ 9223372036854775807) (hu : Sl A 1 u (bs.map iC)) (hlb : bs.length < 9223372036854775807) (hb0 : befF ls = 0)
    (hne : ∀ m, m < ls.length → rdy ls (pk ls bs m) ≠ []) :
    Sound Try.prog G 33 [v, u] fl A (.tuple [nlV A ((pk ls bs ls.length).map iC), .int .i64 0].toArray) (nlH A 1 ((pk ls bs ls.length).map iC)) := by
  refine Sound.of mixed Try.func33 Try.ntmps33 Try.results33 (by kernel_rfl) rfl (by kernel_rfl) (by kernel_rfl) fun hA => ?_
  have cc := fun fl => check_ok (G := G) (fl := fl) h hmx
  obtain ⟨vs, hs, hl, hr⟩ := h
  obtain ⟨o, c, rfl⟩ := hs.len
  rw [List.length_map, hl] at hs cc ⊢
  obtain ⟨o2, c2, rfl⟩ := hu.len
  rw [List.length_map] at hu ⊢
  rw [hb0] at cc
  have hn := (befF_dag hb0).len
  have hfl := hA.floor
  simp only [↓R1, R2, R3, R4, TY, reduceIte, Nat.reduceEqDiff, Nat.reduceAdd, Nat.reduceMul, Nat.reduceLT, Nat.reduceLeDiff, reduceCtorEq, decide_true, decide_false, Int.reduceLE, Int.reduceLT, Int.reduceToNat, Int.reduceAdd, Int.reduceSub, Int.reduceMul, Int.reduceEq, FE]
  refine call_of (cc _) ?_
  simp only [↓R1, R2, R3, R4, TY, reduceIte, Nat.reduceEqDiff, Nat.reduceAdd, Nat.reduceMul, Nat.reduceLT, Nat.reduceLeDiff, reduceCtorEq, decide_true, decide_false, Int.reduceLE, Int.reduceLT, Int.reduceToNat, Int.reduceAdd, Int.reduceSub, Int.reduceMul, Int.reduceEq, FE]
  refine loop_of (fun τ B => ∃ m sb, m ≤ ls.length ∧ Xt A.next A B ∧ A.next < B.next ∧ B.blk A.next = some (.row [sb] 0 1) ∧ Acn B (A.next + 1) 1 sb ((pk ls bs m).map iC) ∧
      τ 0 = some (.slice o ls.length c) ∧ τ 1 = some (.slice o2 bs.length c2) ∧ τ 7 = some (.pointer (some ⟨A.next, 0, some 0⟩))) (fun _ B => match B.blk A.next with | some (.row [.slice _ m _] _ _) => ls.length - m | _ => 0) ?_ ?_
  · exact ⟨0, .slice none 0 0, by omega, (Xt.refl A).push _, by simp, by simp [Hp.push_blk], Acn.none, rfl, rfl, rfl⟩
  rintro τ B ⟨m, sb, hm, hx, hAB, hrow, hac, q0, q1, q7⟩
  have g7 : ∀ j, B.get G ⟨A.next, j, some 0⟩ = ([sb] : List Value)[j]? := fun j => by simp only [Hp.get, hrow, if_true]
  obtain ⟨os, cs, es⟩ := hac.sl.len
  rw [List.length_map, pk_len] at es
  subst es
  simp only [↓R1, R2, R3, R4, TY, reduceIte, Nat.reduceEqDiff, Nat.reduceAdd, Nat.reduceMul, Nat.reduceLT, Nat.reduceLeDiff, reduceCtorEq, decide_true, decide_false, Int.reduceLE, Int.reduceLT, Int.reduceToNat, Int.reduceAdd, Int.reduceSub, Int.reduceMul, Int.reduceEq, FE, q0, q1, q7, g7]
  refine ⟨fun hlt => ?_, fun hlt => ?_⟩
  rotate_left
  · obtain rfl : m = ls.length := by omega
    exact Ended.acnT hA hx (hac.lower (by omega)) (i_rb _) (fun u hu => by simp at hu; subst hu; exact RB.int _ _)
  obtain ⟨d, hd⟩ : ∃ d, d = pk ls bs m := ⟨_, rfl⟩
  have dl : d.length = m := by rw [hd, pk_len]
  rw [← hd] at hac
  have hxn := hx.next
  refine range_of 24 ls.length (fun k τ D => ∃ rb, Xt B.next B D ∧ Acn D B.next 1 rb ((rdyP ls d k).map iC) ∧ τ 0 = some (.slice o ls.length c) ∧ τ 1 = some (.slice o2 bs.length c2) ∧ τ 7 = some (.pointer (some ⟨A.next, 0, some 0⟩)) ∧ τ 8 = some rb ∧
      τ 22 = some (.slice o ls.length c) ∧ τ 23 = some (.int .i64 ls.length) ∧ τ 24 = some (.int .i64 k)) ?_ ?_
  · exact ⟨_, Xt.refl _, Acn.none, q0, q1, q7, rfl, rfl, rfl, rfl⟩
  rintro k τ D hk ⟨rb, hxD, hacr, q0, q1, q7, q8, q22, q23, q24⟩
  have hxDn := hxD.next
  have rowD : D.blk A.next = some (.row [.slice os m cs] 0 1) := by rw [hxD.blk _ hAB]; exact hrow
  have g7 : ∀ j, D.get G ⟨A.next, j, some 0⟩ = ([.slice os m cs] : List Value)[j]? := fun j => by simp only [Hp.get, rowD, if_true]
  have hacD := hac.xt hxD
  have sdD := hacD.sl
  simp only [↓R1, R2, R3, R4, TY, reduceIte, Nat.reduceEqDiff, Nat.reduceAdd, Nat.reduceMul, Nat.reduceLT, Nat.reduceLeDiff, reduceCtorEq, decide_true, decide_false, Int.reduceLE, Int.reduceLT, Int.reduceToNat, Int.reduceAdd, Int.reduceSub, Int.reduceMul, Int.reduceEq, FE, q0, q1, q7, q8, q22, q23, q24, g7]
  refine ⟨fun hlk => ?_, fun hlk => ?_⟩
  · obtain ⟨a, rfl, -⟩ := hs.at (G := G) (i := k) (by simpa [hl] using hlk)
    have hab : a.block < D.next := Nat.lt_of_lt_of_le (hs.lt hA) (by omega)
    have hAD : Xt A.next A D := hx.trans hxD
    have u0 := row_get (G := G) (hs.xt hA hAD) (i := k) (by omega)
    have hsr := (hr k (by omega) hlk).xt hA hAD
    obtain ⟨o1, c1, e1⟩ := hsr.len
    rw [e1, List.length_map] at hsr
    rw [e1, List.length_map] at u0
    have hL := hmx k hlk
    have hisR : isR ls d k = (!decide ((k : Int) ∈ d) && !decide (∃ x ∈ ls.getD k [], (!decide (x ∈ d)) = true)) := rfl
    rw [getD_row hlk] at hL hisR
    generalize hrw : ls[k] = l at *
    have ct := fun fl => icontains_ok (G := G) (fl := fl) sdD (by omega) (k : Int)
    have cf := fun fl => icontainsFunc_ok (G := G) (fl := fl) (f := 51) (w := .pointer (some ⟨A.next, 0, some 0⟩)) (p := fun x => !decide (x ∈ d)) hsr hL (fun x fl => pick1_ok rowD (by omega) sdD (by omega))
    have hk63 : k < 9223372036854775807 := by omega
    have k24 := q24
    simp only [↓R1, R2, R3, R4, TY, reduceIte, Nat.reduceEqDiff, Nat.reduceAdd, Nat.reduceMul, Nat.reduceLT, Nat.reduceLeDiff, reduceCtorEq, decide_true, decide_false, Int.reduceLE, Int.reduceLT, Int.reduceToNat, Int.reduceAdd, Int.reduceSub, Int.reduceMul, Int.reduceEq, FE, q0, q1, q7, q8, q22, q23, q24, g7, hlk, hab, u0, hk63, Nat.mul_one]
    refine call_of (ct _) ?_
    simp only [↓R1, R2, R3, R4, TY, reduceIte, Nat.reduceEqDiff, Nat.reduceAdd, Nat.reduceMul, Nat.reduceLT, Nat.reduceLeDiff, reduceCtorEq, decide_true, decide_false, Int.reduceLE, Int.reduceLT, Int.reduceToNat, Int.reduceAdd, Int.reduceSub, Int.reduceMul, Int.reduceEq, FE, q0, q1, q7, q8, q22, q23, q24, g7, hlk, hab, u0, hk63, Nat.mul_one]
    have rl := rdyP_len (ls := ls) (d := d) (k := k)
    refine ⟨fun h1 => ?_, fun h1 => ?_⟩
    · refine range_on k24 hlk rfl ⟨rb, hxD, ?_, q0, q1, q7, q8, q22, q23, rfl⟩
      rw [rdyP_succ, if_neg (by rw [hisR]; simp [h1]), List.append_nil]; exact hacr
    refine call_of (cf _) ?_
    simp only [↓R1, R2, R3, R4, TY, reduceIte, Nat.reduceEqDiff, Nat.reduceAdd, Nat.reduceMul, Nat.reduceLT, Nat.reduceLeDiff, reduceCtorEq, decide_true, decide_false, Int.reduceLE, Int.reduceLT, Int.reduceToNat, Int.reduceAdd, Int.reduceSub, Int.reduceMul, Int.reduceEq, FE, q0, q1, q7, q8, q22, q23, q24, g7, hk63]
    have zs : (1 ≤ (zl [Value.int .i64 0] 1).length) = True := eq_true (by decide)
    have zw : zl [Value.int .i64 0] 1 = [Value.int .i64 0] := rfl
    refine ⟨fun h2 => ?_, fun h2 => ?_⟩
    · refine range_on k24 hlk rfl ⟨rb, hxD, ?_, q0, q1, q7, q8, q22, q23, rfl⟩
      rw [rdyP_succ, if_neg (by rw [hisR, decide_eq_true h2]; simp), List.append_nil]; exact hacr
    · simp only [↓R1, R2, R3, R4, TY, reduceIte, Nat.reduceEqDiff, Nat.reduceAdd, Nat.reduceMul, Nat.reduceLT, Nat.reduceLeDiff, reduceCtorEq, decide_true, decide_false, Int.reduceLE, Int.reduceLT, Int.reduceToNat, Int.reduceAdd, Int.reduceSub, Int.reduceMul, Int.reduceEq, FE, q0, q1, q7, q8, q22, q23, q24, zs, zw]
      refine app1 (lo := B.next) (sz := 1) (cl := iC k) ty40 rfl ty3 rfl (by omega) rfl hacr (by omega) hxDn rfl (by simp [iC, Value.oneCell']) (by simp; omega) (by simp; omega) ?_
      intro rb' E hac' hxE hnE hfE hidE
      simp only [↓R1, R2, R3, R4, TY, reduceIte, Nat.reduceEqDiff, Nat.reduceAdd, Nat.reduceMul, Nat.reduceLT, Nat.reduceLeDiff, reduceCtorEq, decide_true, decide_false, Int.reduceLE, Int.reduceLT, Int.reduceToNat, Int.reduceAdd, Int.reduceSub, Int.reduceMul, Int.reduceEq, FE, q0, q1, q7, q8, q22, q23, q24, hk63]
      refine range_on k24 hlk rfl ⟨rb', ⟨fun id hid => (hxE.blk id hid).trans (hxD.blk id hid), by omega⟩, ?_, q0, q1, q7, rfl, q22, q23, rfl⟩
      rw [rdyP_succ, if_pos (by rw [hisR, decide_eq_false h1, decide_eq_false h2]; rfl), List.map_append]; exact hac'
  obtain rfl : k = ls.length := by omega
  have hr0 : rdyP ls d ls.length ≠ [] := by have := hne m hlt; rw [← hd] at this; exact this
  have hpk : pk ls bs (m + 1) = d ++ [(rdyP ls d ls.length).getD (pix bs d (rdyP ls d ls.length)).toNat 0] := by rw [pk, ← hd]; rfl
  have rl := rdyP_len (ls := ls) (d := d) (k := ls.length)
  generalize rdyP ls d ls.length = r at *
  have hrp : 0 < r.length := List.length_pos_iff.2 hr0
  obtain ⟨idr, gr, cr, rfl, hcr, hidr, hidrn, hbr⟩ := hacr.has (fun h => hr0 (List.map_eq_nil_iff.1 h))
  rw [List.length_map] at q8 hcr
  have hacr' := hacr.sl
  rw [List.length_map] at hacr'
  have hAD : Xt A.next A D := hx.trans hxD
  -- the place of what is picked
  have hpx : 0 ≤ pix bs d r ∧ pix bs d r < r.length := by
    unfold pix
    have h1 := Int.tmod_lt_of_pos (bs.getD d.length 0) (show (0 : Int) < r.length by omega)
    have h2 := Int.lt_tmod_of_pos (bs.getD d.length 0) (show (0 : Int) < r.length by omega)
    split
    · split <;> omega
    · omega
  have mb : (m < bs.length) = (d.length < bs.length) := by rw [dl]
  have hADn : A.next < D.next := by omega
  have zs : (1 ≤ (zl [Value.int .i64 0] 1).length) = True := eq_true (by decide)
  have zw : zl [Value.int .i64 0] 1 = [Value.int .i64 0] := rfl
  have lm : (r.map iC).length = r.length := List.length_map ..
  have rne : ((r.length : Int) = 0) = False := eq_false (by omega)
  have e0 : (0 ≤ pix bs d r) = True := eq_true hpx.1
  have e1 : (pix bs d r < (r.length : Int)) = True := eq_true hpx.2
  have v1 : D.get G ⟨idr, (pix bs d r).toNat, some gr⟩ = some (.int .i64 (r.getD (pix bs d r).toNat 0)) := by
    have := int_get (G := G) hacr' (i := (pix bs d r).toNat) (by omega)
    rw [← getD_at] at this
    simpa only [aadd, Nat.zero_add] using this
  refine ⟨fun h1 => ?_, fun h1 => ?_⟩
  · obtain ⟨a2, rfl, -⟩ := hu.at (G := G) (i := m) (by simpa using h1)
    have hab2 : a2.block < D.next := Nat.lt_of_lt_of_le (hu.lt hA) hAD.next
    have u4 := int_get (G := G) (hu.xt hA hAD) (i := m) h1
    rw [← getD_at] at u4
    have mt : ((m : Int) < (bs.length : Int)) = True := eq_true (by omega)
    simp only [↓R1, R2, R3, R4, TY, reduceIte, Nat.reduceEqDiff, Nat.reduceAdd, Nat.reduceMul, Nat.reduceLT, Nat.reduceLeDiff, reduceCtorEq, decide_true, decide_false, Int.reduceLE, Int.reduceLT, Int.reduceToNat, Int.reduceAdd, Int.reduceSub, Int.reduceMul, Int.reduceEq, FE, q0, q1, q7, q8, g7, h1, hab2, u4, mt, lm, rne, Nat.mul_one, Nat.zero_le]
    refine ⟨fun h2 => ?_, fun h2 => ?_⟩
    · have eA : IntKind.i64.wrap ((bs.getD m 0).tmod r.length + r.length) = pix bs d r := by
        have : pix bs d r = (bs.getD m 0).tmod r.length + r.length := by unfold pix; rw [if_pos (by omega), dl, if_pos h2]
        rw [this]; exact wrapI (by omega)
      simp only [↓R1, R2, R3, R4, TY, reduceIte, Nat.reduceEqDiff, Nat.reduceAdd, Nat.reduceMul, Nat.reduceLT, Nat.reduceLeDiff, reduceCtorEq, decide_true, decide_false, Int.reduceLE, Int.reduceLT, Int.reduceToNat, Int.reduceAdd, Int.reduceSub, Int.reduceMul, Int.reduceEq, FE, q0, q1, q7, q8, g7, lm, eA, e0, e1, hidrn, v1, zs, zw, Nat.mul_one]
      rw [floOf_wr (by kernel_rfl)]
      refine app1 (lo := A.next + 1) (sz := 1) (cl := iC (r.getD (pix bs d r).toNat 0)) ty40 rfl ty3 rfl (by omega) rfl hacD (by omega) (by omega) rfl (by simp [iC, Value.oneCell']) (by simp; omega) (by simp; omega) ?_
      intro s' E hac' hxE hnE hfE hidE
      have hl' := hac'.sl.len
      obtain ⟨o', c', es⟩ := hl'
      rw [List.length_append, List.length_map, dl, List.length_singleton] at es
      subst es
      have eA : E.blk A.next = some (.row [.slice os m cs] 0 1) := by rw [hxE.blk _ (by omega)]; exact rowD
      have hAE : A.next < E.next := by omega
      simp only [↓R1, R2, R3, R4, TY, reduceIte, Nat.reduceEqDiff, Nat.reduceAdd, Nat.reduceMul, Nat.reduceLT, Nat.reduceLeDiff, reduceCtorEq, decide_true, decide_false, Int.reduceLE, Int.reduceLT, Int.reduceToNat, Int.reduceAdd, Int.reduceSub, Int.reduceMul, Int.reduceEq, FE, q0, q1, q7, q8, eA, hAE, hfl]
      rw [floOf_wr (by kernel_rfl)]
      simp only [↓R1, R2, R3, R4, TY, reduceIte, Nat.reduceEqDiff, Nat.reduceAdd, Nat.reduceMul, Nat.reduceLT, Nat.reduceLeDiff, reduceCtorEq, decide_true, decide_false, Int.reduceLE, Int.reduceLT, Int.reduceToNat, Int.reduceAdd, Int.reduceSub, Int.reduceMul, Int.reduceEq, FE, q0, q1, q7, q8, eA, hAE, hfl]
      refine loop_on ⟨m + 1, _, by omega, ⟨fun id hid => by rw [Hp.put_blk, if_neg (by omega), hxE.blk _ (by omega), hAD.blk _ hid], by show A.next ≤ E.next; omega⟩, hAE, by rw [Hp.put_blk, if_pos rfl], ?_, q0, q1, q7⟩ ?_
      · rw [hpk, List.map_append]
        exact hac'.keep (Nat.le_refl _) fun id g n c _ hl _ => by rw [Hp.put_blk, if_neg (by omega)]
      · simp only [Hp.put_blk, if_true, hrow]
        omega
    · have eB : (bs.getD m 0).tmod r.length = pix bs d r := by unfold pix; rw [if_pos (by omega), dl, if_neg h2]
      simp only [↓R1, R2, R3, R4, TY, reduceIte, Nat.reduceEqDiff, Nat.reduceAdd, Nat.reduceMul, Nat.reduceLT, Nat.reduceLeDiff, reduceCtorEq, decide_true, decide_false, Int.reduceLE, Int.reduceLT, Int.reduceToNat, Int.reduceAdd, Int.reduceSub, Int.reduceMul, Int.reduceEq, FE, q0, q1, q7, q8, g7, lm, eB, e0, e1, hidrn, v1, zs, zw, Nat.mul_one]
      rw [floOf_wr (by kernel_rfl)]
      refine app1 (lo := A.next + 1) (sz := 1) (cl := iC (r.getD (pix bs d r).toNat 0)) ty40 rfl ty3 rfl (by omega) rfl hacD (by omega) (by omega) rfl (by simp [iC, Value.oneCell']) (by simp; omega) (by simp; omega) ?_
      intro s' E hac' hxE hnE hfE hidE
      have hl' := hac'.sl.len
      obtain ⟨o', c', es⟩ := hl'
      rw [List.length_append, List.length_map, dl, List.length_singleton] at es
      subst es
      have eA : E.blk A.next = some (.row [.slice os m cs] 0 1) := by rw [hxE.blk _ (by omega)]; exact rowD
      have hAE : A.next < E.next := by omega
      simp only [↓R1, R2, R3, R4, TY, reduceIte, Nat.reduceEqDiff, Nat.reduceAdd, Nat.reduceMul, Nat.reduceLT, Nat.reduceLeDiff, reduceCtorEq, decide_true, decide_false, Int.reduceLE, Int.reduceLT, Int.reduceToNat, Int.reduceAdd, Int.reduceSub, Int.reduceMul, Int.reduceEq, FE, q0, q1, q7, q8, eA, hAE, hfl]
      rw [floOf_wr (by kernel_rfl)]
      simp only [↓R1, R2, R3, R4, TY, reduceIte, Nat.reduceEqDiff, Nat.reduceAdd, Nat.reduceMul, Nat.reduceLT, Nat.reduceLeDiff, reduceCtorEq, decide_true, decide_false, Int.reduceLE, Int.reduceLT, Int.reduceToNat, Int.reduceAdd, Int.reduceSub, Int.reduceMul, Int.reduceEq, FE, q0, q1, q7, q8, eA, hAE, hfl]
      refine loop_on ⟨m + 1, _, by omega, ⟨fun id hid => by rw [Hp.put_blk, if_neg (by omega), hxE.blk _ (by omega), hAD.blk _ hid], by show A.next ≤ E.next; omega⟩, hAE, by rw [Hp.put_blk, if_pos rfl], ?_, q0, q1, q7⟩ ?_
      · rw [hpk, List.map_append]
        exact hac'.keep (Nat.le_refl _) fun id g n c _ hl _ => by rw [Hp.put_blk, if_neg (by omega)]
      · simp only [Hp.put_blk, if_true, hrow]
        omega
  · have ep : pix bs d r = 0 := by unfold pix; rw [if_neg (by omega)]
    rw [ep] at v1 e0 e1 hpx hpk
    simp only [Int.toNat_zero] at v1 hpk
    simp only [↓R1, R2, R3, R4, TY, reduceIte, Nat.reduceEqDiff, Nat.reduceAdd, Nat.reduceMul, Nat.reduceLT, Nat.reduceLeDiff, reduceCtorEq, decide_true, decide_false, Int.reduceLE, Int.reduceLT, Int.reduceToNat, Int.reduceAdd, Int.reduceSub, Int.reduceMul, Int.reduceEq, FE, q0, q1, q7, q8, g7, lm, e1, hidrn, v1, zs, zw, Nat.mul_one]
    rw [floOf_wr (by kernel_rfl)]
    refine app1 (lo := A.next + 1) (sz := 1) (cl := iC (r.getD 0 0)) ty40 rfl ty3 rfl (by omega) rfl hacD (by omega) (by omega) rfl (by simp [iC, Value.oneCell']) (by simp; omega) (by simp; omega) ?_
    intro s' E hac' hxE hnE hfE hidE
    have hl' := hac'.sl.len
    obtain ⟨o', c', es⟩ := hl'
    rw [List.length_append, List.length_map, dl, List.length_singleton] at es
    subst es
    have eA : E.blk A.next = some (.row [.slice os m cs] 0 1) := by rw [hxE.blk _ (by omega)]; exact rowD
    have hAE : A.next < E.next := by omega
    simp only [↓R1, R2, R3, R4, TY, reduceIte, Nat.reduceEqDiff, Nat.reduceAdd, Nat.reduceMul, Nat.reduceLT, Nat.reduceLeDiff, reduceCtorEq, decide_true, decide_false, Int.reduceLE, Int.reduceLT, Int.reduceToNat, Int.reduceAdd, Int.reduceSub, Int.reduceMul, Int.reduceEq, FE, q0, q1, q7, q8, eA, hAE, hfl]
    rw [floOf_wr (by kernel_rfl)]
    simp only [↓R1, R2, R3, R4, TY, reduceIte, Nat.reduceEqDiff, Nat.reduceAdd, Nat.reduceMul, Nat.reduceLT, Nat.reduceLeDiff, reduceCtorEq, decide_true, decide_false, Int.reduceLE, Int.reduceLT, Int.reduceToNat, Int.reduceAdd, Int.reduceSub, Int.reduceMul, Int.reduceEq, FE, q0, q1, q7, q8, eA, hAE, hfl]
    refine loop_on ⟨m + 1, _, by omega, ⟨fun id hid => by rw [Hp.put_blk, if_neg (by omega), hxE.blk _ (by omega), hAD.blk _ hid], by show A.next ≤ E.next; omega⟩, hAE, by rw [Hp.put_blk, if_pos rfl], ?_, q0, q1, q7⟩ ?_
    · rw [hpk, List.map_append]
      exact hac'.keep (Nat.le_refl _) fun id g n c _ hl _ => by rw [Hp.put_blk, if_neg (by omega)]
    · simp only [Hp.put_blk, if_true, hrow]
      omega
end
end Go.Proofs.Ytjohiapgancocaa.Ab
