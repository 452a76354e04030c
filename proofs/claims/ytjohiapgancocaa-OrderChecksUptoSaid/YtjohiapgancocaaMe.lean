/- Orders: the reference's Pick. -/
import Derived.Test.YtjohiapgancocaaMd
namespace Go.Proofs.Ytjohiapgancocaa.Ab
open Go.RowKit
set_option linter.unusedVariables false
set_option linter.unusedSimpArgs false
set_option maxRecDepth 100000

/-- A row of numbers. -/
def wR (n : Nat) (f : Nat → Int) : List Value := (List.range n).map fun k => Value.int .i64 (f k)
theorem wR_len {n : Nat} {f : Nat → Int} : (wR n f).length = n := by simp [wR]
theorem wR_at {n k : Nat} {f : Nat → Int} (h : k < n) : (wR n f)[k]? = some (.int .i64 (f k)) := by simp [wR, h]
theorem wR_set {n k : Nat} {f : Nat → Int} {x : Int} : (wR n f).set k (.int .i64 x) = wR n (fun j => if j = k then x else f j) := by
  apply List.ext_getElem
  · simp [wR]
  intro i h1 h2
  simp only [wR, List.getElem_set, List.getElem_map, List.getElem_range]
  by_cases h : k = i
  · rw [if_pos h, if_pos h.symm]
  · rw [if_neg h, if_neg (fun e => h e.symm)]
theorem wR_congr {n : Nat} {f g : Nat → Int} (h : ∀ k, k < n → f k = g k) : wR n f = wR n g := by
  unfold wR
  refine List.map_congr_left fun k hk => ?_
  rw [h k (List.mem_range.1 hk)]
theorem wR_zero {n : Nat} : wR n (fun _ => 0) = zl [Value.int .i64 0] n := by
  unfold wR zl
  refine List.map_congr_left fun k _ => ?_
  simp [Nat.mod_one]
theorem wR_rb {n m : Nat} {f : Nat → Int} : ∀ u ∈ wR n f, RB m u := by
  intro u hu
  obtain ⟨x, _, rfl⟩ := List.mem_map.1 hu
  exact RB.int _ _
theorem wT_nil {ls : List (List Int)} {k : Nat} : wT ls [] k = ((ls.getD k []).length : Int) := by
  unfold wT
  rw [if_neg (by simp), List.filter_eq_self.2 (fun x _ => by simp)]
theorem wT_le {ls : List (List Int)} {d : List Int} {k : Nat} : -1 ≤ wT ls d k ∧ wT ls d k ≤ ((ls.getD k []).length : Int) := by
  unfold wT
  split
  · omega
  · have := List.length_filter_le (fun x => decide (x ∉ d)) (ls.getD k [])
    omega
section
variable {G : Gl} {fl : Nat} {A : Hp}
set_option maxHeartbeats 8000000 in
theorem pickOf_ok {v u : Value} {ls : List (List Int)} {bs : List Int} (h : Nst A v ls) (hmx : ∀ k, k < ls.length → (ls.getD k []).length ≤ 1048576) (hu : Sl A 1 u (bs.map iC)) (hlb : bs.length ≤ 1048576) (hb0 : befF ls = 0) :
    Sound Try.prog G 34 [v, u] fl A (.tuple [nlV A ((pk ls bs ls.length).map iC), .int .i64 0].toArray) (nlH A 1 ((pk ls bs ls.length).map iC)) := by
  refine Sound.of mixed Try.func34 Try.ntmps34 Try.results34 (by kernel_rfl) rfl (by kernel_rfl) (by kernel_rfl) fun hA => ?_
  have cc := fun fl => bfault_ok (G := G) (fl := fl) h (fun k hk => Nat.le_trans (hmx k hk) (by decide))
  obtain ⟨vs, hs, hl, hr⟩ := h
  obtain ⟨o, c, rfl⟩ := hs.len
  rw [List.length_map, hl] at hs cc ⊢
  obtain ⟨o2, c2, rfl⟩ := hu.len
  rw [List.length_map] at hu ⊢
  rw [hb0] at cc
  have hD := befF_dag hb0
  have hn := hD.len
  have hfl := hA.floor
  have g1 : (8 : Int) * ((ls.length : Nat) : Int) ≤ 281474976710656 := by omega
  have g2 : ((ls.length : Nat) : Int) ≤ 9223372036854775807 := by omega
  have g3 : (0 : Int) ≤ ((ls.length : Nat) : Int) := by omega
  simp only [↓R1, R2, R3, R4, TY, reduceIte, Nat.reduceEqDiff, Nat.reduceAdd, Nat.reduceMul, Nat.reduceLT, Nat.reduceLeDiff, reduceCtorEq, decide_true, decide_false, Int.reduceLE, Int.reduceLT, Int.reduceToNat, Int.reduceAdd, Int.reduceSub, Int.reduceMul, Int.reduceEq, FE, g1, g2, g3]
  refine call_of (cc _) ?_
  simp only [↓R1, R2, R3, R4, TY, reduceIte, Nat.reduceEqDiff, Nat.reduceAdd, Nat.reduceMul, Nat.reduceLT, Nat.reduceLeDiff, reduceCtorEq, decide_true, decide_false, Int.reduceLE, Int.reduceLT, Int.reduceToNat, Int.reduceAdd, Int.reduceSub, Int.reduceMul, Int.reduceEq, FE, g1, g2, g3]
  refine range_of 30 ls.length (fun j τ B => Xt A.next A B ∧ B.next = A.next + 1 ∧ B.blk A.next = some (.row (wR ls.length fun k => if k < j then wT ls [] k else 0) 0 1) ∧ τ 0 = some (.slice o ls.length c) ∧ τ 1 = some (.slice o2 bs.length c2) ∧ τ 7 = some (.slice (some ⟨A.next, 0, some 0⟩) ls.length ls.length) ∧
    τ 28 = some (.slice o ls.length c) ∧ τ 29 = some (.int .i64 ls.length) ∧ τ 30 = some (.int .i64 (j : Nat))) ?_ ?_
  · exact ⟨(Xt.refl A).push _, by simp, by simp [Hp.push_blk, wR_zero], rfl, rfl, rfl, rfl, rfl, rfl⟩
  rintro j τ B hj ⟨hx, hBn, hb, q0, q1, q7, q28, q29, q30⟩
  simp only [↓R1, R2, R3, R4, TY, reduceIte, Nat.reduceEqDiff, Nat.reduceAdd, Nat.reduceMul, Nat.reduceLT, Nat.reduceLeDiff, reduceCtorEq, decide_true, decide_false, Int.reduceLE, Int.reduceLT, Int.reduceToNat, Int.reduceAdd, Int.reduceSub, Int.reduceMul, Int.reduceEq, FE, q0, q1, q7, q28, q29, q30]
  refine ⟨fun hlt => ?_, fun hlt => ?_⟩
  · obtain ⟨a, rfl, -⟩ := hs.at (G := G) (i := j) (by simpa [hl] using hlt)
    have hab : a.block < B.next := Nat.lt_of_lt_of_le (hs.lt hA) hx.next
    have u0 := row_get (G := G) (hs.xt hA hx) (i := j) (by omega)
    have hsr0 := hr j (by omega) hlt
    obtain ⟨o1, c1, e1⟩ := hsr0.len
    rw [e1, List.length_map] at u0
    have hj63 : j < 9223372036854775807 := by omega
    have k30 := q30
    have hwl := wR_len (n := ls.length) (f := fun k => if k < j then wT ls [] k else 0)
    have hj1 : j + 1 ≤ ls.length := hlt
    simp only [↓R1, R2, R3, R4, TY, reduceIte, Nat.reduceEqDiff, Nat.reduceAdd, Nat.reduceMul, Nat.reduceLT, Nat.reduceLeDiff, reduceCtorEq, decide_true, decide_false, Int.reduceLE, Int.reduceLT, Int.reduceToNat, Int.reduceAdd, Int.reduceSub, Int.reduceMul, Int.reduceEq, FE, q0, q1, q7, q28, q29, q30, hlt, hab, u0, hj63, hb, hfl, hwl, hj1, Nat.mul_one]
    refine range_on k30 hlt rfl ⟨⟨fun id hid => by rw [Hp.put_blk, if_neg (by omega)]; exact hx.blk id hid, hx.next⟩, hBn, ?_, q0, q1, q7, q28, q29, rfl⟩
    rw [Hp.put_blk, if_pos rfl]
    have hv : Value.int .i64 ((ls[j].map iC).length : Int) = .int .i64 (wT ls [] j) := by rw [wT_nil, getD_row hlt, List.length_map]
    rw [List.length_map] at hv
    rw [hv, wR_set]
    refine congrArg some (congrArg (fun z => Blk.row z 0 1) (wR_congr fun i hi => ?_))
    by_cases h1 : i = j
    · subst h1; rw [if_pos rfl, if_pos (Nat.lt_succ_self _)]
    · rw [if_neg h1]
      by_cases h2 : i < j
      · rw [if_pos h2, if_pos (by omega)]
      · rw [if_neg h2, if_neg (by omega)]
  · obtain rfl : j = ls.length := by omega
    have hb2 : B.blk A.next = some (.row (wR ls.length (wT ls (pk ls bs 0))) 0 1) := by
      rw [hb, wR_congr (g := wT ls (pk ls bs 0)) fun k hk => by rw [if_pos hk]; rfl]
    have hBn' : A.next < B.next := by omega
    refine range_of 43 ls.length (fun m τ B => ∃ sb, Xt A.next A B ∧ A.next < B.next ∧ B.blk A.next = some (.row (wR ls.length (wT ls (pk ls bs m))) 0 1) ∧ Acn B (A.next + 1) 1 sb ((pk ls bs m).map iC) ∧ τ 0 = some (.slice o ls.length c) ∧ τ 1 = some (.slice o2 bs.length c2) ∧
      τ 7 = some (.slice (some ⟨A.next, 0, some 0⟩) ls.length ls.length) ∧ τ 10 = some sb ∧ τ 42 = some (.int .i64 ls.length) ∧ τ 43 = some (.int .i64 (m : Nat))) ?_ ?_
    · exact ⟨_, hx, hBn', hb2, Acn.none, q0, q1, q7, rfl, rfl, rfl⟩
    clear q0 q1 q7 q28 q29 q30 hb hb2 hBn hBn' hx
    clear τ B
    rintro m τ B hm ⟨sb, hx, hAB, hb, hac, q0, q1, q7, q10, q42, q43⟩
    simp only [↓R1, R2, R3, R4, TY, reduceIte, Nat.reduceEqDiff, Nat.reduceAdd, Nat.reduceMul, Nat.reduceLT, Nat.reduceLeDiff, reduceCtorEq, decide_true, decide_false, Int.reduceLE, Int.reduceLT, Int.reduceToNat, Int.reduceAdd, Int.reduceSub, Int.reduceMul, Int.reduceEq, FE, q0, q1, q7, q10, q42, q43]
    refine ⟨fun hlt => ?_, fun hlt => ?_⟩
    rotate_left
    · obtain rfl : m = ls.length := by omega
      exact Ended.acnT (us := [.int .i64 0]) hA hx (hac.lower (by omega)) (i_rb _) (fun w hw => by simp at hw; subst hw; exact RB.int _ _)
    obtain ⟨d, hd⟩ : ∃ d, d = pk ls bs m := ⟨_, rfl⟩
    have dl : d.length = m := by rw [hd, pk_len]
    have hG : Gd ls d := by rw [hd]; exact pk_gd hD (Nat.le_of_lt hlt)
    have hne : rdy ls d ≠ [] := by rw [hd]; exact pk_ne hD m hlt
    have hpk : pk ls bs (m + 1) = d ++ [(rdy ls d).getD (pix bs d (rdy ls d)).toNat 0] := by rw [pk, ← hd]
    rw [← hd] at hb hac
    have hpx := pix_rg (bs := bs) (d := d) hne
    have hrl : (rdy ls d).length ≤ ls.length := rdyP_len
    refine range_of 48 ls.length (fun k τ D => D = B ∧ τ 0 = some (.slice o ls.length c) ∧ τ 1 = some (.slice o2 bs.length c2) ∧ τ 7 = some (.slice (some ⟨A.next, 0, some 0⟩) ls.length ls.length) ∧ τ 10 = some sb ∧ τ 11 = some (.int .i64 (m : Nat)) ∧ τ 12 = some (.int .i64 ((rdyP ls d k).length : Int)) ∧ τ 42 = some (.int .i64 ls.length) ∧ τ 43 = some (.int .i64 (m : Nat)) ∧
      τ 46 = some (.slice (some ⟨A.next, 0, some 0⟩) ls.length ls.length) ∧ τ 47 = some (.int .i64 ls.length) ∧ τ 48 = some (.int .i64 (k : Nat))) ?_ ?_
    · exact ⟨rfl, q0, q1, q7, q10, rfl, rfl, q42, q43, rfl, rfl, rfl⟩
    have km := q43
    clear q0 q1 q7 q10 q42 q43
    rintro k σ D hk ⟨rfl, q0, q1, q7, q10, q11, q12, q42, q43, q46, q47, q48⟩
    simp only [↓R1x, R2, R3, R4, TY, reduceIte, Nat.reduceEqDiff, Nat.reduceAdd, Nat.reduceMul, Nat.reduceLT, Nat.reduceLeDiff, reduceCtorEq, decide_true, decide_false, Int.reduceLE, Int.reduceLT, Int.reduceToNat, Int.reduceAdd, Int.reduceSub, Int.reduceMul, Int.reduceEq, FE, q0, q1, q7, q10, q11, q12, q42, q43, q46, q47, q48]
    simp only [k_then]
    simp only [↓R1x, R2, R3, R4, TY, reduceIte, Nat.reduceEqDiff, Nat.reduceAdd, Nat.reduceMul, Nat.reduceLT, Nat.reduceLeDiff, reduceCtorEq, decide_true, decide_false, Int.reduceLE, Int.reduceLT, Int.reduceToNat, Int.reduceAdd, Int.reduceSub, Int.reduceMul, Int.reduceEq, FE, q0, q1, q7, q10, q11, q12, q42, q43, q46, q47, q48]
    have hg : ∀ k, k < ls.length → D.get G ⟨A.next, k, some 0⟩ = some (.int .i64 (wT ls d k)) := fun k hk => by rw [get_blk hb, wR_at hk]
    refine ⟨fun hlk => ?_, fun hlk => ?_⟩
    · have hgk := hg k hlk
      have hk63 : k < 9223372036854775807 := by omega
      have k48 := q48
      have rl := rdyP_len (ls := ls) (d := d) (k := k)
      have w1 : IntKind.i64.wrap (((rdyP ls d k).length : Int) + 1) = (((rdyP ls d k).length + 1 : Nat) : Int) := by rw [wrapI (by omega)]; omega
      simp only [↓R1, R2, R3, R4, TY, reduceIte, Nat.reduceEqDiff, Nat.reduceAdd, Nat.reduceMul, Nat.reduceLT, Nat.reduceLeDiff, reduceCtorEq, decide_true, decide_false, Int.reduceLE, Int.reduceLT, Int.reduceToNat, Int.reduceAdd, Int.reduceSub, Int.reduceMul, Int.reduceEq, FE, q0, q1, q7, q10, q11, q12, q42, q43, q46, q47, q48, hlk, hAB, hgk, hk63, w1, Nat.mul_one]
      refine ⟨fun hw => ?_, fun hw => ?_⟩
      · refine range_on k48 hlk rfl ⟨rfl, q0, q1, q7, q10, q11, ?_, q42, q43, q46, q47, rfl⟩
        rw [rdyP_succ, if_pos (wT_zero.1 hw), List.length_append]; rfl
      · refine range_on k48 hlk rfl ⟨rfl, q0, q1, q7, q10, q11, ?_, q42, q43, q46, q47, rfl⟩
        rw [rdyP_succ, if_neg (fun h => hw (wT_zero.2 h)), List.append_nil]; exact q12
    · obtain rfl : k = ls.length := by omega
      rw [show rdyP ls d ls.length = rdy ls d from rfl] at q12
      simp only [k_then]
      simp only [↓R1x, R2, R3, R4, TY, reduceIte, Nat.reduceEqDiff, Nat.reduceAdd, Nat.reduceMul, Nat.reduceLT, Nat.reduceLeDiff, reduceCtorEq, decide_true, decide_false, Int.reduceLE, Int.reduceLT, Int.reduceToNat, Int.reduceAdd, Int.reduceSub, Int.reduceMul, Int.reduceEq, FE, q0, q1, q7, q10, q11, q12, q42, q43]
      simp only [k_then]
      simp only [↓R1x, R2, R3, R4, TY, reduceIte, Nat.reduceEqDiff, Nat.reduceAdd, Nat.reduceMul, Nat.reduceLT, Nat.reduceLeDiff, reduceCtorEq, decide_true, decide_false, Int.reduceLE, Int.reduceLT, Int.reduceToNat, Int.reduceAdd, Int.reduceSub, Int.reduceMul, Int.reduceEq, FE, q0, q1, q7, q10, q11, q12, q42, q43]
      apply merge (fun τ E => E = D ∧ τ 0 = some (.slice o ls.length c) ∧ τ 7 = some (.slice (some ⟨A.next, 0, some 0⟩) ls.length ls.length) ∧ τ 1 = some (.slice o2 bs.length c2) ∧ τ 10 = some sb ∧ τ 15 = some (.int .i64 (pix bs d (rdy ls d))) ∧ τ 42 = some (.int .i64 ls.length) ∧ τ 43 = some (.int .i64 (m : Nat)))
      · intro tail
        have hn0 : 0 < (rdy ls d).length := List.length_pos_iff.2 hne
        simp only [k_then]
        simp only [↓R1x, R2, R3, R4, TY, reduceIte, Nat.reduceEqDiff, Nat.reduceAdd, Nat.reduceMul, Nat.reduceLT, Nat.reduceLeDiff, reduceCtorEq, decide_true, decide_false, Int.reduceLE, Int.reduceLT, Int.reduceToNat, Int.reduceAdd, Int.reduceSub, Int.reduceMul, Int.reduceEq, FE, q0, q1, q7, q10, q11, q12, q42, q43]
        refine ⟨fun hlm => ?_, fun hlm => ?_⟩
        · obtain ⟨a2, ho2, -⟩ := hu.at (G := G) (i := m) (by simpa using hlm)
          have hu' := hu
          rw [ho2] at hu'
          have q1' : σ 1 = some (.slice (some a2) bs.length c2) := by rw [← ho2]; exact q1
          have huB := hu'.xt hA hx
          have hab2 : a2.block < D.next := Nat.lt_of_lt_of_le (hu'.lt hA) hx.next
          have u2 := int_get (G := G) huB hlm
          have hr0 : (((rdy ls d).length : Int) = 0) = False := eq_false (by omega)
          have hrp : (0 : Int) < ((rdy ls d).length : Int) := by omega
          have t1 := Int.tmod_lt_of_pos bs[m] hrp
          have t2 := Int.lt_tmod_of_pos bs[m] hrp
          have w1 : IntKind.i64.wrap (bs[m].tmod (rdy ls d).length + (rdy ls d).length) = bs[m].tmod (rdy ls d).length + (rdy ls d).length := wrapI (by omega)
          have hpv : (bs[m].tmod (rdy ls d).length + (rdy ls d).length).tmod (rdy ls d).length = pix bs d (rdy ls d) := by
            have e : pix bs d (rdy ls d) = if bs[m].tmod (rdy ls d).length < 0 then bs[m].tmod (rdy ls d).length + (rdy ls d).length else bs[m].tmod (rdy ls d).length := by
              unfold pix
              rw [if_pos (by omega), dl, getD_at hlm]
            rw [e]
            split
            · exact Int.tmod_eq_of_lt (by omega) (by omega)
            · rw [Int.tmod_eq_emod_of_nonneg (by omega), Int.add_emod_right]
              exact Int.emod_eq_of_lt (by omega) (by omega)
          simp only [ho2]
          simp only [↓R1x, R2, R3, R4, TY, reduceIte, Nat.reduceEqDiff, Nat.reduceAdd, Nat.reduceMul, Nat.reduceLT, Nat.reduceLeDiff, reduceCtorEq, decide_true, decide_false, Int.reduceLE, Int.reduceLT, Int.reduceToNat, Int.reduceAdd, Int.reduceSub, Int.reduceMul, Int.reduceEq, FE, q0, q1', q7, q10, q11, q12, q42, q43, hlm, hab2, u2, hr0, w1, hpv, Nat.mul_one]
          refine tail _ _ ?_
          exact ⟨rfl, q0, q7, q1, q10, rfl, q42, q43⟩
        · refine tail _ _ ⟨rfl, q0, q7, q1, q10, ?_, q42, q43⟩
          have : pix bs d (rdy ls d) = 0 := by unfold pix; rw [if_neg (by omega)]
          rw [this]; rfl
      rintro ρ E ⟨rfl, q0, q7, q1, q10, q15, q42, q43⟩
      simp only [↓R1, R2, R3, R4, TY, reduceIte, Nat.reduceEqDiff, Nat.reduceAdd, Nat.reduceMul, Nat.reduceLT, Nat.reduceLeDiff, reduceCtorEq, decide_true, decide_false, Int.reduceLE, Int.reduceLT, Int.reduceToNat, Int.reduceAdd, Int.reduceSub, Int.reduceMul, Int.reduceEq, FE, q0, q7, q1, q10, q15, q42, q43]
      refine range_of 73 ls.length (fun k τ D => D = E ∧ τ 0 = some (.slice o ls.length c) ∧ τ 7 = some (.slice (some ⟨A.next, 0, some 0⟩) ls.length ls.length) ∧ τ 1 = some (.slice o2 bs.length c2) ∧ τ 10 = some sb ∧ τ 15 = some (.int .i64 (pix bs d (rdy ls d) - ((rdyP ls d k).length : Int))) ∧ ((rdyP ls d k).length : Int) ≤ pix bs d (rdy ls d) ∧
        τ 42 = some (.int .i64 ls.length) ∧ τ 43 = some (.int .i64 (m : Nat)) ∧ τ 71 = some (.slice (some ⟨A.next, 0, some 0⟩) ls.length ls.length) ∧ τ 72 = some (.int .i64 ls.length) ∧ τ 73 = some (.int .i64 (k : Nat))) ?_ ?_
      · refine ⟨rfl, q0, q7, q1, q10, ?_, ?_, q42, q43, rfl, rfl, rfl⟩
        · refine q15.trans ?_
          simp [show rdyP ls d 0 = [] from rfl]
        · rw [show rdyP ls d 0 = [] from rfl]; simpa using hpx.1
      clear q0 q7 q1 q10 q15 q42 q43
      rintro k π D hk ⟨rfl, q0, q7, q1, q10, q15, hle, q42, q43, q71, q72, q73⟩
      simp only [↓R1x, R2, R3, R4, TY, reduceIte, Nat.reduceEqDiff, Nat.reduceAdd, Nat.reduceMul, Nat.reduceLT, Nat.reduceLeDiff, reduceCtorEq, decide_true, decide_false, Int.reduceLE, Int.reduceLT, Int.reduceToNat, Int.reduceAdd, Int.reduceSub, Int.reduceMul, Int.reduceEq, FE, q0, q7, q1, q10, q15, q42, q43, q71, q72, q73]
      simp only [k_then]
      simp only [↓R1x, R2, R3, R4, TY, reduceIte, Nat.reduceEqDiff, Nat.reduceAdd, Nat.reduceMul, Nat.reduceLT, Nat.reduceLeDiff, reduceCtorEq, decide_true, decide_false, Int.reduceLE, Int.reduceLT, Int.reduceToNat, Int.reduceAdd, Int.reduceSub, Int.reduceMul, Int.reduceEq, FE, q0, q7, q1, q10, q15, q42, q43, q71, q72, q73]
      refine ⟨fun hlk => ?_, fun hlk => ?_⟩
      rotate_left
      · exfalso
        obtain rfl : k = ls.length := by omega
        rw [show rdyP ls d ls.length = rdy ls d from rfl] at hle
        omega
      have hgk := hg k hlk
      have hk63 : k < 9223372036854775807 := by omega
      have k73 := q73
      have rl := rdyP_len (ls := ls) (d := d) (k := k)
      have w2 : IntKind.i64.wrap (pix bs d (rdy ls d) - ((rdyP ls d k).length : Int) - 1) = pix bs d (rdy ls d) - ((rdyP ls d k).length : Int) - 1 := wrapI (by omega)
      by_cases hw : wT ls d k = 0
      rotate_left
      · have f0 : (wT ls d k = 0) = False := eq_false hw
        simp only [↓R1, R2, R3, R4, TY, reduceIte, Nat.reduceEqDiff, Nat.reduceAdd, Nat.reduceMul, Nat.reduceLT, Nat.reduceLeDiff, reduceCtorEq, decide_true, decide_false, Int.reduceLE, Int.reduceLT, Int.reduceToNat, Int.reduceAdd, Int.reduceSub, Int.reduceMul, Int.reduceEq, FE, q0, q7, q1, q10, q15, q42, q43, q71, q72, q73, hlk, hAB, hgk, hk63, f0, Nat.mul_one]
        refine range_on k73 hlk rfl ⟨rfl, q0, q7, q1, q10, ?_, ?_, q42, q43, q71, q72, rfl⟩
        · rw [rdyP_succ, if_neg (fun h => hw (wT_zero.2 h)), List.append_nil]; exact q15
        · rw [rdyP_succ, if_neg (fun h => hw (wT_zero.2 h)), List.append_nil]; exact hle
      have f0 : (wT ls d k = 0) = True := eq_true hw
      have hisR := wT_zero.1 hw
      by_cases hz : pix bs d (rdy ls d) - ((rdyP ls d k).length : Int) = 0
      rotate_left
      · have f1 : (pix bs d (rdy ls d) - ((rdyP ls d k).length : Int) = 0) = False := eq_false hz
        simp only [↓R1, R2, R3, R4, TY, reduceIte, Nat.reduceEqDiff, Nat.reduceAdd, Nat.reduceMul, Nat.reduceLT, Nat.reduceLeDiff, reduceCtorEq, decide_true, decide_false, Int.reduceLE, Int.reduceLT, Int.reduceToNat, Int.reduceAdd, Int.reduceSub, Int.reduceMul, Int.reduceEq, FE, q0, q7, q1, q10, q15, q42, q43, q71, q72, q73, hlk, hAB, hgk, hk63, f0, f1, w2, Nat.mul_one]
        refine range_on k73 hlk rfl ⟨rfl, q0, q7, q1, q10, ?_, ?_, q42, q43, q71, q72, rfl⟩
        · rw [rdyP_succ, if_pos hisR, List.length_append]
          refine congrArg some (congrArg (Value.int .i64) ?_)
          simp only [List.length_singleton]; omega
        · rw [rdyP_succ, if_pos hisR, List.length_append]
          simp only [List.length_singleton]; omega
      have f1 : (pix bs d (rdy ls d) - ((rdyP ls d k).length : Int) = 0) = True := eq_true hz
      have hz1 : zl [Value.int .i64 0] 1 = [Value.int .i64 0] := rfl
      have hy : (rdy ls d).getD (pix bs d (rdy ls d)).toNat 0 = (k : Int) := by
        have e : (pix bs d (rdy ls d)).toNat = (rdyP ls d k).length := by omega
        have hsp : ∃ s, rdy ls d = rdyP ls d (k + 1) ++ s := by
          unfold rdy
          obtain ⟨e2, he2⟩ : ∃ e2, ls.length = k + 1 + e2 := ⟨ls.length - (k + 1), by omega⟩
          rw [he2]
          clear he2
          induction e2 with
          | zero => exact ⟨[], by simp⟩
          | succ e2 ih =>
            obtain ⟨s, hs⟩ := ih
            rw [← Nat.add_assoc, rdyP_succ, hs, List.append_assoc]
            exact ⟨_, rfl⟩
        obtain ⟨s, hs⟩ := hsp
        rw [e, hs, rdyP_succ, if_pos hisR, List.getD_eq_getElem?_getD, List.append_assoc, List.getElem?_append_right (Nat.le_refl _), Nat.sub_self]
        rfl
      rw [hy] at hpk
      simp only [k_then]
      simp only [↓R1x, R2, R3, R4, TY, reduceIte, Nat.reduceEqDiff, Nat.reduceAdd, Nat.reduceMul, Nat.reduceLT, Nat.reduceLeDiff, reduceCtorEq, decide_true, decide_false, Int.reduceLE, Int.reduceLT, Int.reduceToNat, Int.reduceAdd, Int.reduceSub, Int.reduceMul, Int.reduceEq, FE, q0, q7, q1, q10, q15, q42, q43, q71, q72, q73, hlk, hAB, hgk, hk63, f0, f1, hz1, Nat.mul_one]
      simp only [k_then]
      simp only [↓R1x, R2, R3, R4, TY, reduceIte, Nat.reduceEqDiff, Nat.reduceAdd, Nat.reduceMul, Nat.reduceLT, Nat.reduceLeDiff, reduceCtorEq, decide_true, decide_false, Int.reduceLE, Int.reduceLT, Int.reduceToNat, Int.reduceAdd, Int.reduceSub, Int.reduceMul, Int.reduceEq, FE, q0, q7, q1, q10, q15, q42, q43, q71, q72, q73, hlk, hAB, hgk, hk63, f0, f1, hz1, Nat.mul_one]
      simp only [k_then]
      simp only [↓R1x, R2, R3, R4, TY, reduceIte, Nat.reduceEqDiff, Nat.reduceAdd, Nat.reduceMul, Nat.reduceLT, Nat.reduceLeDiff, reduceCtorEq, decide_true, decide_false, Int.reduceLE, Int.reduceLT, Int.reduceToNat, Int.reduceAdd, Int.reduceSub, Int.reduceMul, Int.reduceEq, FE, q0, q7, q1, q10, q15, q42, q43, q71, q72, q73, hlk, hAB, hgk, hk63, f0, f1, hz1, Nat.mul_one]
      simp only [k_then]
      simp only [↓R1x, R2, R3, R4, TY, reduceIte, Nat.reduceEqDiff, Nat.reduceAdd, Nat.reduceMul, Nat.reduceLT, Nat.reduceLeDiff, reduceCtorEq, decide_true, decide_false, Int.reduceLE, Int.reduceLT, Int.reduceToNat, Int.reduceAdd, Int.reduceSub, Int.reduceMul, Int.reduceEq, FE, q0, q7, q1, q10, q15, q42, q43, q71, q72, q73, hlk, hAB, hgk, hk63, f0, f1, hz1, Nat.mul_one]
      simp only [k_then]
      simp only [↓R1x, R2, R3, R4, TY, reduceIte, Nat.reduceEqDiff, Nat.reduceAdd, Nat.reduceMul, Nat.reduceLT, Nat.reduceLeDiff, reduceCtorEq, decide_true, decide_false, Int.reduceLE, Int.reduceLT, Int.reduceToNat, Int.reduceAdd, Int.reduceSub, Int.reduceMul, Int.reduceEq, FE, q0, q7, q1, q10, q15, q42, q43, q71, q72, q73, hlk, hAB, hgk, hk63, f0, f1, hz1, Nat.mul_one]
      refine app1 (lo := A.next + 1) (sz := 1) (cl := iC (k : Int)) ty40 rfl ty3 rfl (by omega) rfl hac (by omega) (by omega) rfl (by simp [iC, Value.oneCell']) (by simp [dl]; omega) (by simp [dl]; omega) ?_
      intro sb' F hac' hxF hnF hfF hidF
      have hFb : F.blk A.next = some (.row (wR ls.length (wT ls d)) 0 1) := by rw [hxF.blk _ (by omega)]; exact hb
      have hxAF : Xt A.next A F := ⟨fun id hid => (hxF.blk id (by omega)).trans (hx.blk id hid), by have := hx.next; omega⟩
      have hwl := wR_len (n := ls.length) (f := wT ls d)
      have hk1 : k + 1 ≤ ls.length := hlk
      have hAF : A.next < F.next := by omega
      simp only [↓R1x, R2, R3, R4, TY, reduceIte, Nat.reduceEqDiff, Nat.reduceAdd, Nat.reduceMul, Nat.reduceLT, Nat.reduceLeDiff, reduceCtorEq, decide_true, decide_false, Int.reduceLE, Int.reduceLT, Int.reduceToNat, Int.reduceAdd, Int.reduceSub, Int.reduceMul, Int.reduceEq, FE, q0, q7, q1, q10, q15, q42, q43, q71, q72, q73]
      simp only [k_then]
      simp only [↓R1x, R2, R3, R4, TY, reduceIte, Nat.reduceEqDiff, Nat.reduceAdd, Nat.reduceMul, Nat.reduceLT, Nat.reduceLeDiff, reduceCtorEq, decide_true, decide_false, Int.reduceLE, Int.reduceLT, Int.reduceToNat, Int.reduceAdd, Int.reduceSub, Int.reduceMul, Int.reduceEq, FE, q0, q7, q1, q10, q15, q42, q43, q71, q72, q73, hFb, hfl, hwl, hk1, hlk, Nat.mul_one]
      simp only [k_then]
      simp only [↓R1x, R2, R3, R4, TY, reduceIte, Nat.reduceEqDiff, Nat.reduceAdd, Nat.reduceMul, Nat.reduceLT, Nat.reduceLeDiff, reduceCtorEq, decide_true, decide_false, Int.reduceLE, Int.reduceLT, Int.reduceToNat, Int.reduceAdd, Int.reduceSub, Int.reduceMul, Int.reduceEq, FE, q0, q7, q1, q10, q15, q42, q43, q71, q72, q73, hFb, hfl, hwl, hk1, hlk, Nat.mul_one]
      simp only [k_then]
      simp only [↓R1x, R2, R3, R4, TY, reduceIte, Nat.reduceEqDiff, Nat.reduceAdd, Nat.reduceMul, Nat.reduceLT, Nat.reduceLeDiff, reduceCtorEq, decide_true, decide_false, Int.reduceLE, Int.reduceLT, Int.reduceToNat, Int.reduceAdd, Int.reduceSub, Int.reduceMul, Int.reduceEq, FE, q0, q7, q1, q10, q15, q42, q43, q71, q72, q73]
      refine range_of 91 ls.length (fun r τ E => Xt A.next A E ∧ E.next = F.next ∧ (∀ id, id ≠ A.next → E.blk id = F.blk id) ∧ E.blk A.next = some (.row (wR ls.length fun i => if i < r then wT ls (d ++ [(k : Int)]) i else if i = k then -1 else wT ls d i) 0 1) ∧
        τ 0 = some (.slice o ls.length c) ∧ τ 1 = some (.slice o2 bs.length c2) ∧ τ 7 = some (.slice (some ⟨A.next, 0, some 0⟩) ls.length ls.length) ∧ τ 10 = some sb' ∧ τ 16 = some (.int .i64 (k : Nat)) ∧ τ 42 = some (.int .i64 ls.length) ∧ τ 43 = some (.int .i64 (m : Nat)) ∧
        τ 89 = some (.slice o ls.length c) ∧ τ 90 = some (.int .i64 ls.length) ∧ τ 91 = some (.int .i64 (r : Nat))) ?_ ?_
      · refine ⟨⟨fun id hid => by rw [Hp.put_blk, if_neg (by omega)]; exact hxAF.blk id hid, hxAF.next⟩, rfl, fun id hid => by rw [Hp.put_blk, if_neg hid], ?_, q0, q1, q7, rfl, rfl, q42, q43, rfl, rfl, rfl⟩
        rw [Hp.put_blk, if_pos rfl]
        refine congrArg some (congrArg (fun z => Blk.row z 0 1) ?_)
        exact wR_set
      clear q0 q7 q1 q10 q15 q42 q43 q71 q72 q73
      rintro r χ E hr' ⟨hxE, hEn, hEo, hEb, q0, q1, q7, q10, q16, q42, q43, q89, q90, q91⟩
      have hm63 : m < 9223372036854775807 := by omega
      simp only [↓R1, R2, R3, R4, TY, reduceIte, Nat.reduceEqDiff, Nat.reduceAdd, Nat.reduceMul, Nat.reduceLT, Nat.reduceLeDiff, reduceCtorEq, decide_true, decide_false, Int.reduceLE, Int.reduceLT, Int.reduceToNat, Int.reduceAdd, Int.reduceSub, Int.reduceMul, Int.reduceEq, FE, q0, q1, q7, q10, q16, q42, q43, q89, q90, q91, hm63, k_block_exit, Nat.reduceBEq]
      refine ⟨fun hlr => ?_, fun hlr => ?_⟩
      rotate_left
      · obtain rfl : r = ls.length := by omega
        refine range_on km hlt rfl ⟨sb', hxE, by omega, ?_, ?_, q0, q1, q7, q10, q42, rfl⟩
        · rw [hEb, hpk]
          exact congrArg some (congrArg (fun z => Blk.row z 0 1) (wR_congr fun i hi => by rw [if_pos hi]))
        · rw [hpk, List.map_append]
          exact hac'.keep (by omega) fun id g n c _ h1 h2 => hEo id (by omega)
      obtain ⟨a, rfl, -⟩ := hs.at (G := G) (i := r) (by simpa [hl] using hlr)
      have hab : a.block < E.next := Nat.lt_of_lt_of_le (hs.lt hA) hxE.next
      have u0 := row_get (G := G) (hs.xt hA hxE) (i := r) (by omega)
      have hsr0 := hr r (by omega) hlr
      obtain ⟨o1, c1, e1⟩ := hsr0.len
      rw [e1, List.length_map] at hsr0
      rw [e1, List.length_map] at u0
      have hsr := hsr0.xt hA hxE
      have hL2 := hmx r hlr
      have hsnoc := wT_snoc (k := r) hG (befF_nodup hb0 r) hD (isR_iff.1 hisR).1 hlr
      have hself := hD.el r hlr
      have hwle := wT_le (ls := ls) (d := d) (k := r)
      rw [getD_row hlr] at hL2 hsnoc hself hwle
      generalize hrw : ls[r] = lr at *
      have hr63 : r < 9223372036854775807 := by omega
      have k91 := q91
      have ct := fun fl => icontains_ok (G := G) (fl := fl) hsr (by omega) (k : Int)
      simp only [↓R1, R2, R3, R4, TY, reduceIte, Nat.reduceEqDiff, Nat.reduceAdd, Nat.reduceMul, Nat.reduceLT, Nat.reduceLeDiff, reduceCtorEq, decide_true, decide_false, Int.reduceLE, Int.reduceLT, Int.reduceToNat, Int.reduceAdd, Int.reduceSub, Int.reduceMul, Int.reduceEq, FE, q0, q1, q7, q10, q16, q42, q43, q89, q90, q91, hlr, hab, u0, hr63, Nat.mul_one]
      refine call_of (ct _) ?_
      have hval : (if r < r then wT ls (d ++ [(k : Int)]) r else if r = k then -1 else wT ls d r) = if r = k then -1 else wT ls d r := by rw [if_neg (Nat.lt_irrefl _)]
      have hgr : E.get G ⟨A.next, r, some 0⟩ = some (.int .i64 (if r = k then -1 else wT ls d r)) := by rw [get_blk hEb, wR_at hlr, hval]
      have hAE : A.next < E.next := by omega
      have hnext : ∀ (i : Nat), i < ls.length → i ≠ r → (if i < r then wT ls (d ++ [(k : Int)]) i else if i = k then -1 else wT ls d i) = if i < r + 1 then wT ls (d ++ [(k : Int)]) i else if i = k then -1 else wT ls d i := by
        intro i hi hne
        by_cases h : i < r
        · rw [if_pos h, if_pos (by omega)]
        · rw [if_neg h, if_neg (c := i < r + 1) (by omega)]
      by_cases hc : (k : Int) ∈ lr
      · have f2 : ((k : Int) ∈ lr) = True := eq_true hc
        have hrk : r ≠ k := fun e => by subst e; have := hself _ hc; omega
        rw [if_neg hrk] at hgr
        rw [if_neg hrk, if_pos hc] at hsnoc
        have hwE := wR_len (n := ls.length) (f := fun i => if i < r then wT ls (d ++ [(k : Int)]) i else if i = k then -1 else wT ls d i)
        have hr1 : r + 1 ≤ ls.length := hlr
        have w5 : IntKind.i64.wrap (wT ls d r - 1) = wT ls d r - 1 := wrapI (by omega)
        simp only [↓R1, R2, R3, R4, TY, reduceIte, Nat.reduceEqDiff, Nat.reduceAdd, Nat.reduceMul, Nat.reduceLT, Nat.reduceLeDiff, reduceCtorEq, decide_true, decide_false, Int.reduceLE, Int.reduceLT, Int.reduceToNat, Int.reduceAdd, Int.reduceSub, Int.reduceMul, Int.reduceEq, FE, f2, q0, q1, q7, q10, q16, q42, q43, q89, q90, q91, hlr, hAE, hgr, hEb, hfl, hwE, hr1, w5, hr63, Nat.mul_one]
        refine range_on k91 hlr rfl ⟨⟨fun id hid => by rw [Hp.put_blk, if_neg (by omega)]; exact hxE.blk id hid, hxE.next⟩, hEn, fun id hid => by rw [Hp.put_blk, if_neg hid]; exact hEo id hid, ?_, q0, q1, q7, q10, q16, q42, q43, q89, q90, rfl⟩
        rw [Hp.put_blk, if_pos rfl, wR_set]
        refine congrArg some (congrArg (fun z => Blk.row z 0 1) (wR_congr fun i hi => ?_))
        by_cases hir : i = r
        · subst hir; rw [if_pos rfl, if_pos (Nat.lt_succ_self _), hsnoc]
        · rw [if_neg hir]; exact hnext i hi hir
      · have f2 : ((k : Int) ∈ lr) = False := eq_false hc
        rw [if_neg hc, Int.sub_zero] at hsnoc
        simp only [↓R1, R2, R3, R4, TY, reduceIte, Nat.reduceEqDiff, Nat.reduceAdd, Nat.reduceMul, Nat.reduceLT, Nat.reduceLeDiff, reduceCtorEq, decide_true, decide_false, Int.reduceLE, Int.reduceLT, Int.reduceToNat, Int.reduceAdd, Int.reduceSub, Int.reduceMul, Int.reduceEq, FE, f2, q0, q1, q7, q10, q16, q42, q43, q89, q90, q91, hlr, hAE, hr63, Nat.mul_one]
        refine range_on k91 hlr rfl ⟨hxE, hEn, hEo, ?_, q0, q1, q7, q10, q16, q42, q43, q89, q90, rfl⟩
        rw [hEb]
        refine congrArg some (congrArg (fun z => Blk.row z 0 1) (wR_congr fun i hi => ?_))
        by_cases hir : i = r
        · subst hir; rw [if_neg (Nat.lt_irrefl _), if_pos (Nat.lt_succ_self _), hsnoc]
        · exact hnext i hi hir
end
end Go.Proofs.Ytjohiapgancocaa.Ab
