/- Tools: the document's plan. -/
import Derived.Test.YtjohiapgancocaaTpD
namespace Go.Proofs.Ytjohiapgancocaa.Ab
open Go.RowKit
set_option linter.unusedVariables false
set_option linter.unusedSimpArgs false
set_option maxRecDepth 100000

section
variable {G : Gl} {fl : Nat} {A : Hp}

theorem planOf_ok {v : Value} {l : List Tk} (hs : Tks A v l) : Sound Try.prog G 21 [v] fl A (.tuple [planV A (planR l), .int .i64 (planR l).2].toArray) (planH A (planR l)) := by
  refine Sound.of mixed Try.func21 Try.ntmps21 Try.results21 (by kernel_rfl) rfl (by kernel_rfl) (by simp) fun hA => ?_
  have hbad : ∀ (x : Int) (B : Hp), Xt A.next A B → planR l = ([], x) → Ended A (.tuple [Value.slice none 0 0, .int .i64 x].toArray) B (.tuple [planV A (planR l), .int .i64 (planR l).2].toArray) (planH A (planR l)) := by
    intro x B hx he
    rw [planV, planH, he, if_pos rfl, if_pos rfl]
    refine Ended.back hA hx rfl (RB.tuple fun w hw => ?_)
    simp only [List.mem_cons, List.not_mem_nil, or_false] at hw
    rcases hw with rfl | rfl
    · exact RB.sl0 _ _
    · exact RB.int _ _
  simp only [↓R1, R2, R3, R4, TY, reduceIte, Nat.reduceEqDiff, Nat.reduceAdd, Nat.reduceMul, Nat.reduceLT, Nat.reduceLeDiff, reduceCtorEq, decide_true, decide_false]
  refine call_of (tasksFault_ok hs) ?_
  simp only [↓R1, R2, R3, R4, TY, reduceIte, Nat.reduceEqDiff, Nat.reduceAdd, Nat.reduceMul, Nat.reduceLT, Nat.reduceLeDiff, reduceCtorEq, decide_true, decide_false]
  refine ⟨fun he => ?_, fun he => ?_⟩
  rotate_left
  · exact hbad _ _ (Xt.refl A) (by rw [planR, if_pos he])
  obtain ⟨hl60, htk⟩ := taskE_all he
  obtain ⟨hsl, heach, hlen⟩ := hs
  obtain ⟨o, c, rfl⟩ := hsl.len
  rw [List.length_map] at hsl ⊢
  have hR : planR l = planGo l l [] [] := by rw [planR, if_neg (by simpa using he)]
  simp only [↓R1, R2, R3, R4, TY, reduceIte, Nat.reduceEqDiff, Nat.reduceAdd, Nat.reduceMul, Nat.reduceLT, Nat.reduceLeDiff, reduceCtorEq, decide_true, decide_false]
  refine range_of 19 l.length (fun j τ B => ∃ so su out used, PJ A B l j so su out used ∧ used.length ≤ j ∧ planGo l l [] [] = planGo l (l.drop j) out used ∧ τ 0 = some (.slice o l.length c) ∧ τ 6 = some so ∧ τ 5 = some su ∧ τ 17 = some (.slice o l.length c) ∧ τ 18 = some (.int .i64 l.length) ∧ τ 19 = some (.int .i64 j)) ?_ ?_
  · exact ⟨_, _, [], [], ⟨Xt.refl A, Ac.nil _ _ _, Ac.nil _ _ _, (fun _ _ _ _ _ _ _ h => by cases h), by simp, rfl, rfl, by simp⟩, Nat.le_refl _, rfl, rfl, rfl, rfl, rfl, rfl, rfl⟩
  rintro j τ B hj ⟨so, su, out, used, hP, hlu, hgo, q0, q6, q5, q17, q18, q19⟩
  simp only [↓R1, R2, R3, R4, TY, reduceIte, Nat.reduceEqDiff, Nat.reduceAdd, Nat.reduceMul, Nat.reduceLT, Nat.reduceLeDiff, reduceCtorEq, decide_true, decide_false, q0, q6, q5, q17, q18, q19]
  refine ⟨fun hlt => ?_, fun hlt => ?_⟩
  rotate_left
  · rw [List.drop_of_length_le (by omega), planGo] at hgo
    rw [hR, hgo]
    simp only [planV, planH]
    have hend := Ended.acc2 (u := .int .i64 0) hA hP.xt hP.ao (ic_rb out) (RB.int _ _)
    by_cases hn : out = []
    · rw [if_pos hn, if_pos hn]
      have := hP.no.2 hn; subst this
      exact hend
    · rw [if_neg hn, if_neg hn]
      have hne := fun h => hn (hP.no.1 h)
      rcases hP.ao.at_ with ⟨h1, _⟩ | ⟨id, g, n, c', h1, _⟩
      · exact absurd h1 hne
      · subst h1; simpa [outV, outH] using hend
  obtain ⟨a, rfl, -⟩ := hsl.at (G := G) (i := j) (by simpa using hlt)
  have hx := hP.xt
  have hsB := hsl.xt hA hx
  have hab : a.block < B.next := Nat.lt_of_lt_of_le (hsl.lt hA) hx.next
  have hfl : fl ≤ B.next := Nat.le_trans hA.floor hx.next
  obtain ⟨g0, g1, g2⟩ := tk_get (G := G) hsB hlt
  have hafter := heach l[j] (List.getElem_mem _)
  obtain ⟨o2, c2, hav⟩ := hafter.len
  rw [List.length_map] at hav
  rw [hav] at g2 hafter
  simp only [↓R1, R2, R3, R4, TY, reduceIte, Nat.reduceEqDiff, Nat.reduceAdd, Nat.reduceMul, Nat.reduceLT, Nat.reduceLeDiff, reduceCtorEq, decide_true, decide_false, q0, q6, q5, q17, q18, q19, hlt, hab, hfl, g0, g1, g2]
  generalize hB2 : Hp.put _ _ _ = B2
  have hx2 : Xt B.next B B2 := by rw [← hB2]; simp (maxDischargeDepth := 20) only [xt_push, xt_put, xt_refl, Nat.le_refl]
  have hn2 : B2.next = B.next + 1 := by rw [← hB2]; rfl
  have hP2 := hP.grow hx2
  have m : B2.get G ⟨B.next, 0, some 0⟩ = some (.int .i64 l[j].tool) ∧ B2.get G ⟨B.next, 1, some 0⟩ = some (.int .i64 l[j].long) := by rw [← hB2]; simp [Hp.get, Hp.put_blk]
  have hj63 : j < 9223372036854775807 := by omega
  have hlo := hP.lo
  have hP2sl := hP2.ao.sl
  obtain ⟨o3, c3, hso⟩ := hP2sl.len
  rw [List.length_map] at hso
  obtain ⟨hnb, haf⟩ := htk j hlt
  have hafB := hafter.xt hA hP2.xt
  have hslB := hsl.xt hA hP2.xt
  have hbnd := fun i => atOf_bounds hP.bd (by omega) (l[j].after.take i) 0 (Int.le_refl _) (by omega) (fun x hx => by have := haf x (List.mem_of_mem_take hx); omega)
  refine range_of 26 l[j].after.length (fun i τ C => C = B2 ∧ τ 0 = some (.slice (some a) l.length c) ∧ τ 6 = some so ∧ τ 5 = some su ∧ τ 8 = some (.pointer (some ⟨B.next, 0, some 0⟩)) ∧ τ 9 = some (.int .i64 (atOf l out (l[j].after.take i))) ∧
    τ 17 = some (.slice (some a) l.length c) ∧ τ 18 = some (.int .i64 l.length) ∧ τ 19 = some (.int .i64 j) ∧ τ 24 = some (.slice o2 l[j].after.length c2) ∧ τ 25 = some (.int .i64 l[j].after.length) ∧ τ 26 = some (.int .i64 i)) ?_ ?_
  · exact ⟨rfl, q0, q6, q5, rfl, rfl, q17, q18, q19, rfl, rfl, rfl⟩
  rintro i τ' C hi ⟨rfl, r0, r6, r5, r8, r9, r17, r18, r19, r24, r25, r26⟩
  simp only [↓R1, R2, R3, R4, TY, reduceIte, Nat.reduceEqDiff, Nat.reduceAdd, Nat.reduceMul, Nat.reduceLT, Nat.reduceLeDiff, reduceCtorEq, decide_true, decide_false, r0, r6, r5, r8, r9, r17, r18, r19, r24, r25, r26]
  refine ⟨fun hil => ?_, fun hil => ?_⟩
  · obtain ⟨a2, rfl, -⟩ := hafB.at (G := G) (i := i) (by simpa using hil)
    have k0 := int_get (G := G) hafB hil
    obtain ⟨x0, x1⟩ := haf l[j].after[i] (List.getElem_mem _)
    have hxl : l[j].after[i].toNat < l.length := by omega
    have hxo : l[j].after[i].toNat < out.length := by omega
    have hi63 : i < 9223372036854775807 := by have := hlen l[j] (List.getElem_mem _); omega
    have xo : l[j].after[i] < (out.length : Int) := by omega
    have xl : l[j].after[i] < (l.length : Int) := by omega
    have hbd := hP.bd l[j].after[i].toNat hxo hxl
    have hw : IntKind.i64.wrap (out[l[j].after[i].toNat] + l[l[j].after[i].toNat].long) = out[l[j].after[i].toNat] + l[l[j].after[i].toNat].long := wrapI (by have := htk _ hxl; simp only [Tk.bad] at this; omega)
    subst hso
    obtain ⟨a3, rfl, -⟩ := hP2sl.at (G := G) (i := l[j].after[i].toNat) (by simpa using hxo)
    have k1 := int_get (G := G) hP2sl hxo
    obtain ⟨-, k2, -⟩ := tk_get (G := G) hslB hxl
    simp only [↓R1, R2, R3, R4, TY, reduceIte, Nat.reduceEqDiff, Nat.reduceAdd, Nat.reduceMul, Nat.reduceLT, Nat.reduceLeDiff, reduceCtorEq, decide_true, decide_false, r0, r6, r5, r8, r9, r17, r18, r19, r24, r25, r26, hil, k0, k1, k2, x0, xo, xl, hw, hi63, if_max2]
    refine range_on r26 hil rfl ⟨rfl, r0, r6, r5, r8, ?_, r17, r18, r19, r24, r25, rfl⟩
    have e : out.getD l[j].after[i].toNat 0 + (l[l[j].after[i].toNat]?.map Tk.long).getD 0 = out[l[j].after[i].toNat] + l[l[j].after[i].toNat].long := by
      rw [List.getD_eq_getElem?_getD, List.getElem?_eq_getElem hxo, List.getElem?_eq_getElem hxl]; rfl
    have e2 : atOf l out (l[j].after.take (i + 1)) = max (atOf l out (l[j].after.take i)) (out[l[j].after[i].toNat] + l[l[j].after[i].toNat].long) := by
      rw [List.take_succ_eq_append_getElem hil, atOf, List.foldl_append, List.foldl_cons, List.foldl_nil, e]
      rfl
    rw [e2]
    rfl
  · obtain ⟨m0, m1⟩ := m
    have hil' : i = l[j].after.length := by omega
    subst hil'
    rw [List.take_length] at r9
    have hb := hbnd l[j].after.length
    rw [List.take_length] at hb
    have hw : IntKind.i64.wrap (2000 - l[j].long) = 2000 - l[j].long := wrapI (by simp only [Tk.bad] at hnb; omega)
    have hz1 : zl [.int .i64 0] 1 = [.int .i64 0] := rfl
    have hz3 : zl [.int .i64 0, .int .i64 0, .int .i64 0] 3 = [.int .i64 0, .int .i64 0, .int .i64 0] := rfl
    rw [List.drop_eq_getElem_cons hlt, planGo] at hgo
    simp only at hgo
    have hat : l[j].after.foldl (fun m x => max m (out.getD x.toNat 0 + (l[x.toNat]?.map Tk.long).getD 0)) 0 = atOf l out l[j].after := rfl
    rw [hat] at hb
    generalize atOf l out l[j].after = at_ at hb hgo r9
    simp only [↓R1, R2, R3, R4, TY, reduceIte, Nat.reduceEqDiff, Nat.reduceAdd, Nat.reduceMul, Nat.reduceLT, Nat.reduceLeDiff, reduceCtorEq, decide_true, decide_false, r0, r6, r5, r8, r9, r17, r18, r19, r24, r25, r26, m0, m1, hw, hz1, hz3]
    simp only [Tk.bad] at hnb
    refine ⟨fun ht => ?_, fun ht => ?_⟩
    rotate_left
    · rw [if_neg ht] at hgo
      have hw2 : IntKind.i64.wrap (at_ + l[j].long) = at_ + l[j].long := wrapI (by omega)
      rw [hw2]
      refine ⟨fun h => absurd h (by omega), fun _ => ⟨fun h => hbad _ _ hP2.xt (by rw [hR, hgo, if_pos (by omega)]), fun h => ⟨fun h => absurd h ht, fun _ => ?_⟩⟩⟩
      refine PJ.addO hA hP2 hlt hl60 hb.1 (by omega) fun so' D' hP' => ?_
      simp only [↓R1, R2, R3, R4, TY, reduceIte, Nat.reduceEqDiff, Nat.reduceAdd, Nat.reduceMul, Nat.reduceLT, Nat.reduceLeDiff, reduceCtorEq, decide_true, decide_false, r0, r6, r5, r8, r17, r18, r19, hj63]
      exact range_on q19 hlt rfl ⟨so', su, _, _, hP', by omega, by rw [hgo, if_neg (by omega)], r0, rfl, r5, r17, r18, rfl⟩
    rw [if_pos ht] at hgo
    refine call_of (firstOf_ok (l := used) (tool := l[j].tool) (from_ := at_) (long := l[j].long) (by omega) (chk_valid hP2.ck).2 hb.1 (by omega) (by omega) (by omega) hP2.au.sl) ?_
    simp only [↓R1, R2, R3, R4, TY, reduceIte, Nat.reduceEqDiff, Nat.reduceAdd, Nat.reduceMul, Nat.reduceLT, Nat.reduceLeDiff, reduceCtorEq, decide_true, decide_false, r0, r6, r5, r8, r9, r17, r18, r19, r24, r25, r26, m0, m1, hw, hz1, hz3, hj63]
    have hfs := ff_spec (l := used) (tool := l[j].tool) (long := l[j].long.toNat) (2001 - l[j].long - at_).toNat at_.toNat
    have hz : (2001 - l[j].long - at_).toNat = 0 → ff used l[j].tool l[j].long.toNat at_.toNat (2001 - l[j].long - at_).toNat = -1 := fun h => by rw [h, ff]
    generalize ff used l[j].tool l[j].long.toNat at_.toNat (2001 - l[j].long - at_).toNat = f at hgo hfs hz ⊢
    have hgo' : f < 0 → planGo l l [] [] = ([], 19) := fun h => by
      rw [hgo]; split
      · rfl
      · rfl
    have hf2 : 0 ≤ f → at_ ≤ f ∧ f + l[j].long ≤ 2000 := fun h => by
      obtain ⟨k, hk1, hk2, hk3⟩ := hfs h
      by_cases h0 : (2001 - l[j].long - at_).toNat = 0
      · have := hz h0; omega
      · omega
    refine ⟨fun h => hbad _ _ hP2.xt (by rw [hR, hgo' h]), fun hf0 => ?_⟩
    have hf0' : 0 ≤ f := by omega
    have hf3 := hf2 hf0'
    have hw2 : IntKind.i64.wrap (f + l[j].long) = f + l[j].long := wrapI (by omega)
    rw [hw2]
    refine ⟨fun h => absurd h (by omega), fun _ => ⟨fun _ => ?_, fun h => absurd ht h⟩⟩
    rw [if_neg (by omega), if_neg hf0] at hgo
    obtain ⟨k, hk1, hk2, hk3⟩ := hfs hf0'
    have hu : (Us.mk l[j].tool f l[j].long).valid := ⟨ht, by simp only; omega, by simp only; omega, by simp only; omega, by simp only; omega, by simp only; omega⟩
    refine PJ.addU (u := ⟨l[j].tool, f, l[j].long⟩) hA hP2 (by omega) hu (free_clash hu (by rw [← hk3]; simp only; congr 1; omega)) fun su' D' hP' => ?_
    simp only [↓R1, R2, R3, R4, TY, reduceIte, Nat.reduceEqDiff, Nat.reduceAdd, Nat.reduceMul, Nat.reduceLT, Nat.reduceLeDiff, reduceCtorEq, decide_true, decide_false, r0, r6, r5, r8, r17, r18, r19, hz1, hz3, hj63]
    refine PJ.addO hA hP' hlt hl60 (by omega) (by omega) fun so' D'' hP'' => ?_
    simp only [↓R1, R2, R3, R4, TY, reduceIte, Nat.reduceEqDiff, Nat.reduceAdd, Nat.reduceMul, Nat.reduceLT, Nat.reduceLeDiff, reduceCtorEq, decide_true, decide_false, r0, r6, r5, r8, r17, r18, r19, hj63]
    exact range_on q19 hlt rfl ⟨so', su', _, _, hP'', by simp; omega, hgo, r0, rfl, rfl, r17, r18, rfl⟩
end
end Go.Proofs.Ytjohiapgancocaa.Ab
