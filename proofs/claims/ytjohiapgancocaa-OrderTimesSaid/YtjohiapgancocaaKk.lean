/- Orders: OrderTimes. -/
import Derived.Test.YtjohiapgancocaaKj
namespace Go.Proofs.Ytjohiapgancocaa.Ab
open Go.RowKit
set_option linter.unusedVariables false
set_option linter.unusedSimpArgs false
set_option maxRecDepth 100000
section
variable {G : Gl} {fl : Nat} {A : Hp}
set_option maxHeartbeats 8000000 in
theorem orderTimes_calls {v u : Value} {ls : List (List Int)} {ts : List Int} (h : Nst A v ls) (hmx : ∀ k, k < ls.length → (ls.getD k []).length ≤ 9223372036854775807) (ht : Sl A 1 u (ts.map iC)) (hln : ts.length ≤ 9223372036854775807) :
    ∀ (μ : Mu) (W : World) (args' : Array Value), HR G μ fl A W → fl ≤ A.next → VRa μ A [v, u].toArray args' →
    Calls Try.prog 6 args' W fun e w' => ∃ u, e = .returned u ∧ ∃ ν, VR ν A (.bool true) u ∧ HR G ν fl A w' ∧ Trans fl μ A W ν A w' := by
  refine calls_of mixed Try.func6 Try.ntmps6 Try.results6 (by kernel_rfl) rfl (by kernel_rfl) (by kernel_rfl) fun hA => ?_
  have c1 := fun fl => times_ok (G := G) (fl := fl) h hmx ht hln
  have x1 := nlH_xt (A := A) (sz := 1) (css := (tmL ls ts).map iC)
  have s1 := fun C x => nl_later (A := A) (C := C) (sz := 1) (css := (tmL ls ts).map iC) (i_len _) x
  generalize hA1 : nlH A 1 ((tmL ls ts).map iC) = A1 at c1 x1 s1
  have c2 := fun fl => latest_ok (G := G) (fl := fl) (h.xt hA x1) hmx (ht.xt hA x1) hln
  have x2 : Xt A1.next A1 (ltH A1 ls ts) := by
    unfold ltH; split
    · exact (Xt.refl _).push _
    · exact Xt.refl _
  have s2 : timF ls ts = 0 → ∀ C, Xt (ltH A1 ls ts).next (ltH A1 ls ts) C → Sl C 1 (ltV A1 ls ts) ((lats ls ts ls.length).map iC) := fun h0 C x => by
    unfold ltV ltH at *
    rw [if_pos h0] at x ⊢
    exact rI_sl (by rw [x.blk _ (by simp), Hp.push_blk, if_pos rfl]) (by rw [lats_len])
  generalize ltH A1 ls ts = A2 at c2 x2 s2
  have y2 := x1.trans x2
  have c3 := fun fl => critical_ok (G := G) (fl := fl) (h.xt hA y2) hmx (ht.xt hA y2) hln
  have x3 := nlH_xt (A := A2) (sz := 1) (css := (crL ls ts).map iC)
  have s3 := fun C x => nl_later (A := A2) (C := C) (sz := 1) (css := (crL ls ts).map iC) (i_len _) x
  generalize nlH A2 1 ((crL ls ts).map iC) = A3 at c3 x3 s3
  have y3 := y2.trans x3
  have c4 := fun fl => timesFault_ok (G := G) (fl := fl) (h.xt hA y3) hmx (ht.xt hA y3) hln
  have c5 := fun fl => ordered_ok (G := G) (fl := fl) (A := A3)
  simp only [↓R1, R2, R3, R4, TY, reduceIte, Nat.reduceEqDiff, Nat.reduceAdd, Nat.reduceMul, Nat.reduceLT, Nat.reduceLeDiff, reduceCtorEq, decide_true, decide_false, Int.reduceLE, Int.reduceLT, Int.reduceToNat, Int.reduceAdd, Int.reduceSub, Int.reduceMul, Int.reduceEq, FE]
  refine call_of (c1 _) ?_
  simp only [↓R1, R2, R3, R4, TY, reduceIte, Nat.reduceEqDiff, Nat.reduceAdd, Nat.reduceMul, Nat.reduceLT, Nat.reduceLeDiff, reduceCtorEq, decide_true, decide_false, Int.reduceLE, Int.reduceLT, Int.reduceToNat, Int.reduceAdd, Int.reduceSub, Int.reduceMul, Int.reduceEq, FE]
  refine call_of (c2 _) ?_
  simp only [↓R1, R2, R3, R4, TY, reduceIte, Nat.reduceEqDiff, Nat.reduceAdd, Nat.reduceMul, Nat.reduceLT, Nat.reduceLeDiff, reduceCtorEq, decide_true, decide_false, Int.reduceLE, Int.reduceLT, Int.reduceToNat, Int.reduceAdd, Int.reduceSub, Int.reduceMul, Int.reduceEq, FE]
  refine call_of (c3 _) ?_
  simp only [↓R1, R2, R3, R4, TY, reduceIte, Nat.reduceEqDiff, Nat.reduceAdd, Nat.reduceMul, Nat.reduceLT, Nat.reduceLeDiff, reduceCtorEq, decide_true, decide_false, Int.reduceLE, Int.reduceLT, Int.reduceToNat, Int.reduceAdd, Int.reduceSub, Int.reduceMul, Int.reduceEq, FE]
  refine call_of (c4 _) ?_
  simp only [↓R1, R2, R3, R4, TY, reduceIte, Nat.reduceEqDiff, Nat.reduceAdd, Nat.reduceMul, Nat.reduceLT, Nat.reduceLeDiff, reduceCtorEq, decide_true, decide_false, Int.reduceLE, Int.reduceLT, Int.reduceToNat, Int.reduceAdd, Int.reduceSub, Int.reduceMul, Int.reduceEq, FE]
  refine call_of (c5 _) ?_
  simp only [↓R1, R2, R3, R4, TY, reduceIte, Nat.reduceEqDiff, Nat.reduceAdd, Nat.reduceMul, Nat.reduceLT, Nat.reduceLeDiff, reduceCtorEq, decide_true, decide_false, Int.reduceLE, Int.reduceLT, Int.reduceToNat, Int.reduceAdd, Int.reduceSub, Int.reduceMul, Int.reduceEq, FE]
  refine ⟨fun h0 => ?_, fun h0 => ?_⟩
  rotate_left
  · have e1 : nlV A ((tmL ls ts).map iC) = .slice none 0 0 := by unfold tmL; rw [if_neg h0]; rfl
    have e2 : ltV A1 ls ts = .slice none 0 0 := by unfold ltV; rw [if_neg h0]
    have e3 : nlV A2 ((crL ls ts).map iC) = .slice none 0 0 := by unfold crL; rw [if_neg h0]; rfl
    have e4 : tmE ls ts = 0 := by unfold tmE; rw [if_neg h0]
    have w0 : IntKind.i64.wrap 0 = 0 := rfl
    simp only [↓R1, R2, R3, R4, TY, reduceIte, Nat.reduceEqDiff, Nat.reduceAdd, Nat.reduceMul, Nat.reduceLT, Nat.reduceLeDiff, reduceCtorEq, decide_true, decide_false, Int.reduceLE, Int.reduceLT, Int.reduceToNat, Int.reduceAdd, Int.reduceSub, Int.reduceMul, Int.reduceEq, FE, e1, e2, e3, e4, w0, Int.natCast_zero, Int.add_zero]
    exact Ended.back hA y3 rfl (RB.bool _)
  obtain ⟨hb0, hT⟩ := timF_inv h0
  have c6 := fun fl => startsOf_ok (G := G) (fl := fl) (h.xt hA y3) (ht.xt hA y3) hT hmx
  have x4 := nlH_xt (A := A3) (sz := 1) (css := (earl ls ts ls.length).map iC)
  have s4 := fun C x => nl_later (A := A3) (C := C) (sz := 1) (css := (earl ls ts ls.length).map iC) (i_len _) x
  generalize hA4 : nlH A3 1 ((earl ls ts ls.length).map iC) = A4 at c6 x4 s4
  have y4 := y3.trans x4
  have c7 := fun fl => latestOf_ok (G := G) (fl := fl) (h.xt hA y4) hmx (ht.xt hA y4) hT (befF_nodup hb0)
  have x5 := nlH_xt (A := A4) (sz := 1) (css := (lats ls ts ls.length).map iC)
  have s5 := fun C x => nl_later (A := A4) (C := C) (sz := 1) (css := (lats ls ts ls.length).map iC) (i_len _) x
  generalize hA5 : nlH A4 1 ((lats ls ts ls.length).map iC) = A5 at c7 x5 s5
  have y5 := y4.trans x5
  generalize hr4 : nlV A3 ((earl ls ts ls.length).map iC) = r4 at c6 s4
  generalize hr5 : nlV A4 ((lats ls ts ls.length).map iC) = r5 at c7 s5
  have q4 := s4 A5 x5
  have q5 := s5 A5 (Xt.refl _)
  have l4 : (earl ls ts ls.length).length = ls.length := earl_len
  have l5 : (lats ls ts ls.length).length = ls.length := lats_len
  obtain ⟨o4, p4, e4⟩ := q4.len
  rw [List.length_map, l4] at e4
  subst e4
  refine call_of (c6 _) ?_
  simp only [↓R1, R2, R3, R4, TY, reduceIte, Nat.reduceEqDiff, Nat.reduceAdd, Nat.reduceMul, Nat.reduceLT, Nat.reduceLeDiff, reduceCtorEq, decide_true, decide_false, Int.reduceLE, Int.reduceLT, Int.reduceToNat, Int.reduceAdd, Int.reduceSub, Int.reduceMul, Int.reduceEq, FE]
  refine call_of (c7 _) ?_
  simp only [↓R1, R2, R3, R4, TY, reduceIte, Nat.reduceEqDiff, Nat.reduceAdd, Nat.reduceMul, Nat.reduceLT, Nat.reduceLeDiff, reduceCtorEq, decide_true, decide_false, Int.reduceLE, Int.reduceLT, Int.reduceToNat, Int.reduceAdd, Int.reduceSub, Int.reduceMul, Int.reduceEq, FE]
  have hfl := hA.floor
  have hn := hT.dag.len
  have y5n := y5.next
  refine range_of 81 ls.length (fun j τ D => ∃ sb, Xt A5.next A5 D ∧ Acn D A5.next 1 sb ((crt ls ts j).map iC) ∧ τ 5 = some (nlV A ((tmL ls ts).map iC)) ∧ τ 6 = some (.int .i64 (tmE ls ts)) ∧ τ 8 = some (ltV A1 ls ts) ∧ τ 10 = some (nlV A2 ((crL ls ts).map iC)) ∧
      τ 13 = some (.slice o4 ls.length p4) ∧ τ 14 = some (.int .i64 (tend ls ts ls.length)) ∧ τ 15 = some r5 ∧ τ 16 = some sb ∧ τ 80 = some (.int .i64 ls.length) ∧ τ 81 = some (.int .i64 j)) ?_ ?_
  · exact ⟨_, Xt.refl _, Acn.none, rfl, rfl, rfl, rfl, rfl, rfl, rfl, rfl, rfl, rfl⟩
  rintro j τ D hj ⟨sb, hx, hac, p5, p6, p8, p10, p13, p14, p15, p16, p80, p81⟩
  have hxn := hx.next
  simp only [↓R1, R2, R3, R4, TY, reduceIte, Nat.reduceEqDiff, Nat.reduceAdd, Nat.reduceMul, Nat.reduceLT, Nat.reduceLeDiff, reduceCtorEq, decide_true, decide_false, Int.reduceLE, Int.reduceLT, Int.reduceToNat, Int.reduceAdd, Int.reduceSub, Int.reduceMul, Int.reduceEq, FE, p5, p6, p8, p10, p13, p14, p15, p16, p80, p81]
  refine ⟨fun hlt => ?_, fun hlt => ?_⟩
  rotate_left
  · have e : j = ls.length := by omega
    subst e
    have t1 : tmL ls ts = earl ls ts ls.length := by unfold tmL; rw [if_pos h0]
    have t2 : tmE ls ts = tend ls ts ls.length := by unfold tmE; rw [if_pos h0]
    have t3 : crL ls ts = crt ls ts ls.length := by unfold crL; rw [if_pos h0]
    have cl := crt_len (ls := ls) (ts := ts) (j := ls.length)
    have eq1 := fun fl => iequal_ok (G := G) (fl := fl) (A := D) (by rw [t1, l4]; omega) (s1 D ((((x2.trans x3).trans x4).trans x5).trans hx)) (s4 D (x5.trans hx))
    have eq2 := fun fl => iequal_ok (G := G) (fl := fl) (A := D) (by rw [l5]; omega) (s2 h0 D (((x3.trans x4).trans x5).trans hx)) (s5 D hx)
    have eq3 := fun fl => iequal_ok (G := G) (fl := fl) (A := D) (by rw [t3]; omega) (s3 D ((x4.trans x5).trans hx)) hac.sl
    rw [decide_eq_true t1] at eq1
    rw [decide_eq_true rfl] at eq2
    rw [decide_eq_true t3] at eq3
    refine ⟨fun _ => ?_, fun q => absurd t2 q⟩
    refine call_of (eq1 _) ?_
    simp only [↓R1, R2, R3, R4, TY, reduceIte, Nat.reduceEqDiff, Nat.reduceAdd, Nat.reduceMul, Nat.reduceLT, Nat.reduceLeDiff, reduceCtorEq, decide_true, decide_false, Int.reduceLE, Int.reduceLT, Int.reduceToNat, Int.reduceAdd, Int.reduceSub, Int.reduceMul, Int.reduceEq, FE, p5, p6, p8, p10, p13, p14, p15, p16, p80, p81]
    refine call_of (eq2 _) ?_
    simp only [↓R1, R2, R3, R4, TY, reduceIte, Nat.reduceEqDiff, Nat.reduceAdd, Nat.reduceMul, Nat.reduceLT, Nat.reduceLeDiff, reduceCtorEq, decide_true, decide_false, Int.reduceLE, Int.reduceLT, Int.reduceToNat, Int.reduceAdd, Int.reduceSub, Int.reduceMul, Int.reduceEq, FE, p5, p6, p8, p10, p13, p14, p15, p16, p80, p81]
    refine call_of (eq3 _) ?_
    simp only [↓R1, R2, R3, R4, TY, reduceIte, Nat.reduceEqDiff, Nat.reduceAdd, Nat.reduceMul, Nat.reduceLT, Nat.reduceLeDiff, reduceCtorEq, decide_true, decide_false, Int.reduceLE, Int.reduceLT, Int.reduceToNat, Int.reduceAdd, Int.reduceSub, Int.reduceMul, Int.reduceEq, FE, p5, p6, p8, p10, p13, p14, p15, p16, p80, p81]
    exact Ended.back hA (y5.trans hx) rfl (RB.bool _)
  have hs4 := s4 D (x5.trans hx)
  have hs5 := s5 D hx
  obtain ⟨a4, rfl, -⟩ := hs4.at (G := G) (i := j) (by simp [l4]; exact hlt)
  have u4 := int_get (G := G) hs4 (i := j) (by omega)
  rw [← getD_at, earl_get hlt] at u4
  obtain ⟨o5, c5', rfl⟩ := hs5.len
  obtain ⟨a5, rfl, -⟩ := hs5.at (G := G) (i := j) (by simp [l5]; exact hlt)
  have u5 := int_get (G := G) hs5 (i := j) (by omega)
  rw [← getD_at] at u5
  have x5n := x5.next
  have hab4 : a4.block < D.next := by
    have := nl_lt (sz := 1) hr4
    rw [hA4] at this
    omega
  have hab5 : a5.block < D.next := by
    have := nl_lt (sz := 1) hr5
    rw [hA5] at this
    omega
  have lm : (List.map iC (lats ls ts ls.length)).length = ls.length := by rw [List.length_map, l5]
  have k15 := p15
  rw [lm] at k15
  have hj63 : j < 9223372036854775807 := by omega
  have zs : (1 ≤ (zl [Value.int .i64 0] 1).length) = True := eq_true (by decide)
  have zw : zl [Value.int .i64 0] 1 = [Value.int .i64 0] := rfl
  have k81 := p81
  have cl := crt_len (ls := ls) (ts := ts) (j := j)
  have cs := crt_succ (ls := ls) (ts := ts) (j := j)
  simp only [↓R1, R2, R3, R4, TY, reduceIte, Nat.reduceEqDiff, Nat.reduceAdd, Nat.reduceMul, Nat.reduceLT, Nat.reduceLeDiff, reduceCtorEq, decide_true, decide_false, Int.reduceLE, Int.reduceLT, Int.reduceToNat, Int.reduceAdd, Int.reduceSub, Int.reduceMul, Int.reduceEq, FE, p5, p6, p8, p10, p13, p14, k15, p16, p80, p81, lm, hlt, u4, u5, hab4, hab5, hj63, zs, zw, Nat.mul_one]
  refine ⟨fun he => ?_, fun he => ?_⟩
  · refine app1 (lo := A5.next) (sz := 1) (cl := iC j) ty40 rfl ty3 rfl (by omega) rfl hac (by omega) hx.next rfl (by simp [iC, Value.oneCell']) (by simp; omega) (by simp; omega) ?_
    intro sb' E hac' hxD hnD hfD hidD
    simp only [↓R1, R2, R3, R4, TY, reduceIte, Nat.reduceEqDiff, Nat.reduceAdd, Nat.reduceMul, Nat.reduceLT, Nat.reduceLeDiff, reduceCtorEq, decide_true, decide_false, Int.reduceLE, Int.reduceLT, Int.reduceToNat, Int.reduceAdd, Int.reduceSub, Int.reduceMul, Int.reduceEq, FE, p5, p6, p8, p10, p13, p14, k15, p16, p80, p81, hj63]
    refine range_on k81 hlt rfl ⟨sb', ⟨fun id hid => (hxD.blk id hid).trans (hx.blk id hid), by omega⟩, ?_, p5, p6, p8, p10, p13, p14, p15, rfl, p80, rfl⟩
    rw [cs, if_pos he, List.map_append]; exact hac'
  · refine range_on k81 hlt rfl ⟨sb, hx, ?_, p5, p6, p8, p10, p13, p14, k15, p16, p80, rfl⟩
    rw [cs, if_neg he, List.append_nil]; exact hac
end
end Go.Proofs.Ytjohiapgancocaa.Ab
