/- Orders: Critical. -/
import Derived.Test.YtjohiapgancocaaKe
namespace Go.Proofs.Ytjohiapgancocaa.Ab
open Go.RowKit
set_option linter.unusedVariables false
set_option linter.unusedSimpArgs false
set_option maxRecDepth 100000

theorem nl_later {A C : Hp} {sz : Nat} {css : List (List Value)} (hl : ∀ c ∈ css, c.length = sz) (x : Xt (nlH A sz css).next (nlH A sz css) C) : Sl C sz (nlV A css) css := by
  unfold nlV nlH at *
  split
  · rename_i h0; exact ⟨hl, .inl ⟨rfl, h0⟩⟩
  · rename_i h0
    rw [if_neg h0] at x
    exact ⟨hl, .inr (.inr ⟨_, _, _, 0, _, rfl, rfl, rfl, by rw [x.blk _ (by simp), Hp.push_blk, if_pos rfl], fun j y hj => by simpa using hj⟩)⟩
/-- The critical steps among the first. -/
def crt (ls : List (List Int)) (ts : List Int) (j : Nat) : List Int := ((List.range j).filter fun k => decide (est ls ts k = (lats ls ts ls.length).getD k 0)).map fun (k : Nat) => (k : Int)
theorem crt_succ {ls : List (List Int)} {ts : List Int} {j : Nat} : crt ls ts (j + 1) = crt ls ts j ++ if est ls ts j = (lats ls ts ls.length).getD j 0 then [(j : Int)] else [] := by
  unfold crt
  rw [List.range_succ, List.filter_append, List.map_append]
  congr 1
  by_cases h : est ls ts j = (lats ls ts ls.length).getD j 0
  · rw [List.filter_cons, decide_eq_true h, if_pos rfl, if_pos h]; rfl
  · rw [List.filter_cons, decide_eq_false h, if_neg (by simp), if_neg h]; rfl
theorem crt_len {ls : List (List Int)} {ts : List Int} {j : Nat} : (crt ls ts j).length ≤ j := by
  unfold crt
  rw [List.length_map]
  have := List.length_filter_le (fun k => decide (est ls ts k = (lats ls ts ls.length).getD k 0)) (List.range j)
  rw [List.length_range] at this
  exact this
def crL (ls : List (List Int)) (ts : List Int) : List Int := if timF ls ts = 0 then crt ls ts ls.length else []

section
variable {G : Gl} {fl : Nat} {A : Hp}
set_option maxHeartbeats 8000000 in
theorem critical_ok {v u : Value} {ls : List (List Int)} {ts : List Int} (h : Nst A v ls) (hmx : ∀ k, k < ls.length → (ls.getD k []).length ≤ 9223372036854775807) (ht : Sl A 1 u (ts.map iC)) (hln : ts.length ≤ 9223372036854775807) :
    Sound Try.prog G 28 [v, u] fl A (.tuple [nlV A ((crL ls ts).map iC), .int .i64 (timF ls ts)].toArray) (nlH A 1 ((crL ls ts).map iC)) := by
  refine Sound.of mixed Try.func28 Try.ntmps28 Try.results28 (by kernel_rfl) rfl (by kernel_rfl) (by kernel_rfl) fun hA => ?_
  have cc := fun fl => times_ok (G := G) (fl := fl) h hmx ht hln
  have hx1 := nlH_xt (A := A) (sz := 1) (css := (tmL ls ts).map iC)
  have lat := fun fl => latest_ok (G := G) (fl := fl) (h.xt hA hx1) hmx (ht.xt hA hx1) hln
  have s1 := fun C x => nl_later (A := A) (C := C) (sz := 1) (css := (tmL ls ts).map iC) (i_len _) x
  obtain ⟨vs, hs, hl, hr⟩ := h
  obtain ⟨o, c, rfl⟩ := hs.len
  rw [List.length_map, hl] at cc lat ⊢
  generalize hr1 : nlV A ((tmL ls ts).map iC) = r1 at cc s1
  generalize hA1 : nlH A 1 ((tmL ls ts).map iC) = A1 at cc hx1 lat s1
  simp only [↓R1, R2, R3, R4, TY, reduceIte, Nat.reduceEqDiff, Nat.reduceAdd, Nat.reduceMul, Nat.reduceLT, Nat.reduceLeDiff, reduceCtorEq, decide_true, decide_false, Int.reduceLE, Int.reduceLT, Int.reduceToNat, Int.reduceAdd, Int.reduceSub, Int.reduceMul, Int.reduceEq, FE]
  refine call_of (cc _) ?_
  simp only [↓R1, R2, R3, R4, TY, reduceIte, Nat.reduceEqDiff, Nat.reduceAdd, Nat.reduceMul, Nat.reduceLT, Nat.reduceLeDiff, reduceCtorEq, decide_true, decide_false, Int.reduceLE, Int.reduceLT, Int.reduceToNat, Int.reduceAdd, Int.reduceSub, Int.reduceMul, Int.reduceEq, FE]
  refine ⟨fun h1 => ?_, fun h1 => ?_⟩
  rotate_left
  · have e1 : crL ls ts = [] := by unfold crL; rw [if_neg h1]
    rw [e1]
    exact Ended.acnT hA hx1 Acn.none (i_rb []) (fun u hu => by simp at hu; subst hu; exact RB.int _ _)
  obtain ⟨hb0, hT⟩ := timF_inv h1
  have hn := hT.dag.len
  have e1 : crL ls ts = crt ls ts ls.length := by unfold crL; rw [if_pos h1]
  have e2 : tmL ls ts = earl ls ts ls.length := by unfold tmL; rw [if_pos h1]
  rw [e2] at s1
  simp only [ltV, ltH, if_pos h1] at lat
  rw [e1, h1]
  rw [h1] at lat
  refine call_of (lat _) ?_
  generalize hA2 : A1.push (.row (rI (lats ls ts ls.length)) 0 1) = A2
  have hx2 : Xt A1.next A1 A2 := by rw [← hA2]; exact (Xt.refl A1).push _
  have n2 : A2.next = A1.next + 1 := by rw [← hA2]; rfl
  have b2 : A2.blk A1.next = some (.row (rI (lats ls ts ls.length)) 0 1) := by rw [← hA2, Hp.push_blk, if_pos rfl]
  clear hA2
  have hfl := hA.floor
  have hx1n := hx1.next
  simp only [↓R1, R2, R3, R4, TY, reduceIte, Nat.reduceEqDiff, Nat.reduceAdd, Nat.reduceMul, Nat.reduceLT, Nat.reduceLeDiff, reduceCtorEq, decide_true, decide_false, Int.reduceLE, Int.reduceLT, Int.reduceToNat, Int.reduceAdd, Int.reduceSub, Int.reduceMul, Int.reduceEq, FE]
  refine range_of 31 ls.length (fun j τ B => ∃ sb, Xt A2.next A2 B ∧ Acn B A2.next 1 sb ((crt ls ts j).map iC) ∧ τ 6 = some r1 ∧ τ 9 = some (.slice (some ⟨A1.next, 0, some 0⟩) ls.length ls.length) ∧ τ 11 = some sb ∧ τ 30 = some (.int .i64 ls.length) ∧ τ 31 = some (.int .i64 j)) ?_ ?_
  · exact ⟨_, Xt.refl A2, Acn.none, rfl, rfl, rfl, rfl, rfl⟩
  rintro j τ B hj ⟨sb, hx, hac, q6, q9, q11, q30, q31⟩
  have hxB := hx.next
  simp only [↓R1, R2, R3, R4, TY, reduceIte, Nat.reduceEqDiff, Nat.reduceAdd, Nat.reduceMul, Nat.reduceLT, Nat.reduceLeDiff, reduceCtorEq, decide_true, decide_false, Int.reduceLE, Int.reduceLT, Int.reduceToNat, Int.reduceAdd, Int.reduceSub, Int.reduceMul, Int.reduceEq, FE, q6, q9, q11, q30, q31]
  refine ⟨fun hlt => ?_, fun hlt => ?_⟩
  rotate_left
  · have e : j = ls.length := by omega
    subst e
    exact Ended.acnT hA ((hx1.trans hx2).trans hx) (hac.lower (by omega)) (i_rb _) (fun u hu => by simp at hu; subst hu; exact RB.int _ _)
  have hs1 := s1 B (hx2.trans hx)
  have hlen1 : (earl ls ts ls.length).length = ls.length := earl_len
  obtain ⟨o3, c3, rfl⟩ := hs1.len
  obtain ⟨a3, rfl, -⟩ := hs1.at (G := G) (i := j) (by simp [hlen1]; exact hlt)
  have u3 := int_get (G := G) hs1 (i := j) (by omega)
  rw [← getD_at, earl_get hlt] at u3
  have hab3 : a3.block < B.next := by
    have := nl_lt (sz := 1) hr1
    rw [hA1] at this
    have := hx2.next
    omega
  have bB : B.blk A1.next = some (.row (rI (lats ls ts ls.length)) 0 1) := by rw [hx.blk _ (by omega)]; exact b2
  have v2 : B.get G ⟨A1.next, j, some 0⟩ = some (.int .i64 ((lats ls ts ls.length).getD j 0)) := by simp only [Hp.get, bB, if_true]; exact rI_get (by rw [lats_len]; exact hlt)
  have hA1B : A1.next < B.next := by omega
  rw [List.length_map, hlen1] at q6
  have k6 := q6
  have jl : ((j : Int) < (ls.length : Int)) = True := eq_true (by omega)
  have hj63 : j < 9223372036854775807 := by omega
  have zs : (1 ≤ (zl [Value.int .i64 0] 1).length) = True := eq_true (by decide)
  have zw : zl [Value.int .i64 0] 1 = [Value.int .i64 0] := rfl
  have k31 := q31
  have cl := crt_len (ls := ls) (ts := ts) (j := j)
  have cs := crt_succ (ls := ls) (ts := ts) (j := j)
  have q6' : τ 6 = some (.slice (some a3) ((earl ls ts ls.length).map iC).length c3) := by rw [List.length_map, hlen1]; exact q6
  have lm : (List.map iC (earl ls ts ls.length)).length = ls.length := by rw [List.length_map, hlen1]
  simp only [↓R1, R2, R3, R4, TY, reduceIte, Nat.reduceEqDiff, Nat.reduceAdd, Nat.reduceMul, Nat.reduceLT, Nat.reduceLeDiff, reduceCtorEq, decide_true, decide_false, Int.reduceLE, Int.reduceLT, Int.reduceToNat, Int.reduceAdd, Int.reduceSub, Int.reduceMul, Int.reduceEq, FE, q6, q9, q11, q30, q31, lm, hlt, u3, hab3, v2, hA1B, jl, hj63, zs, zw, Nat.mul_one]
  refine ⟨fun he => ?_, fun he => ?_⟩
  · refine app1 (lo := A2.next) (sz := 1) (cl := iC j) ty40 rfl ty3 rfl (by omega) rfl hac (by omega) hx.next rfl (by simp [iC, Value.oneCell']) (by simp; omega) (by simp; omega) ?_
    intro sb' D hac' hxD hnD hfD hidD
    simp only [↓R1, R2, R3, R4, TY, reduceIte, Nat.reduceEqDiff, Nat.reduceAdd, Nat.reduceMul, Nat.reduceLT, Nat.reduceLeDiff, reduceCtorEq, decide_true, decide_false, Int.reduceLE, Int.reduceLT, Int.reduceToNat, Int.reduceAdd, Int.reduceSub, Int.reduceMul, Int.reduceEq, FE, q6, q9, q11, q30, q31, hj63]
    refine range_on k31 hlt rfl ⟨sb', ⟨fun id hid => (hxD.blk id hid).trans (hx.blk id hid), by omega⟩, ?_, q6', q9, rfl, q30, rfl⟩
    rw [cs, if_pos he, List.map_append]; exact hac'
  · refine range_on k31 hlt rfl ⟨sb, hx, ?_, q6, q9, q11, q30, rfl⟩
    rw [cs, if_neg he, List.append_nil]; exact hac
end
end Go.Proofs.Ytjohiapgancocaa.Ab
