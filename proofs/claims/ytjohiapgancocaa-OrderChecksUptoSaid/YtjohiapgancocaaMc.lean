/- Orders: Apply; slices of steps. -/
import Derived.Test.YtjohiapgancocaaMb
namespace Go.Proofs.Ytjohiapgancocaa.Ab
open Go.RowKit
set_option linter.unusedVariables false
set_option linter.unusedSimpArgs false
set_option maxRecDepth 100000

/-- A step: five numbers. -/
structure St where
  (a b c d e : Int)
deriving DecidableEq
def tC (s : St) : List Value := [.int .i64 s.a, .int .i64 s.b, .int .i64 s.c, .int .i64 s.d, .int .i64 s.e]
def st0 : St := ⟨0, 0, 0, 0, 0⟩
theorem t_rb {n : Nat} (l : List St) : ∀ c ∈ l.map tC, ∀ u ∈ c, RB n u := by
  intro c hc u hu
  obtain ⟨x, _, rfl⟩ := List.mem_map.1 hc
  simp only [tC, List.mem_cons, List.not_mem_nil, or_false] at hu
  rcases hu with rfl | rfl | rfl | rfl | rfl <;> exact RB.int _ _
theorem Sl.pre {A : Hp} {sz n c j : Nat} {a : Addr} {css : List (List Value)} (h : Sl A sz (.slice (some a) n c) css) (hj : j ≤ n) : Sl A sz (.slice (some (aadd a 0)) j c) (css.take j) := by
  have e : aadd a 0 = a := by cases a; simp [aadd]
  rw [e]
  refine ⟨fun x hx => h.1 x (List.mem_of_mem_take hx), ?_⟩
  rcases h.2 with ⟨h1, _⟩ | ⟨a', g, h1, h2, h3, h4, h5⟩ | ⟨a', n', c', g, ds, h1, hn, hg, hb, hr⟩
  · cases h1
  · cases h1
    obtain rfl : j = 0 := by omega
    exact .inr (.inl ⟨a, g, rfl, by simp, h3, h4, h5⟩)
  · cases h1
    refine .inr (.inr ⟨a, j, c, g, ds, rfl, by simp; omega, hg, hb, fun i x hi => hr i x ?_⟩)
    rw [← List.take_append_drop j css, List.flatten_append, List.getElem?_append_left (List.getElem?_eq_some_iff.1 hi).1]
    exact hi
def okA (n : Nat) (p : List Int) (j : Nat) : Bool := decide (0 ≤ p.getD j 0 ∧ p.getD j 0 < n ∧ p.getD j 0 ∉ p.take j)
def appR (l : List St) (p : List Int) : List St × Nat :=
  if l.length ≠ p.length then ([], 3) else if (List.range p.length).all (okA l.length p) = true then (p.map fun k => l.getD k.toNat st0, 0) else ([], 1)
section
variable {G : Gl} {fl : Nat} {A : Hp}
theorem st_get {B : Hp} {a : Addr} {n c : Nat} {l : List St} (h : Sl B 5 (.slice (some a) n c) (l.map tC)) {i : Nat} (hi : i < l.length) :
    B.get G (aadd a (i * 5)) = some (.int .i64 l[i].a) ∧ B.get G (aadd a (i * 5 + 1)) = some (.int .i64 l[i].b) ∧ B.get G (aadd a (i * 5 + 2)) = some (.int .i64 l[i].c) ∧ B.get G (aadd a (i * 5 + 3)) = some (.int .i64 l[i].d) ∧ B.get G (aadd a (i * 5 + 4)) = some (.int .i64 l[i].e) := by
  obtain ⟨a', h1, h2⟩ := h.at (G := G) (i := i) (by simpa using hi)
  cases h1
  simp only [List.getElem_map] at h2
  exact ⟨h2 0 _ rfl, h2 1 _ rfl, h2 2 _ rfl, h2 3 _ rfl, h2 4 _ rfl⟩
set_option maxHeartbeats 4000000 in
theorem apply_ok {v u : Value} {l : List St} {p : List Int} (hs : Sl A 5 v (l.map tC)) (hl : l.length ≤ 1048576) (hu : Sl A 1 u (p.map iC)) (hlp : p.length ≤ 1048576) :
    Sound Try.prog G 39 [v, u] fl A (.tuple [nlV A ((appR l p).1.map tC), .int .i64 (((appR l p).2 : Nat) : Int)].toArray) (nlH A 5 ((appR l p).1.map tC)) := by
  refine Sound.of mixed Try.func39 Try.ntmps39 Try.results39 (by kernel_rfl) rfl (by kernel_rfl) (by kernel_rfl) fun hA => ?_
  obtain ⟨o, c, rfl⟩ := hs.len
  rw [List.length_map] at hs ⊢
  obtain ⟨o2, c2, rfl⟩ := hu.len
  rw [List.length_map] at hu ⊢
  have bad : ∀ (e : Nat) (B : Hp), Xt A.next A B → appR l p = ([], e) → Ended A (.tuple [Value.slice none 0 0, .int .i64 ((e : Nat) : Int)].toArray) B (.tuple [nlV A ((appR l p).1.map tC), .int .i64 (((appR l p).2 : Nat) : Int)].toArray) (nlH A 5 ((appR l p).1.map tC)) := by
    intro e B hx h
    rw [h]
    exact Ended.acnT (us := [.int .i64 ((e : Nat) : Int)]) hA hx Acn.none (t_rb []) (fun w hw => by simp at hw; subst hw; exact RB.int _ _)
  have cN : ∀ m n : Nat, ((m : Int) = (n : Int)) = (m = n) := fun m n => propext (by omega)
  simp only [↓R1, R2, R3, R4, TY, reduceIte, Nat.reduceEqDiff, Nat.reduceAdd, Nat.reduceMul, Nat.reduceLT, Nat.reduceLeDiff, reduceCtorEq, decide_true, decide_false, Int.reduceLE, Int.reduceLT, Int.reduceToNat, Int.reduceAdd, Int.reduceSub, Int.reduceMul, Int.reduceEq, FE, cN]
  refine ⟨fun h1 => ?_, fun h1 => bad 3 _ (Xt.refl _) (by rw [appR, if_pos h1])⟩
  have badJ : ∀ j, j < p.length → okA l.length p j = false → appR l p = ([], 1) := fun j hj h => by
    rw [appR, if_neg (by simpa using h1), if_neg]
    rw [List.all_eq_true]
    intro h2
    have := h2 j (List.mem_range.2 hj)
    rw [h] at this; cases this
  refine range_of 16 p.length (fun j τ B => ∃ sb, Xt A.next A B ∧ Acn B A.next 5 sb (((p.take j).map fun k => l.getD k.toNat st0).map tC) ∧ (List.range j).all (okA l.length p) = true ∧ τ 0 = some (.slice o l.length c) ∧ τ 1 = some (.slice o2 p.length c2) ∧ τ 6 = some sb ∧
    τ 14 = some (.slice o2 p.length c2) ∧ τ 15 = some (.int .i64 p.length) ∧ τ 16 = some (.int .i64 (j : Nat))) ?_ ?_
  · exact ⟨_, Xt.refl A, Acn.none, rfl, rfl, rfl, rfl, rfl, rfl, rfl⟩
  rintro j τ B hj ⟨sb, hx, hac, hall, q0, q1, q6, q14, q15, q16⟩
  simp only [↓R1, R2, R3, R4, TY, reduceIte, Nat.reduceEqDiff, Nat.reduceAdd, Nat.reduceMul, Nat.reduceLT, Nat.reduceLeDiff, reduceCtorEq, decide_true, decide_false, Int.reduceLE, Int.reduceLT, Int.reduceToNat, Int.reduceAdd, Int.reduceSub, Int.reduceMul, Int.reduceEq, FE, q0, q1, q6, q14, q15, q16]
  refine ⟨fun hlt => ?_, fun hlt => ?_⟩
  rotate_left
  · obtain rfl : j = p.length := by omega
    have e : appR l p = (p.map fun k => l.getD k.toNat st0, 0) := by rw [appR, if_neg (by simpa using h1), if_pos hall]
    rw [List.take_length] at hac
    rw [e]
    exact Ended.acnT (us := [.int .i64 0]) hA hx hac (t_rb _) (fun w hw => by simp at hw; subst hw; exact RB.int _ _)
  obtain ⟨a2, rfl, -⟩ := hu.at (G := G) (i := j) (by simpa using hlt)
  have huB := hu.xt hA hx
  have hab2 : a2.block < B.next := Nat.lt_of_lt_of_le (hu.lt hA) hx.next
  have hfl : fl ≤ B.next := Nat.le_trans hA.floor hx.next
  have u2 := int_get (G := G) huB hlt
  have hez := huB.esz
  have k16 := q16
  have hj63 : j < 9223372036854775807 := by omega
  obtain ⟨x, hxe⟩ : ∃ x, x = p[j] := ⟨_, rfl⟩
  rw [← hxe] at u2
  have hgd : p.getD j 0 = x := by rw [getD_at hlt, hxe]
  have hok : okA l.length p j = decide (0 ≤ x ∧ x < l.length ∧ x ∉ p.take j) := by rw [okA, hgd]
  have hpre := huB.pre (j := j) (Nat.le_of_lt hlt)
  rw [← List.map_take] at hpre
  have ct := fun fl y => icontains_ok (G := G) (fl := fl) hpre (by simp; omega) y
  have htk : p.take (j + 1) = p.take j ++ [x] := by rw [List.take_succ_eq_append_getElem hlt, hxe]
  have z0 : (0 : Int) ≤ (j : Int) := by omega
  simp only [↓R1, R2, R3, R4, TY, reduceIte, Nat.reduceEqDiff, Nat.reduceAdd, Nat.reduceMul, Nat.reduceLT, Nat.reduceLeDiff, reduceCtorEq, decide_true, decide_false, Int.reduceLE, Int.reduceLT, Int.reduceToNat, Int.reduceAdd, Int.reduceSub, Int.reduceMul, Int.reduceEq, FE, q0, q1, q6, q14, q15, q16, hlt, hj, hab2, hfl, u2, hj63, hez, z0, Nat.mul_one]
  refine ⟨fun g1 => bad 1 _ hx (badJ j hlt (by rw [hok]; exact decide_eq_false fun h => by omega)), fun g1 => ⟨fun g2 => bad 1 _ hx (badJ j hlt (by rw [hok]; exact decide_eq_false fun h => by omega)), fun g2 => ?_⟩⟩
  refine call_of (ct _ _) ?_
  by_cases g3 : x ∈ p.take j
  · have f3 : (x ∈ p.take j) = True := eq_true g3
    simp only [↓R1, R2, R3, R4, TY, reduceIte, Nat.reduceEqDiff, Nat.reduceAdd, Nat.reduceMul, Nat.reduceLT, Nat.reduceLeDiff, reduceCtorEq, decide_true, decide_false, Int.reduceLE, Int.reduceLT, Int.reduceToNat, Int.reduceAdd, Int.reduceSub, Int.reduceMul, Int.reduceEq, FE, f3]
    exact bad 1 _ hx (badJ j hlt (by rw [hok]; exact decide_eq_false fun h => h.2.2 g3))
  have f3 : (x ∈ p.take j) = False := eq_false g3
  obtain ⟨k, hk⟩ : ∃ k : Nat, x = k := ⟨x.toNat, by omega⟩
  subst hk
  have hkl : k < l.length := by omega
  obtain ⟨a, rfl, -⟩ := hs.at (G := G) (i := k) (by simpa using hkl)
  have hsB := hs.xt hA hx
  have hab : a.block < B.next := Nat.lt_of_lt_of_le (hs.lt hA) hx.next
  obtain ⟨y0, y1, y2, y3, y4⟩ := st_get (G := G) hsB hkl
  have hk0 : (0 : Int) ≤ (k : Int) := by omega
  have hz5 : zl [Value.int .i64 0, .int .i64 0, .int .i64 0, .int .i64 0, .int .i64 0] 5 = [Value.int .i64 0, .int .i64 0, .int .i64 0, .int .i64 0, .int .i64 0] := rfl
  simp only [↓R1, R2, R3, R4, TY, reduceIte, Nat.reduceEqDiff, Nat.reduceAdd, Nat.reduceMul, Nat.reduceLT, Nat.reduceLeDiff, reduceCtorEq, decide_true, decide_false, Int.reduceLE, Int.reduceLT, Int.reduceToNat, Int.reduceAdd, Int.reduceSub, Int.reduceMul, Int.reduceEq, FE, f3, q0, q1, q6, q14, q15, q16, hlt, hab, hfl, hkl, hk0, y0, y1, y2, y3, y4, hz5]
  have hgk : l.getD k st0 = l[k] := by simp [List.getD, hkl]
  refine app1 (lo := A.next) (sz := 5) (cl := tC l[k]) ty57 rfl ty66 rfl (by omega) rfl hac hA.floor hx.next rfl (by simp [tC, Value.oneCell']) (by simp; omega) (by simp; omega) ?_
  intro sb' D hac' hxD hnD hfD hidD
  have hxAD : Xt A.next A D := ⟨fun id hid => (hxD.blk id hid).trans (hx.blk id hid), by have := hx.next; omega⟩
  simp only [↓R1, R2, R3, R4, TY, reduceIte, Nat.reduceEqDiff, Nat.reduceAdd, Nat.reduceMul, Nat.reduceLT, Nat.reduceLeDiff, reduceCtorEq, decide_true, decide_false, Int.reduceLE, Int.reduceLT, Int.reduceToNat, Int.reduceAdd, Int.reduceSub, Int.reduceMul, Int.reduceEq, FE, q0, q1, q6, q14, q15, q16, hj63]
  refine range_on k16 hlt rfl ⟨sb', hxAD, ?_, ?_, q0, q1, rfl, q14, q15, rfl⟩
  · rw [htk, List.map_append, List.map_append]
    simp only [List.map_cons, List.map_nil, Int.toNat_natCast, hgk]
    exact hac'
  · rw [List.range_succ, List.all_append, hall]
    simp only [List.all_cons, List.all_nil, Bool.and_true, Bool.true_and]
    rw [hok]
    exact decide_eq_true ⟨hk0, by omega, g3⟩
theorem eqD_st (u v : St) : eqD Try.prog 20 66 (.agg (tC u).toArray) (.agg (tC v).toArray) = some (decide (u = v)) := by
  obtain ⟨a, b, c, d, e⟩ := u
  obtain ⟨a', b', c', d', e'⟩ := v
  have hst : Try.prog.stoodInHeld 66 = false := by kernel_rfl
  simp [eqD, tC, Try.underlying66, Try.underlying3, eqFs, partV, ty3, hst]
  rfl
theorem equalT_ok {v1 v2 : Value} {l1 l2 : List St} (hl : l1.length < 9223372036854775807) (h1 : Sl A 5 v1 (l1.map tC)) (h2 : Sl A 5 v2 (l2.map tC)) : Sound Try.prog G 42 [v1, v2] fl A (.bool (decide (l1 = l2))) A := by
  refine Sound.of mixed Try.func42 Try.ntmps42 Try.results42 (by kernel_rfl) rfl (by kernel_rfl) (by kernel_rfl) fun hA => ?_
  obtain ⟨o1, c1, rfl⟩ := h1.len
  obtain ⟨o2, c2, rfl⟩ := h2.len
  rw [List.length_map] at h1 h2 ⊢
  rw [List.length_map]
  have hcast : ((l1.length : Int) = (l2.length : Int)) = (l1.length = l2.length) := propext Int.ofNat_inj
  simp only [↓R1, R2, R3, R4, TY, reduceIte, Nat.reduceEqDiff, Nat.reduceAdd, Nat.reduceMul, Nat.reduceLT, Nat.reduceLeDiff, reduceCtorEq, decide_true, decide_false, Int.reduceLE, Int.reduceLT, Int.reduceToNat, Int.reduceAdd, Int.reduceSub, Int.reduceMul, Int.reduceEq, FE, hcast]
  refine ⟨fun he => ?_, fun he => ?_⟩
  rotate_left
  · exact Ended.back hA (Xt.refl A) (congrArg _ (dec_f fun h => he (by rw [h]))) (RB.bool _)
  refine range_of 13 l1.length (fun j τ B => B = A ∧ τ 0 = some (.slice o1 l1.length c1) ∧ τ 1 = some (.slice o2 l2.length c2) ∧ τ 12 = some (.int .i64 l1.length) ∧ τ 13 = some (.int .i64 j) ∧ l1.take j = l2.take j) ?_ ?_
  · exact ⟨rfl, rfl, rfl, rfl, rfl, rfl⟩
  rintro j τ B hj ⟨rfl, q0, q1, q12, q13, hpre⟩
  simp only [↓R1, R2, R3, R4, TY, reduceIte, Nat.reduceEqDiff, Nat.reduceAdd, Nat.reduceMul, Nat.reduceLT, Nat.reduceLeDiff, reduceCtorEq, decide_true, decide_false, Int.reduceLE, Int.reduceLT, Int.reduceToNat, Int.reduceAdd, Int.reduceSub, Int.reduceMul, Int.reduceEq, FE, q0, q1, q12, q13]
  refine ⟨fun hlt => ?_, fun hlt => ?_⟩
  rotate_left
  · refine Ended.back hA (Xt.refl _) (congrArg _ (dec_t ?_)) (RB.bool _)
    rwa [List.take_of_length_le (by omega), List.take_of_length_le (by omega)] at hpre
  have hlt2 : j < l2.length := by omega
  obtain ⟨a1, rfl, -⟩ := h1.at (G := G) (i := j) (by simpa using hlt)
  obtain ⟨a2, rfl, -⟩ := h2.at (G := G) (i := j) (by simpa using hlt2)
  obtain ⟨g0, g1, g2, g3, g4⟩ := st_get (G := G) h1 hlt
  obtain ⟨k0, k1, k2, k3, k4⟩ := st_get (G := G) h2 hlt2
  have hj63 : j < 9223372036854775807 := by omega
  have hgt : Try.prog.eqGuardType Try.prog.depth 66 = false := by kernel_rfl
  have heq := eqD_st l1[j] l2[j]
  simp only [tC] at heq
  simp only [↓R1, R2, R3, R4, TY, reduceIte, Nat.reduceEqDiff, Nat.reduceAdd, Nat.reduceMul, Nat.reduceLT, Nat.reduceLeDiff, reduceCtorEq, decide_true, decide_false, Int.reduceLE, Int.reduceLT, Int.reduceToNat, Int.reduceAdd, Int.reduceSub, Int.reduceMul, Int.reduceEq, FE, q0, q1, q12, q13, hlt, hlt2, g0, g1, g2, g3, g4, k0, k1, k2, k3, k4, hgt, heq, hj63]
  refine ⟨fun hc => ?_, fun hc => ?_⟩
  · refine range_on q13 hlt rfl ⟨rfl, q0, q1, q12, rfl, ?_⟩
    rw [List.take_succ_eq_append_getElem hlt, List.take_succ_eq_append_getElem hlt2, hpre, hc]
  · refine Ended.back hA (Xt.refl _) (congrArg _ (dec_f fun h => hc ?_)) (RB.bool _)
    subst h; rfl
end
end Go.Proofs.Ytjohiapgancocaa.Ab
