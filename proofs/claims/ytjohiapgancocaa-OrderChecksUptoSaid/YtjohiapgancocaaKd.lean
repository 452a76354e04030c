/- Orders: the longest chains, with a map of those that are known. -/
import Derived.Test.YtjohiapgancocaaKc
namespace Go.Proofs.Ytjohiapgancocaa.Ab
open Go.RowKit
set_option linter.unusedVariables false
set_option linter.unusedSimpArgs false
set_option maxRecDepth 100000

/-- What is known of the first steps. -/
def kn (ls : List (List Int)) (ts : List Int) (m : Nat) : List (Int × Value × Nat) := (List.range m).map fun (j : Nat) => ((j : Int), Value.int .i64 (est ls ts j), j)
theorem kn_succ {ls : List (List Int)} {ts : List Int} {m : Nat} : kn ls ts (m + 1) = kn ls ts m ++ [((m : Int), Value.int .i64 (est ls ts m), m)] := by simp [kn, List.range_succ]
theorem kn_get {ls : List (List Int)} {ts : List Int} {m j : Nat} (h : j < m) : (kn ls ts m)[j]? = some ((j : Int), Value.int .i64 (est ls ts j), j) := by simp [kn, h]
theorem kn_hit {ls : List (List Int)} {ts : List Int} {m : Nat} {x : Int} (h0 : 0 ≤ x) (h1 : x < m) : lfind x (kn ls ts m) 0 = some (x.toNat, Value.int .i64 (est ls ts x.toNat)) := by
  cases hr : lfind x (kn ls ts m) 0 with
  | none =>
    have := lfind_none hr _ (List.mem_of_getElem? (kn_get (ls := ls) (ts := ts) (show x.toNat < m by omega)))
    simp only at this; omega
  | some p =>
    obtain ⟨j, v⟩ := p
    obtain ⟨b, -, hg⟩ := lfind_some hr
    rw [Nat.sub_zero] at hg
    have hj : j < m := by have := (List.getElem?_eq_some_iff.1 hg).1; simpa [kn] using this
    rw [kn_get hj] at hg
    simp only [Option.some.injEq, Prod.mk.injEq] at hg
    obtain ⟨h2, h3, -⟩ := hg
    have : j = x.toNat := by omega
    subst this; rw [h3]
theorem kn_miss {ls : List (List Int)} {ts : List Int} {m : Nat} {x : Int} (h1 : (m : Int) ≤ x) : lfind x (kn ls ts m) 0 = none := by
  cases hr : lfind x (kn ls ts m) 0 with
  | none => rfl
  | some p =>
    obtain ⟨j, v⟩ := p
    obtain ⟨b, -, hg⟩ := lfind_some hr
    rw [Nat.sub_zero] at hg
    have hj : j < m := by have := (List.getElem?_eq_some_iff.1 hg).1; simpa [kn] using this
    rw [kn_get hj] at hg
    simp only [Option.some.injEq, Prod.mk.injEq] at hg
    omega
theorem kn_rb {ls : List (List Int)} {ts : List Int} {m n : Nat} {e : Value × Value × Nat} (h : e ∈ ents (Value.int .i64) (kn ls ts m)) : RB n e.1 ∧ RB n e.2.1 := by
  obtain ⟨x, hx, rfl⟩ := List.mem_map.1 h
  obtain ⟨j, -, rfl⟩ := List.mem_map.1 hx
  exact ⟨RB.int _ _, RB.int _ _⟩

section
variable {G : Gl} {fl : Nat} {A : Hp}
theorem Ended.putB {B : Hp} {r v : Value} {id : Nat} {q : Blk} (hA : Hok fl A) (hid : id < A.next) (hB : ∀ i, i < A.next → B.blk i = (A.put id q).blk i) (hv : r = v) (hr : RB A.next v) (hc : q.RBa A.next) :
    Ended A r B v (A.put id q) := by
  subst hv
  refine ⟨fun _ => none, ⟨Nat.le_refl _, fun i hi => (hB i hi).symm, fun i hi k hb => ?_, fun i hi => ?_, fun k h1 h2 => ?_, fun k p h => (by cases h), fun k k' i sh sh' h => (by cases h)⟩, .same hr⟩
  · rw [hB i hi, Hp.put_blk] at hb
    split at hb
    · cases hb; exact .inr hc
    · exact .inl hb
  · rw [Hp.put_blk]
    have hi' : A.next ≤ i := hi
    rw [if_neg (by omega)]; exact hA.wf i hi'
  · have : k < A.next := h2; omega

theorem eqD_i (a b : Int) : eqD Try.prog 20 3 (.int .i64 a) (.int .i64 b) = some (decide (a = b)) := eqD_int Try.underlying3 a b
theorem ckK_i (a : Int) : ckK Try.prog 20 3 (.int .i64 a) = true := ckK_int Try.underlying3 _
theorem mf_hit {ls : List (List Int)} {ts : List Int} {m : Nat} {x : Int} (h0 : 0 ≤ x) (h1 : x < m) : mfind Try.prog 3 (.int .i64 x) (ents (Value.int .i64) (kn ls ts m)) 0 = some (some (x.toNat, Value.int .i64 (est ls ts x.toNat))) := by
  rw [mfind_of (key := Value.int .i64) eqD_i, kn_hit h0 h1]
theorem mf_miss {ls : List (List Int)} {ts : List Int} {m : Nat} {x : Int} (h1 : (m : Int) ≤ x) : mfind Try.prog 3 (.int .i64 x) (ents (Value.int .i64) (kn ls ts m)) 0 = some none := by
  rw [mfind_of (key := Value.int .i64) eqD_i, kn_miss h1]

theorem longest_hit {v u : Value} {ls : List (List Int)} {ts : List Int} {m id : Nat} {x : Int} (hv : RB A.next v) (hu : RB A.next u) (hb : A.blk id = some (.mp (ents (Value.int .i64) (kn ls ts m)) m)) (h0 : 0 ≤ x) (h1 : x < m) :
    Sound Try.prog G 48 [v, u, .int .i64 x, .map (some id)] fl A (.int .i64 (est ls ts x.toNat)) A := by
  refine Sound.of mixed Try.func48 Try.ntmps48 Try.results48 (by kernel_rfl) rfl (by kernel_rfl) (by kernel_rfl) fun hA => ?_
  have hmf := mf_hit (ls := ls) (ts := ts) h0 h1
  have hck := ckK_i x
  simp only [↓R1, R2, R3, R4, TY, reduceIte, Nat.reduceEqDiff, Nat.reduceAdd, Nat.reduceMul, Nat.reduceLT, Nat.reduceLeDiff, reduceCtorEq, decide_true, decide_false, Int.reduceLE, Int.reduceLT, Int.reduceToNat, Int.reduceAdd, Int.reduceSub, Int.reduceMul, Int.reduceEq, FE, hb, hmf, hck]
  exact Ended.back hA (Xt.refl _) rfl (RB.int _ _)

set_option maxHeartbeats 4000000 in
theorem longest_new {v u : Value} {ls : List (List Int)} {ts : List Int} {k id : Nat} (h : Nst A v ls) (ht : Sl A 1 u (ts.map iC)) (hT : TOk ls ts) (hk : k < ls.length) (hL : (ls.getD k []).length ≤ 9223372036854775807) (hb : A.blk id = some (.mp (ents (Value.int .i64) (kn ls ts k)) k)) (hid : id < A.next) (hfl : fl ≤ id) :
    Sound Try.prog G 48 [v, u, .int .i64 k, .map (some id)] fl A (.int .i64 (est ls ts k)) (A.put id (.mp (ents (Value.int .i64) (kn ls ts (k + 1))) (k + 1))) := by
  refine Sound.of mixed Try.func48 Try.ntmps48 Try.results48 (by kernel_rfl) rfl (by kernel_rfl) (by kernel_rfl) fun hA => ?_
  have hvr : RB A.next v := by obtain ⟨vs, h1, -⟩ := h; exact h1.rb hA
  have hur : RB A.next u := ht.rb hA
  have hit := fun fl x h0 h1 => longest_hit (G := G) (fl := fl) (ts := ts) (x := x) hvr hur hb h0 h1
  obtain ⟨vs, hs, hl, hr⟩ := h
  obtain ⟨o, c, rfl⟩ := hs.len
  rw [List.length_map, hl] at hs hit ⊢
  obtain ⟨o2, c2, rfl⟩ := ht.len
  rw [List.length_map] at ht hit ⊢
  have hmf := mf_miss (ls := ls) (ts := ts) (Int.le_refl (k : Int))
  have hck := ckK_i k
  have hdag := hT.dag.el k hk
  have hn := hT.dag.len
  have hlen := hT.len
  obtain ⟨a, rfl, -⟩ := hs.at (G := G) (i := k) (by simpa [hl] using hk)
  have hab := hs.lt hA
  have u0 := row_get (G := G) hs (i := k) (by omega)
  have hsr := hr k (by omega) hk
  obtain ⟨o1, c1, e1⟩ := hsr.len
  rw [e1, List.length_map] at hsr
  rw [e1, List.length_map] at u0
  have hest := est_eq (ts := ts) hdag
  rw [getD_row hk] at hL hdag hest
  generalize hrw : ls[k] = l at *
  obtain ⟨a2, rfl, -⟩ := ht.at (G := G) (i := k) (by simp; omega)
  have hab2 := ht.lt hA
  have kl : ((k : Int) < (ls.length : Int)) = True := eq_true (by omega)
  simp only [↓R1, R2, R3, R4, TY, reduceIte, Nat.reduceEqDiff, Nat.reduceAdd, Nat.reduceMul, Nat.reduceLT, Nat.reduceLeDiff, reduceCtorEq, decide_true, decide_false, Int.reduceLE, Int.reduceLT, Int.reduceToNat, Int.reduceAdd, Int.reduceSub, Int.reduceMul, Int.reduceEq, FE, hb, hmf, hck, hab, u0, Nat.mul_one, kl]
  refine range_of 27 l.length (fun i τ B => B = A ∧ τ 0 = some (.slice (some a) ls.length c) ∧ τ 1 = some (.slice (some a2) ts.length c2) ∧ τ 2 = some (.int .i64 k) ∧ τ 3 = some (.map (some id)) ∧
      τ 11 = some (.int .i64 (mx (fun x => est ls ts x.toNat + ts.getD x.toNat 0) (l.take i) 0)) ∧ τ 25 = some (.slice o1 l.length c1) ∧ τ 26 = some (.int .i64 l.length) ∧ τ 27 = some (.int .i64 i)) ?_ ?_
  · exact ⟨rfl, rfl, rfl, rfl, rfl, rfl, rfl, rfl, rfl⟩
  rintro i τ B hi ⟨rfl, q0, q1, q2, q3, q11, q25, q26, q27⟩
  simp only [↓R1, R2, R3, R4, TY, reduceIte, Nat.reduceEqDiff, Nat.reduceAdd, Nat.reduceMul, Nat.reduceLT, Nat.reduceLeDiff, reduceCtorEq, decide_true, decide_false, Int.reduceLE, Int.reduceLT, Int.reduceToNat, Int.reduceAdd, Int.reduceSub, Int.reduceMul, Int.reduceEq, FE, q0, q1, q2, q3, q11, q25, q26, q27]
  refine ⟨fun hli => ?_, fun hli => ?_⟩
  rotate_left
  · have e : i = l.length := by omega
    subst e
    simp only [↓R1, R2, R3, R4, TY, reduceIte, Nat.reduceEqDiff, Nat.reduceAdd, Nat.reduceMul, Nat.reduceLT, Nat.reduceLeDiff, reduceCtorEq, decide_true, decide_false, Int.reduceLE, Int.reduceLT, Int.reduceToNat, Int.reduceAdd, Int.reduceSub, Int.reduceMul, Int.reduceEq, FE, q0, q1, q2, q3, q11, q25, q26, q27, hb, hmf, hck, hfl]
    rw [List.take_of_length_le (Nat.le_refl _), ← hest, ents_append (key := Value.int .i64), ← kn_succ]
    exact Ended.putB hA hid (fun i hi => rfl) rfl (RB.int _ _) (fun e he => kn_rb he)
  obtain ⟨a1, rfl, -⟩ := hsr.at (G := G) (i := i) (by simpa using hli)
  have hab1 := hsr.lt hA
  have u1 := int_get (G := G) hsr hli
  have hxm : l[i] ∈ l := List.getElem_mem hli
  have hx2 := hdag _ hxm
  have tk : l.take (i + 1) = l.take i ++ [l[i]] := List.take_succ_eq_append_getElem hli
  generalize hxx : l[i] = x at *
  have u4 := int_get (G := G) ht (i := x.toNat) (by omega)
  rw [← getD_at] at u4
  have x0 : (0 ≤ x) = True := eq_true (by omega)
  have x2 : (x < (ts.length : Int)) = True := eq_true (by omega)
  have hE1 := est_le hT.dag hT.t x.toNat (by omega)
  have hE0 := est_ge (ts := ts) (hT.dag.el x.toNat (by omega))
  have hT1 := hT.t x.toNat
  have w1 : IntKind.i64.wrap (est ls ts x.toNat + ts.getD x.toNat 0) = est ls ts x.toNat + ts.getD x.toNat 0 := wrapI (by omega)
  have hi63 : i < 9223372036854775807 := by omega
  have k27 := q27
  simp only [↓R1, R2, R3, R4, TY, reduceIte, Nat.reduceEqDiff, Nat.reduceAdd, Nat.reduceMul, Nat.reduceLT, Nat.reduceLeDiff, reduceCtorEq, decide_true, decide_false, Int.reduceLE, Int.reduceLT, Int.reduceToNat, Int.reduceAdd, Int.reduceSub, Int.reduceMul, Int.reduceEq, FE, q0, q1, q2, q3, q11, q25, q26, q27, hli, hab1, u1, Nat.mul_one, x0, x2, u4, hab2, w1, hi63]
  refine call_of (hit _ x hx2.1 hx2.2) ?_
  simp only [↓R1, R2, R3, R4, TY, reduceIte, Nat.reduceEqDiff, Nat.reduceAdd, Nat.reduceMul, Nat.reduceLT, Nat.reduceLeDiff, reduceCtorEq, decide_true, decide_false, Int.reduceLE, Int.reduceLT, Int.reduceToNat, Int.reduceAdd, Int.reduceSub, Int.reduceMul, Int.reduceEq, FE, q0, q1, q2, q3, q11, q25, q26, q27, hli, hab1, u1, Nat.mul_one, x0, x2, u4, hab2, w1, hi63]
  refine range_on k27 hli rfl ⟨rfl, q0, q1, q2, q3, ?_, q25, q26, rfl⟩
  rw [tk, mx_snoc]
  refine congrArg some (congrArg (Value.int .i64) ?_)
  split <;> omega

theorem Acn.keep {A B : Hp} {lo sz : Nat} {v : Value} {css : List (List Value)} (h : Acn A lo sz v css) (hn : A.next ≤ B.next) (hk : ∀ id g n c, v = .slice (some ⟨id, 0, some g⟩) n c → lo ≤ id → id < A.next → B.blk id = A.blk id) : Acn B lo sz v css := by
  refine ⟨⟨h.ac.len, h.ac.one, ?_⟩, h.nil⟩
  rcases h.ac.at_ with h1 | ⟨id, g, n, c, h1, h2, h3, h4, h5, h6⟩
  · exact .inl h1
  · exact .inr ⟨id, g, n, c, h1, h2, h3, by omega, by rw [hk id g n c h1 h3 h4]; exact h5, h6⟩
theorem Acn.lower {A : Hp} {lo lo' sz : Nat} {v : Value} {css : List (List Value)} (h : Acn A lo sz v css) (hl : lo' ≤ lo) : Acn A lo' sz v css := by
  refine ⟨⟨h.ac.len, h.ac.one, ?_⟩, h.nil⟩
  rcases h.ac.at_ with h1 | ⟨id, g, n, c, h1, h2, h3, h4, h5, h6⟩
  · exact .inl h1
  · exact .inr ⟨id, g, n, c, h1, h2, by omega, h4, h5, h6⟩

set_option maxHeartbeats 4000000 in
theorem startsOf_ok {v u : Value} {ls : List (List Int)} {ts : List Int} (h : Nst A v ls) (ht : Sl A 1 u (ts.map iC)) (hT : TOk ls ts) (hmx : ∀ k, k < ls.length → (ls.getD k []).length ≤ 9223372036854775807) :
    Sound Try.prog G 31 [v, u] fl A (.tuple [nlV A ((earl ls ts ls.length).map iC), .int .i64 (tend ls ts ls.length)].toArray) (nlH A 1 ((earl ls ts ls.length).map iC)) := by
  refine Sound.of mixed Try.func31 Try.ntmps31 Try.results31 (by kernel_rfl) rfl (by kernel_rfl) (by kernel_rfl) fun hA => ?_
  have hN := h
  obtain ⟨vs, hs, hl, hr⟩ := h
  obtain ⟨o, c, rfl⟩ := hs.len
  rw [List.length_map, hl] at hs hN ⊢
  obtain ⟨o2, c2, rfl⟩ := ht.len
  rw [List.length_map] at ht ⊢
  have hn := hT.dag.len
  have hlen := hT.len
  simp only [↓R1, R2, R3, R4, TY, reduceIte, Nat.reduceEqDiff, Nat.reduceAdd, Nat.reduceMul, Nat.reduceLT, Nat.reduceLeDiff, reduceCtorEq, decide_true, decide_false, Int.reduceLE, Int.reduceLT, Int.reduceToNat, Int.reduceAdd, Int.reduceSub, Int.reduceMul, Int.reduceEq, FE]
  refine range_of 14 ls.length (fun k τ B => ∃ sb, Xt A.next A B ∧ A.next < B.next ∧ B.blk A.next = some (.mp (ents (Value.int .i64) (kn ls ts k)) k) ∧ Acn B (A.next + 1) 1 sb ((earl ls ts k).map iC) ∧
      τ 0 = some (.slice o ls.length c) ∧ τ 1 = some (.slice o2 ts.length c2) ∧ τ 6 = some sb ∧ τ 7 = some (.int .i64 (tend ls ts k)) ∧ τ 8 = some (.map (some A.next)) ∧ τ 13 = some (.int .i64 ls.length) ∧ τ 14 = some (.int .i64 k)) ?_ ?_
  · exact ⟨_, (Xt.refl A).push _, by simp, (by rw [Hp.push_blk, if_pos rfl]; rfl), Acn.none, rfl, rfl, rfl, rfl, rfl, rfl, rfl⟩
  rintro k τ B hk ⟨sb, hx, hAB, hmb, hac, q0, q1, q6, q7, q8, q13, q14⟩
  simp only [↓R1, R2, R3, R4, TY, reduceIte, Nat.reduceEqDiff, Nat.reduceAdd, Nat.reduceMul, Nat.reduceLT, Nat.reduceLeDiff, reduceCtorEq, decide_true, decide_false, Int.reduceLE, Int.reduceLT, Int.reduceToNat, Int.reduceAdd, Int.reduceSub, Int.reduceMul, Int.reduceEq, FE, q0, q1, q6, q7, q8, q13, q14]
  refine ⟨fun hlt => ?_, fun hlt => ?_⟩
  rotate_left
  · have e : k = ls.length := by omega
    subst e
    exact Ended.acnT hA hx (hac.lower (by omega)) (i_rb _) (fun u hu => by simp at hu; rcases hu with rfl; exact RB.int _ _)
  have htB := ht.xt hA hx
  have hln := fun fl (hf : fl ≤ A.next) => longest_new (G := G) (fl := fl) (hN.xt hA hx) htB hT hlt (hmx k hlt) hmb hAB hf
  obtain ⟨a2, rfl, -⟩ := ht.at (G := G) (i := k) (by simp; omega)
  have hfl := hA.floor
  refine call_of (hln _ hfl) ?_
  generalize hC : B.put A.next (.mp (ents (Value.int .i64) (kn ls ts (k + 1))) (k + 1)) = C
  have cn : C.next = B.next := by rw [← hC]; rfl
  have cm : C.blk A.next = some (.mp (ents (Value.int .i64) (kn ls ts (k + 1))) (k + 1)) := by rw [← hC, Hp.put_blk, if_pos rfl]
  have ck : ∀ id, id ≠ A.next → C.blk id = B.blk id := fun id h => by rw [← hC, Hp.put_blk, if_neg h]
  have hac2 : Acn C (A.next + 1) 1 sb ((earl ls ts k).map iC) := hac.keep (by omega) fun id g n c _ h1 h2 => ck id (by omega)
  clear hC
  have hk63 : k < 9223372036854775807 := by omega
  have zs : (1 ≤ (zl [Value.int .i64 0] 1).length) = True := eq_true (by decide)
  have zw : zl [Value.int .i64 0] 1 = [Value.int .i64 0] := rfl
  simp only [↓R1, R2, R3, R4, TY, reduceIte, Nat.reduceEqDiff, Nat.reduceAdd, Nat.reduceMul, Nat.reduceLT, Nat.reduceLeDiff, reduceCtorEq, decide_true, decide_false, Int.reduceLE, Int.reduceLT, Int.reduceToNat, Int.reduceAdd, Int.reduceSub, Int.reduceMul, Int.reduceEq, FE, q0, q1, q6, q7, q8, q13, q14, zs, zw]
  refine app1 (lo := A.next + 1) (sz := 1) (cl := iC (est ls ts k)) ty40 rfl ty3 rfl (by omega) rfl hac2 (by omega) (by omega) rfl (by simp [iC, Value.oneCell']) (by simp [earl_len]; omega) (by simp [earl_len]; omega) ?_
  intro sb' D hac' hxD hnD hfD hidD
  have hxAD : Xt A.next A D := ⟨fun id hid => by rw [hxD.blk id (by omega), ck id (by omega), hx.blk id hid], by have := hx.next; omega⟩
  have u6 := int_get (G := G) (ht.xt hA hxAD) (i := k) (by omega)
  rw [← getD_at] at u6
  have habD : a2.block < D.next := by have := ht.lt hA; omega
  have kt : ((k : Int) < (ts.length : Int)) = True := eq_true (by omega)
  have hE1 := est_le hT.dag hT.t k hlt
  have hE0 := est_ge (ts := ts) (hT.dag.el k hlt)
  have hT1 := hT.t k
  have w6 : IntKind.i64.wrap (est ls ts k + ts.getD k 0) = est ls ts k + ts.getD k 0 := wrapI (by omega)
  have k14 := q14
  simp only [↓R1, R2, R3, R4, TY, reduceIte, Nat.reduceEqDiff, Nat.reduceAdd, Nat.reduceMul, Nat.reduceLT, Nat.reduceLeDiff, reduceCtorEq, decide_true, decide_false, Int.reduceLE, Int.reduceLT, Int.reduceToNat, Int.reduceAdd, Int.reduceSub, Int.reduceMul, Int.reduceEq, FE, q0, q1, q6, q7, q8, q13, q14, u6, habD, kt, w6, hk63, Nat.mul_one]
  refine range_on k14 hlt rfl ⟨sb', hxAD, by omega, ?_, ?_, q0, q1, rfl, ?_, q8, q13, rfl⟩
  · rw [hxD.blk _ (by omega)]; exact cm
  · rw [earl_succ (hT.dag.el k hlt), List.map_append]; exact hac'
  · have ht1 : tend ls ts (k + 1) = max (tend ls ts k) (est ls ts k + ts.getD k 0) := by
      rw [tend, List.range_succ, mx_snoc]
      rfl
    rw [ht1]
    refine congrArg some (congrArg (Value.int .i64) ?_)
    split <;> omega
end
end Go.Proofs.Ytjohiapgancocaa.Ab
