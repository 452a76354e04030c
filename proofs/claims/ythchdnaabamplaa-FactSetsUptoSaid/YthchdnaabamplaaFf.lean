/- Facts: slices.Compact. -/
import Derived.Test.YthchdnaabamplaaFe
import Derived.Test.YthchdnaabamplaaZe
namespace Go.Proofs.Ythchdnaabamplaa.Ab
open Go.RowKit
set_option linter.unusedVariables false
set_option linter.unusedSimpArgs false
set_option maxRecDepth 100000

/-- The first so many cells, each without those like the one before it. -/
def dn (l : List Fa) : Nat → List Fa
  | 0 => []
  | i + 1 => if 0 < i ∧ l.getD i (0, 0, 0) = l.getD (i - 1) (0, 0, 0) then dn l i else dn l i ++ [l.getD i (0, 0, 0)]
theorem dn_le (l : List Fa) : ∀ i, (dn l i).length ≤ i
  | 0 => Nat.le_refl _
  | i + 1 => by
    have := dn_le l i
    unfold dn; split
    · omega
    · simp; omega
theorem dn_pos (l : List Fa) : ∀ i, 0 < i → 0 < (dn l i).length
  | i + 1, _ => by
    unfold dn; split
    · rename_i h; exact dn_pos l i h.1
    · simp
theorem dn_mem {l : List Fa} {e : Fa} : ∀ i, i ≤ l.length → (e ∈ dn l i ↔ e ∈ l.take i)
  | 0, _ => by simp [dn]
  | i + 1, h => by
    have hi : i < l.length := by omega
    have hg : l.getD i (0, 0, 0) = l[i] := by simp [List.getD, hi]
    have ht : l.take (i + 1) = l.take i ++ [l[i]] := by rw [List.take_add_one, List.getElem?_eq_getElem hi]; rfl
    have ih := dn_mem (l := l) (e := e) i (by omega)
    unfold dn
    rw [hg, ht, List.mem_append, List.mem_singleton]
    split
    · rename_i h2
      have hg2 : l.getD (i - 1) (0, 0, 0) = l[i - 1] := by simp [List.getD, show i - 1 < l.length by omega]
      rw [hg2] at h2
      rw [ih]
      constructor
      · exact .inl
      · rintro (h3 | h3)
        · exact h3
        · rw [h3, h2.2]
          exact List.mem_iff_getElem.2 ⟨i - 1, by rw [List.length_take]; omega, by rw [List.getElem_take]⟩
    · rw [List.mem_append, List.mem_singleton, ih]
/-- Of a sorted list the cells that are left stand in order. -/
theorem dn_sorted {l : List Fa} (h : l.Pairwise fun a b => ¬ flt b a) : ∀ i, i ≤ l.length → (dn l i).Pairwise flt ∧ ∀ e ∈ dn l i, ∀ (h0 : 0 < i) (hi : i - 1 < l.length), e = l[i - 1] ∨ flt e l[i - 1]
  | 0, _ => ⟨List.Pairwise.nil, fun e he => by simp [dn] at he⟩
  | i + 1, hl => by
    have hi : i < l.length := by omega
    have hg : l.getD i (0, 0, 0) = l[i] := by simp [List.getD, hi]
    obtain ⟨h1, h2⟩ := dn_sorted h i (by omega)
    have hle : ∀ (h0 : 0 < i), l[i - 1] = l[i] ∨ flt l[i - 1] l[i] := fun h0 => by
      have := List.pairwise_iff_getElem.1 h (i - 1) i (by omega) hi (by omega)
      unfold flt at *
      by_cases e : l[i - 1] = l[i]
      · exact .inl e
      · refine .inr ?_
        have : ¬ (l[i - 1].1 = l[i].1 ∧ l[i - 1].2.1 = l[i].2.1 ∧ l[i - 1].2.2 = l[i].2.2) := fun k => e (Prod.ext k.1 (Prod.ext k.2.1 k.2.2))
        omega
    have htr : ∀ {a b c : Fa}, flt a b → flt b c → flt a c := fun {a b c} k1 k2 => by unfold flt at *; omega
    unfold dn
    rw [hg]
    split
    · rename_i h3
      have hg2 : l.getD (i - 1) (0, 0, 0) = l[i - 1] := by simp [List.getD, show i - 1 < l.length by omega]
      rw [hg2] at h3
      refine ⟨h1, fun e he h0 hi2 => ?_⟩
      have := h2 e he h3.1 (by omega)
      simp only [Nat.add_sub_cancel]
      rw [h3.2]; exact this
    · rename_i h3
      have hstep : ∀ e ∈ dn l i, flt e l[i] := fun e he => by
        have h0 : 0 < i := by
          rcases Nat.eq_zero_or_pos i with h | h
          · subst h; simp [dn] at he
          · exact h
        have hg2 : l.getD (i - 1) (0, 0, 0) = l[i - 1] := by simp [List.getD, show i - 1 < l.length by omega]
        rw [hg2] at h3
        have hlt : flt l[i - 1] l[i] := (hle h0).resolve_left fun k => h3 ⟨h0, k.symm⟩
        rcases h2 e he h0 (by omega) with k | k
        · rw [k]; exact hlt
        · exact htr k hlt
      refine ⟨?_, fun e he h0 hi2 => ?_⟩
      · rw [List.pairwise_append]
        refine ⟨h1, List.pairwise_singleton _ _, fun a ha b hb => ?_⟩
        rw [List.mem_singleton] at hb
        subst hb
        exact hstep a ha
      · simp only [Nat.add_sub_cancel]
        rw [List.mem_append, List.mem_singleton] at he
        rcases he with he | he
        · exact .inr (hstep e he)
        · exact .inl he
theorem clr_of {P : Program} {fl : Nat} {A : Hp} {t e : TypeId} {T E : Ty} {p : Addr} {n c g e' : Nat} {cs : List Value} {f : Value × Hp → Prop} (hT : tyOf P t = some T) (hd : T.d = .sl e) (hE : tyOf P e = some E) (hz : E.zero.all zc = true) (hzl : E.zero.length = E.size)
    (hsp : p.spot = some g) (hb : A.blk p.block = some (.row cs g e')) (hfl : fl ≤ p.block) (hlen : p.off + n * E.size ≤ cs.length) (k : f (.tuple #[], A.put p.block (.row (wr cs p.off (zl E.zero (n * E.size))) g e'))) : @clr P fl A #[t] [.slice (some p) n c] ⟨f⟩ := by
  refine ⟨t, e, T, E, _, rfl, hT, hd, hE, rfl, hz, hzl, ?_⟩
  by_cases h : n = 0
  · subst h
    have e1 : wr cs p.off (zl E.zero (0 * E.size)) = cs := by rw [Nat.zero_mul]; rfl
    rw [e1, Hp.put_self _ _ _ hb] at k
    exact .inl ⟨_, _, rfl, k⟩
  · exact .inr ⟨p, n, c, g, cs, e', rfl, by omega, hsp, hb, hfl, hlen, k⟩

theorem row_get {G : Gl} {C : Hp} {id g : Nat} {R : List Fa} (hb : C.blk id = some (.row (R.map fC).flatten g 3)) {i : Nat} (hi : i < R.length) :
    C.get G ⟨id, i * 3, some g⟩ = some (.int .i64 R[i].1) ∧ C.get G ⟨id, i * 3 + 1, some g⟩ = some (.int .i64 R[i].2.1) ∧ C.get G ⟨id, i * 3 + 2, some g⟩ = some (.int .i64 R[i].2.2) := by
  have hl : ∀ c ∈ R.map fC, c.length = 3 := fun c hc => by obtain ⟨p, _, rfl⟩ := List.mem_map.1 hc; rfl
  have h0 : (R.map fC)[i]? = some (fC R[i]) := by simp [hi]
  have h1 := flatten_get hl h0 (j := 0) (v := .int .i64 R[i].1) rfl
  have h2 := flatten_get hl h0 (j := 1) (v := .int .i64 R[i].2.1) rfl
  have h3 := flatten_get hl h0 (j := 2) (v := .int .i64 R[i].2.2) rfl
  simp only [Hp.get, hb, if_true]
  exact ⟨h1, h2, h3⟩
theorem set_chunk3 (a b c : Value) : ∀ (css : List (List Value)) (i : Nat), (∀ x ∈ css, x.length = 3) → i < css.length →
    ((css.flatten.set (i * 3) a).set (i * 3 + 1) b).set (i * 3 + 2) c = (css.set i [a, b, c]).flatten
  | [], i, _, hi => by simp at hi
  | x :: xs, i, hl, hi => by
    have hx : x.length = 3 := hl x (by simp)
    match x, hx with
    | [x0, x1, x2], _ =>
      cases i with
      | zero => simp
      | succ i =>
        have ih := set_chunk3 a b c xs i (fun y hy => hl y (by simp [hy])) (by simpa using hi)
        rw [show (i + 1) * 3 = i * 3 + 1 + 1 + 1 by omega]
        simp only [List.flatten_cons, List.cons_append, List.nil_append, List.set_cons_succ]
        rw [ih]
theorem fC_rb (n : Nat) (l : List Fa) : ∀ c ∈ l.map fC, ∀ u ∈ c, RB n u := fc_rb l
theorem dn_one {l : List Fa} (h : l.length < 2) : dn l l.length = l := by
  match l, h with
  | [], _ => rfl
  | [a], _ => simp [dn]

section
variable {G : Gl} {fl : Nat} {A : Hp}

set_option maxHeartbeats 8000000 in
theorem compact_ok {l : List Fa} {id g c : Nat} (hid : fl ≤ id) (hidn : id < A.next) (hb : A.blk id = some (.row (l.map fC).flatten g 3)) (hlc : l.length ≤ c) (hl : l.length ≤ 4000000) :
    Sound Try.prog G 30 [.slice (some ⟨id, 0, some g⟩) l.length c] fl A (.slice (some ⟨id, 0, some g⟩) (dn l l.length).length c)
      (A.put id (.row (((dn l l.length).map fC).flatten ++ zl [.int .i64 0, .int .i64 0, .int .i64 0] ((l.length - (dn l l.length).length) * 3)) g 3)) := by
  refine Sound.of mixed Try.func30 Try.ntmps30 Try.results30 (by kernel_rfl) rfl (by kernel_rfl) (by kernel_rfl) fun hA => ?_
  have c2 : (((l.length : Nat) : Int) < 2) = (l.length < 2) := by simp only [eq_iff_iff]; omega
  simp only [↓R1, R2, R3, R4, TY, reduceIte, Nat.reduceEqDiff, Nat.reduceAdd, Nat.reduceMul, Nat.reduceLT, Nat.reduceLeDiff, reduceCtorEq, decide_true, decide_false, Int.reduceLE, Int.reduceLT, Int.reduceToNat, Int.reduceAdd, Int.reduceSub, Int.reduceMul, Int.reduceEq, c2]
  refine ⟨fun h2 => ?_, fun h2 => ?_⟩
  · rw [dn_one h2, Nat.sub_self]
    have e1 : (l.map fC).flatten ++ zl [Value.int .i64 0, .int .i64 0, .int .i64 0] (0 * 3) = (l.map fC).flatten := by simp [zl]
    rw [e1, Hp.put_self _ _ _ hb]
    exact Ended.back hA (Xt.refl _) rfl (Sl.rb hA (sz := 3) (css := l.map fC) ⟨fun c hc => by obtain ⟨p, _, rfl⟩ := List.mem_map.1 hc; rfl, .inr (.inr ⟨⟨id, 0, some g⟩, l.length, c, g, _, rfl, by simp, rfl, hb, fun j x hj => by rw [Nat.zero_add]; exact hj⟩)⟩)
  refine for_of 3 1 (l.length - 1) (fun i τ C => C = A ∧ dn l (i + 1) = l.take (i + 1) ∧ τ 0 = some (.slice (some ⟨id, 0, some g⟩) l.length c) ∧ τ 3 = some (.int .i64 (1 + (i : Nat)))) ?_ ?_
  · refine ⟨rfl, ?_, rfl, rfl⟩
    cases l with
    | nil => simp at h2
    | cons a t => simp [dn, List.getD]
  rintro i τ C hi ⟨rfl, hd, q0, q3⟩
  have e1 : (1 + (i : Int)) = ((i + 1 : Nat) : Int) := by omega
  rw [e1] at q3
  have ci : (((i + 1 : Nat) : Int) < ((l.length : Nat) : Int)) = (i + 1 < l.length) := by simp only [eq_iff_iff]; omega
  simp only [↓R1, R2, R3, R4, TY, reduceIte, Nat.reduceEqDiff, Nat.reduceAdd, Nat.reduceMul, Nat.reduceLT, Nat.reduceLeDiff, reduceCtorEq, decide_true, decide_false, Int.reduceLE, Int.reduceLT, Int.reduceToNat, Int.reduceAdd, Int.reduceSub, Int.reduceMul, Int.reduceEq, q0, q3, ci]
  refine ⟨fun hlt => ?_, fun hlt => ?_⟩
  rotate_left
  · have e2 : i + 1 = l.length := by omega
    rw [e2, List.take_length] at hd
    rw [hd, Nat.sub_self]
    have e1 : (l.map fC).flatten ++ zl [Value.int .i64 0, .int .i64 0, .int .i64 0] (0 * 3) = (l.map fC).flatten := by simp [zl]
    rw [e1, Hp.put_self _ _ _ hb]
    exact Ended.back hA (Xt.refl _) rfl (Sl.rb hA (sz := 3) (css := l.map fC) ⟨fun c hc => by obtain ⟨p, _, rfl⟩ := List.mem_map.1 hc; rfl, .inr (.inr ⟨⟨id, 0, some g⟩, l.length, c, g, _, rfl, by simp, rfl, hb, fun j x hj => by rw [Nat.zero_add]; exact hj⟩)⟩)
  have w1 : IntKind.i64.wrap (((i + 1 : Nat) : Int) - 1) = ((i : Nat) : Int) := by rw [wrapI (by omega)]; omega
  have hi1 : i < l.length := by omega
  obtain ⟨g0, g1, g1b⟩ := row_get (G := G) hb hlt
  obtain ⟨g2, g3, g3b⟩ := row_get (G := G) hb hi1
  have hdq : eqD Try.prog 20 23 (.agg #[.int .i64 l[i + 1].1, .int .i64 l[i + 1].2.1, .int .i64 l[i + 1].2.2]) (.agg #[.int .i64 l[i].1, .int .i64 l[i].2.1, .int .i64 l[i].2.2]) = some (decide (l[i + 1] = l[i])) := eqD_fact _ _
  have hle1 : i + 1 ≤ l.length := by omega
  have hez : eszOK C id 3 := by unfold eszOK; intro cs g' e' h; rw [hb] at h; cases h; rfl
  have w2 : IntKind.i64.wrap (((i + 1 : Nat) : Int) + 1) = ((i + 2 : Nat) : Int) := by rw [wrapI (by omega)]; omega
  simp only [↓R1, R2, R3, R4, TY, reduceIte, Nat.reduceEqDiff, Nat.reduceAdd, Nat.reduceMul, Nat.reduceLT, Nat.reduceLeDiff, reduceCtorEq, decide_true, decide_false, Int.reduceLE, Int.reduceLT, Int.reduceToNat, Int.reduceAdd, Int.reduceSub, Int.reduceMul, Int.reduceEq, q0, q3, hlt, hi1, hle1, hez, g0, g1, g1b, g2, g3, g3b, w1, w2, hidn, hdq, guard_fact]
  refine ⟨fun heq => ?_, fun hne => ?_⟩
  rotate_left
  · skip
    refine for_on (j := i) (y := ((i + 2 : Nat) : Int)) q3 (by omega) (by omega) rfl (by omega) ⟨rfl, ?_, q0, ?_⟩
    · unfold dn
      rw [hd]
      have a1 : l.getD (i + 1) (0, 0, 0) = l[i + 1] := by simp [List.getD, hlt]
      have a2 : l.getD (i + 1 - 1) (0, 0, 0) = l[i] := by simp [List.getD, hi1]
      rw [a1, a2, if_neg (fun h => hne h.2)]
      conv => rhs; rw [List.take_add_one, List.getElem?_eq_getElem hlt]
      rfl
    · rw [show (1 + ((i + 1 : Nat) : Int)) = ((i + 2 : Nat) : Int) by omega]; rfl
  refine for_of 5 1 (l.length - (i + 1) - 1) (fun j τ D => (∃ R : List Fa, R = dn l (i + 2 + j) ++ l.drop (dn l (i + 2 + j)).length ∧ D = C.put id (.row (R.map fC).flatten g 3)) ∧ (dn l (i + 2 + j)).length ≤ i + 1 + j ∧ τ 0 = some (.slice (some ⟨id, 0, some g⟩) l.length c) ∧ τ 3 = some (.int .i64 ((dn l (i + 2 + j)).length : Nat)) ∧ τ 4 = some (.slice (some ⟨id, (i + 1) * 3, some g⟩) (l.length - (i + 1)) (c - (i + 1))) ∧ τ 5 = some (.int .i64 (1 + (j : Nat)))) ?_ ?_
  · have hdd : dn l (i + 2) = l.take (i + 1) := by
      unfold dn
      have a1 : l.getD (i + 1) (0, 0, 0) = l[i + 1] := by simp [List.getD, hlt]
      have a2 : l.getD (i + 1 - 1) (0, 0, 0) = l[i] := by simp [List.getD, hi1]
      rw [a1, a2, if_pos ⟨by omega, heq⟩, hd]
    have hdl : (l.take (i + 1)).length = i + 1 := by rw [List.length_take]; omega
    refine ⟨⟨l, ?_, (Hp.put_self _ _ _ hb).symm⟩, ?_, q0, ?_, ?_, ?_⟩
    · rw [Nat.add_zero, hdd, hdl, List.take_append_drop]
    · rw [Nat.add_zero, hdd, hdl]; omega
    · have h5 : (dn l (i + 2 + 0)).length = i + 1 := by rw [Nat.add_zero, hdd, hdl]
      exact q3.trans (congrArg (fun m : Nat => some (Value.int .i64 (m : Int))) h5.symm)
    · rfl
    · simp [upd_eq]
  rintro j τ' D hj ⟨⟨R, hR, rfl⟩, hDl, r0, r3, r4, r5⟩
  have e3 : (1 + (j : Int)) = ((j + 1 : Nat) : Int) := by omega
  rw [e3] at r5
  have cj : (((j + 1 : Nat) : Int) < ((l.length - (i + 1) : Nat) : Int)) = (i + 1 + (j + 1) < l.length) := by simp only [eq_iff_iff]; omega
  simp only [↓R1, R2, R3, R4, TY, reduceIte, Nat.reduceEqDiff, Nat.reduceAdd, Nat.reduceMul, Nat.reduceLT, Nat.reduceLeDiff, reduceCtorEq, decide_true, decide_false, Int.reduceLE, Int.reduceLT, Int.reduceToNat, Int.reduceAdd, Int.reduceSub, Int.reduceMul, Int.reduceEq, r0, r3, r4, r5, cj]
  have hRl : R.length = l.length := by rw [hR, List.length_append, List.length_drop]; omega
  have hbP : (C.put id (.row (R.map fC).flatten g 3)).blk id = some (.row (R.map fC).flatten g 3) := by rw [Hp.put_blk, if_pos rfl]
  have hRm : ∀ m (h : m < l.length) (h' : m < R.length), (dn l (i + 2 + j)).length ≤ m → R[m] = l[m] := fun m h h' hm => by
    subst hR
    rw [List.getElem_append_right hm, List.getElem_drop]
    congr 1; omega
  refine ⟨fun hlt2 => ?_, fun hlt2 => ?_⟩
  · have hm1 : i + 1 + j < l.length := by omega
    obtain ⟨b0, b1, b1b⟩ := row_get (G := G) hbP (i := i + 1 + (j + 1)) (by omega)
    obtain ⟨b2, b3, b3b⟩ := row_get (G := G) hbP (i := i + 1 + j) (by omega)
    rw [hRm _ (by omega) (by omega) (by omega), show (i + 1 + (j + 1)) * 3 = (i + 1) * 3 + (j + 1) * 3 by omega] at b0 b1 b1b
    rw [hRm _ (by omega) (by omega) (by omega), show (i + 1 + j) * 3 = (i + 1) * 3 + j * 3 by omega] at b2 b3 b3b
    have w3 : IntKind.i64.wrap (((j + 1 : Nat) : Int) - 1) = ((j : Nat) : Int) := by rw [wrapI (by omega)]; omega
    have w4 : IntKind.i64.wrap (((j + 1 : Nat) : Int) + 1) = ((j + 2 : Nat) : Int) := by rw [wrapI (by omega)]; omega
    have hk2 : j + 1 < l.length - (i + 1) := by omega
    have hk3 : j < l.length - (i + 1) := by omega
    have hdq2 : eqD Try.prog 20 23 (.agg #[.int .i64 l[i + 1 + (j + 1)].1, .int .i64 l[i + 1 + (j + 1)].2.1, .int .i64 l[i + 1 + (j + 1)].2.2]) (.agg #[.int .i64 l[i + 1 + j].1, .int .i64 l[i + 1 + j].2.1, .int .i64 l[i + 1 + j].2.2]) = some (decide (l[i + 1 + (j + 1)] = l[i + 1 + j])) := eqD_fact _ _
    have hk4 : (((j : Nat) : Int) < ((l.length - (i + 1) : Nat) : Int)) = True := eq_true (by omega)
    simp only [↓R1, R2, R3, R4, TY, reduceIte, Nat.reduceEqDiff, Nat.reduceAdd, Nat.reduceMul, Nat.reduceLT, Nat.reduceLeDiff, reduceCtorEq, decide_true, decide_false, Int.reduceLE, Int.reduceLT, Int.reduceToNat, Int.reduceAdd, Int.reduceSub, Int.reduceMul, Int.reduceEq, r0, r3, r4, r5, hlt2, hk2, hk3, hk4, b0, b1, b1b, b2, b3, b3b, w3, w4, hidn, Hp.put_next, hdq2, guard_fact]
    have a1 : l.getD (i + 2 + j) (0, 0, 0) = l[i + 1 + (j + 1)] := by simp [List.getD, show i + 2 + j = i + 1 + (j + 1) by omega, hlt2]
    have a2 : l.getD (i + 2 + j - 1) (0, 0, 0) = l[i + 1 + j] := by simp [List.getD, show i + 2 + j - 1 = i + 1 + j by omega, hm1]
    refine ⟨fun hq => ?_, fun hq => ?_⟩
    · have hdn : dn l (i + 2 + (j + 1)) = dn l (i + 2 + j) := by
        show dn l ((i + 2 + j) + 1) = _
        conv => lhs; unfold dn
        rw [a1, a2, if_pos ⟨by omega, hq⟩]
      refine for_on (j := j) (y := ((j + 2 : Nat) : Int)) r5 (by omega) (by omega) rfl (by omega) ⟨⟨R, by rw [hdn]; exact hR, rfl⟩, by rw [hdn]; omega, r0, by rw [hdn]; exact r3, r4, ?_⟩
      rw [show (1 + ((j + 1 : Nat) : Int)) = ((j + 2 : Nat) : Int) by omega]; rfl
    · have hDlt : (dn l (i + 2 + j)).length < l.length := by omega
      have hlenR : (R.map fC).flatten.length = l.length * 3 := by
        rw [flat_len (sz := 3) (fun c hc => by obtain ⟨p, _, rfl⟩ := List.mem_map.1 hc; rfl), List.length_map, hRl]
      have hle2 : (dn l (i + 2 + j)).length * 3 + 3 ≤ l.length * 3 := by omega
      have w5 : IntKind.i64.wrap ((((dn l (i + 2 + j)).length : Nat) : Int) + 1) = (((dn l (i + 2 + j)).length + 1 : Nat) : Int) := by rw [wrapI (by omega)]; omega
      simp only [↓R1, R2, R3, R4, TY, reduceIte, Nat.reduceEqDiff, Nat.reduceAdd, Nat.reduceMul, Nat.reduceLT, Nat.reduceLeDiff, reduceCtorEq, decide_true, decide_false, Int.reduceLE, Int.reduceLT, Int.reduceToNat, Int.reduceAdd, Int.reduceSub, Int.reduceMul, Int.reduceEq, r0, r3, r4, r5, hlt2, hk2, hk3, hk4, hDlt, b0, b1, b1b, hidn, hid, Hp.put_next, hbP, hlenR, hle2, w4, w5]
      have hdn : dn l (i + 2 + (j + 1)) = dn l (i + 2 + j) ++ [l[i + 1 + (j + 1)]] := by
        show dn l ((i + 2 + j) + 1) = _
        conv => lhs; unfold dn
        rw [a1, a2, if_neg (fun h => hq h.2)]
      have hset : R.set (dn l (i + 2 + j)).length l[i + 1 + (j + 1)] = dn l (i + 2 + j) ++ [l[i + 1 + (j + 1)]] ++ l.drop (dn l (i + 2 + j) ++ [l[i + 1 + (j + 1)]]).length := by
        rw [hR, List.set_append_right _ _ (Nat.le_refl _), Nat.sub_self, List.drop_eq_getElem_cons hDlt, List.set_cons_zero, List.length_append, List.length_singleton, List.append_assoc]; rfl
      have hch := set_chunk3 (.int .i64 l[i + 1 + (j + 1)].1) (.int .i64 l[i + 1 + (j + 1)].2.1) (.int .i64 l[i + 1 + (j + 1)].2.2) (R.map fC) (dn l (i + 2 + j)).length (fun c hc => by obtain ⟨p, _, rfl⟩ := List.mem_map.1 hc; rfl) (by rw [List.length_map]; omega)
      have hms : (R.map fC).set (dn l (i + 2 + j)).length [.int .i64 l[i + 1 + (j + 1)].1, .int .i64 l[i + 1 + (j + 1)].2.1, .int .i64 l[i + 1 + (j + 1)].2.2] = (R.set (dn l (i + 2 + j)).length l[i + 1 + (j + 1)]).map fC := by rw [List.map_set]; rfl
      rw [hms] at hch
      refine for_on (j := j) (y := ((j + 2 : Nat) : Int)) r5 (by omega) (by omega) rfl (by omega) ⟨⟨R.set (dn l (i + 2 + j)).length l[i + 1 + (j + 1)], by rw [hdn]; exact hset, ?_⟩, by rw [hdn, List.length_append, List.length_singleton]; omega, r0, congrArg (fun m : Nat => some (Value.int .i64 (m : Int))) (show (dn l (i + 2 + j)).length + 1 = (dn l (i + 2 + (j + 1))).length by rw [hdn, List.length_append, List.length_singleton]), r4, ?_⟩
      · rw [Hp.put_put]; exact congrArg (fun cs => C.put id (.row cs g 3)) hch
      · rw [show (1 + ((j + 1 : Nat) : Int)) = ((j + 2 : Nat) : Int) by omega]; rfl
  · have hDle : (dn l (i + 2 + j)).length ≤ l.length := by omega
    have hez2 : eszOK (C.put id (.row (R.map fC).flatten g 3)) id 3 := by unfold eszOK; intro cs g' e' h; rw [hbP] at h; cases h; rfl
    simp only [↓R1, R2, R3, R4, TY, reduceIte, Nat.reduceEqDiff, Nat.reduceAdd, Nat.reduceMul, Nat.reduceLT, Nat.reduceLeDiff, reduceCtorEq, decide_true, decide_false, Int.reduceLE, Int.reduceLT, Int.reduceToNat, Int.reduceAdd, Int.reduceSub, Int.reduceMul, Int.reduceEq, r0, r3, r4, r5, hDle, hez2, hidn, Hp.put_next]
    have hlenR : (R.map fC).flatten.length = l.length * 3 := by
      rw [flat_len (sz := 3) (fun c hc => by obtain ⟨p, _, rfl⟩ := List.mem_map.1 hc; rfl), List.length_map, hRl]
    refine clr_of (p := ⟨id, (dn l (i + 2 + j)).length * 3, some g⟩) ty24 rfl ty23 rfl rfl rfl hbP hid (by rw [hlenR]; simp only; omega) ?_
    rw [Hp.put_put]
    have hez3 : ∀ cs, eszOK (C.put id (.row cs g 3)) id 3 := fun cs => by unfold eszOK; intro cs' g' e' h; rw [Hp.put_blk, if_pos rfl] at h; cases h; rfl
    simp only [↓R1, R2, R3, R4, TY, reduceIte, Nat.reduceEqDiff, Nat.reduceAdd, Nat.reduceMul, Nat.reduceLT, Nat.reduceLeDiff, reduceCtorEq, decide_true, decide_false, Int.reduceLE, Int.reduceLT, Int.reduceToNat, Int.reduceAdd, Int.reduceSub, Int.reduceMul, Int.reduceEq, r0, r3, r4, r5, hDle, hez3, hidn, Hp.put_next]
    have e5 : i + 2 + j = l.length := by omega
    rw [e5] at hR hDl hDle ⊢
    have h6 : ((dn l l.length).map fC).flatten.length = (dn l l.length).length * 3 := by
      rw [flat_len (sz := 3) (fun c hc => by obtain ⟨p, _, rfl⟩ := List.mem_map.1 hc; rfl), List.length_map]
    have h7 : (zl [Value.int .i64 0, .int .i64 0, .int .i64 0] ((l.length - (dn l l.length).length) * 3)).length = (l.length - (dn l l.length).length) * 3 := by simp [zl]
    have hrow : wr (R.map fC).flatten ((dn l l.length).length * 3) (zl [Value.int .i64 0, .int .i64 0, .int .i64 0] ((l.length - (dn l l.length).length) * 3)) = ((dn l l.length).map fC).flatten ++ zl [Value.int .i64 0, .int .i64 0, .int .i64 0] ((l.length - (dn l l.length).length) * 3) := by
      rw [wr_eq _ _ _ (by rw [hlenR, h7]; omega), List.drop_eq_nil_of_le (by rw [hlenR, h7]; omega), List.append_nil, hR, List.map_append, List.flatten_append, ← h6, List.take_left]
    rw [hrow]
    refine Ended.put hA hidn (fun _ _ => rfl) rfl (Sl.rb hA (sz := 3) (css := (l.take (dn l l.length).length).map fC) ⟨fun c hc => by obtain ⟨p, _, rfl⟩ := List.mem_map.1 hc; rfl, .inr (.inr ⟨⟨id, 0, some g⟩, (dn l l.length).length, c, g, _, rfl, by simp; omega, rfl, hb, fun j x hj => ?_⟩)⟩) fun u hu => ?_
    · rw [Nat.zero_add]
      rw [← List.take_append_drop (dn l l.length).length l, List.map_append, List.flatten_append, List.getElem?_append_left (List.getElem?_eq_some_iff.1 hj).1]; exact hj
    · rcases List.mem_append.1 hu with hu | hu
      · obtain ⟨cx, hcx, hu⟩ := List.mem_flatten.1 hu
        exact fC_rb _ _ cx hcx u hu
      · simp only [zl, List.mem_map] at hu
        obtain ⟨k, _, rfl⟩ := hu
        have hk : k % 3 = 0 ∨ k % 3 = 1 ∨ k % 3 = 2 := by omega
        rcases hk with h | h | h <;> simp [h] <;> exact RB.int _ _
end
end Go.Proofs.Ythchdnaabamplaa.Ab
