/- Facts: the reference's set of a list, found by counting. -/
import Derived.Test.YthchdnaabamplaaFk
namespace Go.Proofs.Ythchdnaabamplaa.Ab
open Go.RowKit Go.Sort
set_option linter.unusedVariables false
set_option linter.unusedSimpArgs false
set_option maxRecDepth 100000

/-! loops over maps -/
def seenOf (B : Hp) (i : Nat) : List Nat := match B.blk i with | some (.it _ _ s _) => s | _ => []
theorem seenOf_it {B : Hp} {i since last : Nat} {m : Option Nat} {s : List Nat} (h : B.blk i = some (.it m since s last)) : seenOf B i = s := by simp only [seenOf, h]
def iterI (iid n : Nat) (J : List Nat → Tm → Hp → Prop) (τ : Tm) (B : Hp) : Prop := ∃ seen, J seen τ B ∧ seenOf B iid = seen ∧ seen.Nodup ∧ ∀ b ∈ seen, b < n
def iterM (iid n : Nat) : Tm → Hp → Nat := fun _ B => n - (seenOf B iid).length
section
variable {P : Program} {G : Gl} {fl : Nat} {τ : Tm} {A : Hp}
theorem iter_of {c : Code} {K : Exit → Tm → Hp → Prop} (iid n : Nat) (J : List Nat → Tm → Hp → Prop) (h0 : J [] τ A) (hs0 : seenOf A iid = [])
    (h : ∀ seen τ A, J seen τ A → seenOf A iid = seen → seen.Nodup → (∀ b ∈ seen, b < n) → acode P G fl c τ A (loopK (iterI iid n J) (iterM iid n) τ A K)) : acode P G fl (.loop c) τ A K :=
  loop_of (iterI iid n J) (iterM iid n) ⟨[], h0, hs0, List.nodup_nil, by simp⟩ fun τ A ⟨seen, h1, h2, h3, h4⟩ => h seen τ A h1 h2 h3 h4
theorem iter_on {K : Exit → Tm → Hp → Prop} {τ' : Tm} {A' : Hp} {iid n : Nat} {J : List Nat → Tm → Hp → Prop} {seen : List Nat} {b : Nat} (hs : seenOf A iid = seen) (hn : seen.Nodup) (hlt : ∀ b ∈ seen, b < n) (hb : b < n) (hnb : b ∉ seen)
    (hs' : seenOf A' iid = seen ++ [b]) (hJ : J (seen ++ [b]) τ' A') : loopK (iterI iid n J) (iterM iid n) τ A K .normal τ' A' := by
  have hn' : (seen ++ [b]).Nodup := by
    rw [List.nodup_append]
    refine ⟨hn, by simp, fun x hx y hy => ?_⟩
    rw [List.mem_singleton] at hy; subst hy
    exact fun e => hnb (e ▸ hx)
  have hlt' : ∀ x ∈ seen ++ [b], x < n := fun x hx => by
    rcases List.mem_append.1 hx with h | h
    · exact hlt x h
    · rw [List.mem_singleton] at h; omega
  refine loop_on ⟨_, hJ, hs', hn', hlt'⟩ ?_
  have := seen_lt hn' hlt'
  simp only [iterM, hs, hs', List.length_append, List.length_singleton] at this ⊢
  omega
end

theorem zl_chunks (n : Nat) : zl [Value.int .i64 0, Value.int .i64 0, Value.int .i64 0] (n * 3) = ((List.range n).map fun _ => [Value.int .i64 0, Value.int .i64 0, Value.int .i64 0]).flatten := by
  induction n with
  | zero => rfl
  | succ n ih =>
    rw [List.range_succ, List.map_append, List.flatten_append, ← ih, Nat.succ_mul]
    unfold zl
    rw [List.range_add, List.map_append]
    congr 1
    have e0 : n * 3 % 3 = 0 := by omega
    have e1 : (n * 3 + 1) % 3 = 1 := by omega
    have e2 : (n * 3 + 2) % 3 = 2 := by omega
    simp [List.range, List.range.loop, e0, e1, e2]

/-- The row while it is filled. -/
def rowS (S d : List Fa) (seen : List Nat) : List (List Value) := (List.range S.length).map fun k => if ∃ b ∈ seen, d.getD b (0, 0, 0) = S.getD k (0, 0, 0) then fC (S.getD k (0, 0, 0)) else [Value.int .i64 0, Value.int .i64 0, Value.int .i64 0]
theorem rowS_nil (S d : List Fa) : (rowS S d []).flatten = zl [Value.int .i64 0, Value.int .i64 0, Value.int .i64 0] (S.length * 3) := by
  rw [zl_chunks]; simp [rowS]
theorem rowS_len (S d : List Fa) (seen : List Nat) : (rowS S d seen).length = S.length := by simp [rowS]
theorem rowS_three (S d : List Fa) (seen : List Nat) : ∀ x ∈ rowS S d seen, x.length = 3 := by
  intro x hx
  simp only [rowS, List.mem_map] at hx
  obtain ⟨k, _, rfl⟩ := hx
  split <;> rfl
theorem rowS_put {S d : List Fa} {seen : List Nat} {i k : Nat} (hk : k < S.length) (hi : i < d.length) (hS : S.Nodup) (he : S[k] = d[i]) : (rowS S d seen).set k (fC d[i]) = rowS S d (seen ++ [i]) := by
  apply List.ext_getElem
  · simp [rowS]
  intro j h1 h2
  have hj : j < S.length := by rw [List.length_set, rowS_len] at h1; exact h1
  have gi : d.getD i (0, 0, 0) = d[i] := by simp [List.getD, hi]
  have gj : S.getD j (0, 0, 0) = S[j] := by simp [List.getD, hj]
  rw [List.getElem_set]
  by_cases e : k = j
  · subst e
    rw [if_pos rfl]
    simp only [rowS, List.getElem_map, List.getElem_range]
    rw [if_pos ⟨i, by simp, by rw [gi, gj, he]⟩, gj, he]
  · rw [if_neg e]
    simp only [rowS, List.getElem_map, List.getElem_range]
    have hne : d.getD i (0, 0, 0) ≠ S.getD j (0, 0, 0) := by
      rw [gi, gj, ← he]
      intro h
      exact e ((List.getElem_inj hS).1 h)
    have hiff : (∃ b ∈ seen ++ [i], d.getD b (0, 0, 0) = S.getD j (0, 0, 0)) ↔ ∃ b ∈ seen, d.getD b (0, 0, 0) = S.getD j (0, 0, 0) := by
      constructor
      · rintro ⟨b, hb, h⟩
        rcases List.mem_append.1 hb with hb | hb
        · exact ⟨b, hb, h⟩
        · rw [List.mem_singleton] at hb; subst hb; exact absurd h hne
      · rintro ⟨b, hb, h⟩; exact ⟨b, by simp [hb], h⟩
    simp only [hiff]
theorem rowS_all {S d : List Fa} {seen : List Nat} (hp : ∀ f ∈ S, f ∈ d) (hall : ∀ b, b < d.length → b ∈ seen) : rowS S d seen = S.map fC := by
  apply List.ext_getElem
  · simp [rowS]
  intro j h1 h2
  have hj : j < S.length := by rw [rowS_len] at h1; exact h1
  have gj : S.getD j (0, 0, 0) = S[j] := by simp [List.getD, hj]
  simp only [rowS, List.getElem_map, List.getElem_range]
  rw [gj]
  obtain ⟨b, hb, e⟩ := List.mem_iff_getElem.1 (hp S[j] (List.getElem_mem hj))
  rw [if_pos ⟨b, hall b hb, by simp [List.getD, hb, e]⟩]
theorem count_seen {d : List Fa} {seen : List Nat} (p : Fa → Bool) (hn : seen.Nodup) (hlt : ∀ b ∈ seen, b < d.length) (hall : ∀ b, b < d.length → b ∈ seen) : seen.countP (fun b => p (d.getD b (0, 0, 0))) = d.countP p := by
  rw [(seen_perm hn hlt hall).countP_eq]
  have : d = (List.range d.length).map fun b => d.getD b (0, 0, 0) := by
    apply List.ext_getElem
    · simp
    · intro i h1 h2; simp [List.getD, h1]
  conv => rhs; rw [this, List.countP_map]
  rfl

section
variable {G : Gl} {fl : Nat} {A : Hp}
theorem ckK_fact (f : Fa) : ckK Try.prog 20 23 (fV f) = true := by
  obtain ⟨a, b, c⟩ := f
  kernel_rfl
theorem kflat_fact (f : Fa) : kflat (fV f) = true := rfl

set_option maxHeartbeats 8000000 in
theorem factsOf_ok {v : Value} {l : List Fa} (hs : Sl A 3 v (l.map fC)) (hl : l.length ≤ 4000000) : Sound Try.prog G 16 [v] fl A (.slice (some ⟨A.next, 0, some 0⟩) (fset l).length (fset l).length) (A.push (.row ((fset l).map fC).flatten 0 3)) := by
  refine Sound.of mixed Try.func16 Try.ntmps16 Try.results16 (by kernel_rfl) rfl (by kernel_rfl) (by kernel_rfl) fun hA => ?_
  obtain ⟨o, c, rfl⟩ := hs.len
  rw [List.length_map] at hs ⊢
  simp only [↓R1, R2, R3, R4, TY, reduceIte, Nat.reduceEqDiff, Nat.reduceAdd, Nat.reduceMul, Nat.reduceLT, Nat.reduceLeDiff, reduceCtorEq, decide_true, decide_false, Int.reduceLE, Int.reduceLT, Int.reduceToNat, Int.reduceAdd, Int.reduceSub, Int.reduceMul, Int.reduceEq, FE]
  refine range_of 13 l.length (fun j τ B => Xt A.next A B ∧ A.next < B.next ∧ B.blk A.next = some (.mp (ents fV (fents (dd (l.take j)))) (dd (l.take j)).length) ∧ τ 3 = some (.map (some A.next)) ∧ τ 11 = some (.slice o l.length c) ∧ τ 12 = some (.int .i64 l.length) ∧ τ 13 = some (.int .i64 j)) ?_ ?_
  · exact ⟨(Xt.refl A).push _, by simp, (by simp [Hp.push_blk]; exact ⟨rfl, rfl⟩), rfl, rfl, rfl, rfl⟩
  rintro j τ B hj ⟨hx, hn, hb, q3, q11, q12, q13⟩
  simp only [↓R1, R2, R3, R4, TY, reduceIte, Nat.reduceEqDiff, Nat.reduceAdd, Nat.reduceMul, Nat.reduceLT, Nat.reduceLeDiff, reduceCtorEq, decide_true, decide_false, Int.reduceLE, Int.reduceLT, Int.reduceToNat, Int.reduceAdd, Int.reduceSub, Int.reduceMul, Int.reduceEq, FE, q3, q11, q12, q13]
  refine ⟨fun hlt => ?_, fun hlt => ?_⟩
  · obtain ⟨a, rfl, -⟩ := hs.at (G := G) (i := j) (by simpa using hlt)
    have hsB := hs.xt hA hx
    have hab : a.block < B.next := Nat.lt_of_lt_of_le (hs.lt hA) hx.next
    have hflB : fl ≤ B.next := Nat.le_trans hA.floor hx.next
    have hfl0 : fl ≤ A.next := hA.floor
    obtain ⟨u0, u1, u2⟩ := fa3_get (G := G) hsB hlt
    have hj63 : j < 9223372036854775807 := by omega
    simp only [↓R1, R2, R3, R4, TY, reduceIte, Nat.reduceEqDiff, Nat.reduceAdd, Nat.reduceMul, Nat.reduceLT, Nat.reduceLeDiff, reduceCtorEq, decide_true, decide_false, Int.reduceLE, Int.reduceLT, Int.reduceToNat, Int.reduceAdd, Int.reduceSub, Int.reduceMul, Int.reduceEq, FE, q3, q11, q12, q13, hlt, hab, hj63, u0, u1, u2, hflB]
    generalize hE0 : (B.push (.row [Value.int .i64 0, .int .i64 0, .int .i64 0] 0 3)).put B.next (.row [Value.int .i64 l[j].1, .int .i64 l[j].2.1, .int .i64 l[j].2.2] 0 3) = E0
    have e0n : E0.next = B.next + 1 := by rw [← hE0]; rfl
    have e0b : E0.blk B.next = some (.row [Value.int .i64 l[j].1, .int .i64 l[j].2.1, .int .i64 l[j].2.2] 0 3) := by rw [← hE0]; simp [Hp.put_blk]
    have hx0 : Xt B.next B E0 := by rw [← hE0]; simp only [xt_push, xt_put, xt_refl, Nat.le_refl]
    have g0 : ∀ i, E0.get G ⟨B.next, i, some 0⟩ = ([Value.int .i64 l[j].1, .int .i64 l[j].2.1, .int .i64 l[j].2.2] : List Value)[i]? := fun i => by simp only [Hp.get, e0b, if_true]
    have em : E0.blk A.next = some (.mp (ents fV (fents (dd (l.take j)))) (dd (l.take j)).length) := by rw [hx0.blk _ hn]; exact hb
    clear hE0
    have hvd := fun fl A => factIs_ok (G := G) (fl := fl) (A := A) l[j]
    have hck := ckK_fact l[j]
    have hkf := kflat_fact l[j]
    have hmf := mfind_of (P := Try.prog) eqD_fact l[j] (fents (dd (l.take j))) 0
    simp only [fV] at hvd hck hkf hmf
    have ht : l.take (j + 1) = l.take j ++ [l[j]] := List.take_succ_eq_append_getElem hlt
    obtain ⟨r, hr⟩ : ∃ r, r = lfind l[j] (fents (dd (l.take j))) 0 := ⟨_, rfl⟩
    rw [← hr] at hmf
    refine call_of (hvd _ _) ?_
    simp only [↓R1, R2, R3, R4, TY, reduceIte, Nat.reduceEqDiff, Nat.reduceAdd, Nat.reduceMul, Nat.reduceLT, Nat.reduceLeDiff, reduceCtorEq, decide_true, decide_false, Int.reduceLE, Int.reduceLT, Int.reduceToNat, Int.reduceAdd, Int.reduceSub, Int.reduceMul, Int.reduceEq, FE, q3, q11, q12, q13, hj63, g0]
    refine ⟨fun hv => ?_, fun hv => ?_⟩
    rotate_left
    · refine range_on q13 hlt rfl ⟨hx.trans hx0, by omega, ?_, q3, q11, q12, rfl⟩
      rw [ht, dd_snoc, if_neg (fun h => hv h.1)]; exact em
    cases r with
    | none =>
      have hno : l[j] ∉ dd (l.take j) := fun h => by
        obtain ⟨i, hi, e⟩ := List.mem_iff_getElem.1 h
        have := lfind_none hr.symm _ (List.mem_of_getElem? (fents_get hi))
        exact this e
      simp only [↓R1, R2, R3, R4, TY, reduceIte, Nat.reduceEqDiff, Nat.reduceAdd, Nat.reduceMul, Nat.reduceLT, Nat.reduceLeDiff, reduceCtorEq, decide_true, decide_false, Int.reduceLE, Int.reduceLT, Int.reduceToNat, Int.reduceAdd, Int.reduceSub, Int.reduceMul, Int.reduceEq, FE, q3, q11, q12, q13, hj63, g0, em, hck, hmf, hfl0]
      refine range_on q13 hlt rfl ⟨(hx.trans hx0).put (Nat.le_refl _) _, by simp; omega, ?_, q3, q11, q12, rfl⟩
      rw [ht, dd_snoc, if_pos ⟨hv, hno⟩, Hp.put_blk, if_pos rfl, fents_snoc, ← ents_append, List.length_append]
      rfl
    | some p =>
      obtain ⟨i, u⟩ := p
      obtain ⟨b, -, hg⟩ := lfind_some hr.symm
      rw [Nat.sub_zero] at hg
      have hil := (List.getElem?_eq_some_iff.1 hg).1
      rw [fents_len] at hil
      have hg2 := hg
      rw [fents_get hil] at hg2
      have e2 := Option.some.inj hg2
      simp only [Prod.mk.injEq] at e2
      obtain ⟨e3, rfl, rfl⟩ := e2
      have hyes : l[j] ∈ dd (l.take j) := e3 ▸ List.getElem_mem hil
      have hkey := ents_get (key := fV) hg
      have hmod := ents_modify (key := fV) (k := l[j]) (v := .bool true) (l := fents (dd (l.take j))) (i := i)
      rw [fents_same hg] at hmod
      simp only [fV] at hkey hmod
      simp only [↓R1, R2, R3, R4, TY, reduceIte, Nat.reduceEqDiff, Nat.reduceAdd, Nat.reduceMul, Nat.reduceLT, Nat.reduceLeDiff, reduceCtorEq, decide_true, decide_false, Int.reduceLE, Int.reduceLT, Int.reduceToNat, Int.reduceAdd, Int.reduceSub, Int.reduceMul, Int.reduceEq, FE, q3, q11, q12, q13, hj63, g0, em, hck, hmf, hfl0, hkf, hkey, hmod]
      refine range_on q13 hlt rfl ⟨(hx.trans hx0).put (Nat.le_refl _) _, by simp; omega, ?_, q3, q11, q12, rfl⟩
      rw [ht, dd_snoc, if_neg (fun h => h.2 hyes), Hp.put_blk, if_pos rfl]
  have hdl := dd_le l
  rw [List.take_of_length_le (by omega)] at hb
  have hfl0 : fl ≤ A.next := hA.floor
  have hel : (ents fV (fents (dd l))).length = (dd l).length := by simp [ents, fents_len]
  have s1 : (0 ≤ ((dd l).length : Int)) = True := eq_true (by omega)
  have s2 : (((24 : Nat) : Int) * ((dd l).length : Int) ≤ 281474976710656) = True := eq_true (by omega)
  have s3 : (((dd l).length : Int) ≤ 9223372036854775807) = True := eq_true (by omega)
  have s4 : (((dd l).length : Int) ≤ ((dd l).length : Int)) = True := eq_true (Int.le_refl _)
  have s5 : (((dd l).length : Int)).toNat = (dd l).length := by omega
  have n1 : (A.next = B.next) = False := eq_false (by omega)
  simp only [↓R1, R2, R3, R4, TY, reduceIte, Nat.reduceEqDiff, Nat.reduceAdd, Nat.reduceMul, Nat.reduceLT, Nat.reduceLeDiff, reduceCtorEq, decide_true, decide_false, Int.reduceLE, Int.reduceLT, Int.reduceToNat, Int.reduceAdd, Int.reduceSub, Int.reduceMul, Int.reduceEq, FE, q3, q11, q12, q13, hb, hel, s1, s2, s3, s4, s5, n1]
  generalize hd : dd l = d at *
  have hS : (fset l).length = d.length := by rw [← hd]; exact (dd_len l).symm
  have hSn := fset_nodup l
  have hdn : d.Nodup := by rw [← hd]; exact (dd_nodup_mem l).1
  have hSd : ∀ f ∈ fset l, f ∈ d := fun f hf => by rw [← hd]; exact (dd_perm l).mem_iff.2 hf
  have hdS : ∀ f ∈ d, f ∈ fset l := fun f hf => (dd_perm l).mem_iff.1 (by rw [hd]; exact hf)
  have hcnt : ∀ k (h : k < (fset l).length), d.countP (fun g => decide (flt g (fset l)[k])) = k := fun k h => by rw [← hd]; exact dd_count h
  generalize fset l = S at *
  have hold : ∀ e ∈ ents fV (fents d), e.2.2 < d.length := fun e he => by
    simp only [ents, List.mem_map] at he
    obtain ⟨x, hx, rfl⟩ := he
    obtain ⟨i, hi, rfl⟩ := fents_mem hx
    exact hi
  have hmem : ∀ e ∈ ents fV (fents d), ∃ (i : Nat) (hi : i < d.length), e = (fV d[i], .bool true, i) := fun e he => by
    simp only [ents, List.mem_map] at he
    obtain ⟨x, hx, rfl⟩ := he
    obtain ⟨i, hi, rfl⟩ := fents_mem hx
    exact ⟨i, hi, rfl⟩
  have hent : ∀ i (hi : i < d.length), (fV d[i], Value.bool true, i) ∈ ents fV (fents d) := fun i hi => by
    simp only [ents, List.mem_map]
    exact ⟨_, List.mem_of_getElem? (fents_get hi), rfl⟩
  refine iter_of (B.next + 1) d.length (fun seen τ D => Xt A.next A D ∧ B.next + 2 ≤ D.next ∧ D.blk A.next = some (.mp (ents fV (fents d)) d.length) ∧ D.blk B.next = some (.row (rowS S d seen).flatten 0 3) ∧
      D.blk (B.next + 1) = some (.it (some A.next) d.length seen d.length) ∧ τ 3 = some (.map (some A.next)) ∧ τ 6 = some (.slice (some ⟨B.next, 0, some 0⟩) d.length d.length) ∧ τ 26 = some (.chan (some (B.next + 1)))) ?_ ?_ ?_
  · refine ⟨(hx.push _).push _, by simp, by simp [Hp.push_blk, hb, n1]; omega, ?_, by simp [Hp.push_blk], q3, rfl, rfl⟩
    rw [rowS_nil, hS]; simp [Hp.push_blk]
  · simp [seenOf, Hp.push_blk]
  rintro seen τ D ⟨hxD, hnD, d0, d1, d2, q3, q6, q26⟩ hseen hnod hlt
  simp only [↓R1, R2, R3, R4, TY, reduceIte, Nat.reduceEqDiff, Nat.reduceAdd, Nat.reduceMul, Nat.reduceLT, Nat.reduceLeDiff, reduceCtorEq, decide_true, decide_false, Int.reduceLE, Int.reduceLT, Int.reduceToNat, Int.reduceAdd, Int.reduceSub, Int.reduceMul, Int.reduceEq, FE, q3, q6, q26]
  have hfD : fl ≤ B.next + 1 := by have := hx.next; omega
  refine next_of d2 d0 hfD (Nat.le_refl _) hold (fun hall => ?_) (fun e he hns => ?_)
  · have hall' : ∀ b, b < d.length → b ∈ seen := fun b hb => hall _ (hent b hb)
    simp only [↓R1, R2, R3, R4, TY, reduceIte, Nat.reduceEqDiff, Nat.reduceAdd, Nat.reduceMul, Nat.reduceLT, Nat.reduceLeDiff, reduceCtorEq, decide_true, decide_false, Int.reduceLE, Int.reduceLT, Int.reduceToNat, Int.reduceAdd, Int.reduceSub, Int.reduceMul, Int.reduceEq, FE, q3, q6, q26]
    rw [rowS_all hSd hall'] at d1
    rw [hS]
    refine Ended.new1 hA hxD (by have := hx.next; omega) d1 (fun u hu => ?_) (Nat.le_refl _)
    obtain ⟨c, hc, hu⟩ := List.mem_flatten.1 hu
    exact fc_rb _ c hc u hu
  obtain ⟨i, hi, rfl⟩ := hmem e he
  simp only at hns
  have k1 : B.next + 1 < D.next := by omega
  have p0 : (D.put (B.next + 1) (.it (some A.next) d.length (seen ++ [i]) d.length)).blk A.next = some (.mp (ents fV (fents d)) d.length) := by rw [Hp.put_blk, if_neg (by omega)]; exact d0
  have p1 : (D.put (B.next + 1) (.it (some A.next) d.length (seen ++ [i]) d.length)).blk B.next = some (.row (rowS S d seen).flatten 0 3) := by rw [Hp.put_blk, if_neg (by omega)]; exact d1
  have p2 : (D.put (B.next + 1) (.it (some A.next) d.length (seen ++ [i]) d.length)).blk (B.next + 1) = some (.it (some A.next) d.length (seen ++ [i]) d.length) := by rw [Hp.put_blk, if_pos rfl]
  have hxE : Xt A.next A (D.put (B.next + 1) (.it (some A.next) d.length (seen ++ [i]) d.length)) := hxD.put (by have := hx.next; omega) _
  have hnE : (D.put (B.next + 1) (.it (some A.next) d.length (seen ++ [i]) d.length)).next = D.next := rfl
  generalize D.put (B.next + 1) (.it (some A.next) d.length (seen ++ [i]) d.length) = E at *
  simp only [↓R1, R2, R3, R4, TY, reduceIte, Nat.reduceEqDiff, Nat.reduceAdd, Nat.reduceMul, Nat.reduceLT, Nat.reduceLeDiff, reduceCtorEq, decide_true, decide_false, Int.reduceLE, Int.reduceLT, Int.reduceToNat, Int.reduceAdd, Int.reduceSub, Int.reduceMul, Int.reduceEq, FE, q3, q6, q26]
  refine entry_of p2 p0 (fents_find hi) ?_
  simp only [fV]
  have hflE : fl ≤ D.next := by have := hx.next; omega
  have n2 : (A.next = D.next) = False := eq_false (by omega)
  have n3 : (A.next = D.next + 1) = False := eq_false (by omega)
  simp only [↓R1, R2, R3, R4, TY, reduceIte, Nat.reduceEqDiff, Nat.reduceAdd, Nat.reduceMul, Nat.reduceLT, Nat.reduceLeDiff, reduceCtorEq, decide_true, decide_false, Int.reduceLE, Int.reduceLT, Int.reduceToNat, Int.reduceAdd, Int.reduceSub, Int.reduceMul, Int.reduceEq, FE, q3, q6, q26, p0, p1, p2, hflE, n2, n3, hnE]
  have n4 : (B.next = D.next) = False := eq_false (by omega)
  have n5 : (B.next = D.next + 1) = False := eq_false (by omega)
  have n6 : (B.next + 1 = D.next) = False := eq_false (by omega)
  have n7 : (B.next + 1 = D.next + 1) = False := eq_false (by omega)
  refine iter_of (D.next + 1) d.length (fun seen2 τ F => Xt A.next A F ∧ D.next + 2 ≤ F.next ∧ F.blk A.next = some (.mp (ents fV (fents d)) d.length) ∧ F.blk B.next = some (.row (rowS S d seen).flatten 0 3) ∧
      F.blk (B.next + 1) = some (.it (some A.next) d.length (seen ++ [i]) d.length) ∧ F.blk D.next = some (.row [Value.int .i64 d[i].1, .int .i64 d[i].2.1, .int .i64 d[i].2.2] 0 3) ∧ F.blk (D.next + 1) = some (.it (some A.next) d.length seen2 d.length) ∧
      τ 3 = some (.map (some A.next)) ∧ τ 6 = some (.slice (some ⟨B.next, 0, some 0⟩) d.length d.length) ∧ τ 26 = some (.chan (some (B.next + 1))) ∧ τ 7 = some (.pointer (some ⟨D.next, 0, some 0⟩)) ∧ τ 32 = some (.chan (some (D.next + 1))) ∧
      τ 8 = some (.int .i64 (seen2.countP (fun b => decide (flt (d.getD b (0, 0, 0)) d[i])) : Nat))) ?_ ?_ ?_
  · refine ⟨?_, by simp [hnE], ?_, ?_, ?_, ?_, ?_, q3, q6, q26, rfl, rfl, rfl⟩
    · simp (maxDischargeDepth := 20) only [xt_push, xt_put, hxE, show A.next ≤ D.next by omega]
    · simp [Hp.push_blk, Hp.put_blk, hnE, n2, n3, p0]
    · simp [Hp.push_blk, Hp.put_blk, hnE, n4, n5, p1]
    · simp [Hp.push_blk, Hp.put_blk, hnE, n6, show ¬ B.next = D.next by omega, p2]
    · simp [Hp.push_blk, Hp.put_blk, hnE]
    · simp [Hp.push_blk, Hp.put_blk, hnE]
  · simp [seenOf, Hp.push_blk, Hp.put_blk, hnE]
  rintro seen2 τ F ⟨hxF, hnF, f0, f1, f2, f3, f4, q3, q6, q26, q7, q32, q8⟩ hseen2 hnod2 hlt2
  have gf : ∀ j, F.get G ⟨D.next, j, some 0⟩ = ([Value.int .i64 d[i].1, .int .i64 d[i].2.1, .int .i64 d[i].2.2] : List Value)[j]? := fun j => by simp only [Hp.get, f3, if_true]
  simp only [↓R1, R2, R3, R4, TY, reduceIte, Nat.reduceEqDiff, Nat.reduceAdd, Nat.reduceMul, Nat.reduceLT, Nat.reduceLeDiff, reduceCtorEq, decide_true, decide_false, Int.reduceLE, Int.reduceLT, Int.reduceToNat, Int.reduceAdd, Int.reduceSub, Int.reduceMul, Int.reduceEq, FE, q3, q6, q26, q7, q32, q8]
  have hfF : fl ≤ D.next + 1 := by omega
  refine next_of f4 f0 hfF (Nat.le_refl _) hold (fun hall => ?_) (fun e he hns2 => ?_)
  · have hall' : ∀ b, b < d.length → b ∈ seen2 := fun b hb => hall _ (hent b hb)
    obtain ⟨k, hk, hSk⟩ := List.mem_iff_getElem.1 (hdS d[i] (List.getElem_mem hi))
    have hc1 := count_seen (d := d) (fun g => decide (flt g d[i])) hnod2 hlt2 hall'
    have hc2 := hcnt k hk
    rw [hSk] at hc2
    rw [hc1, hc2] at q8
    have hkn : k < d.length := by omega
    have hki : ((k : Int) < (d.length : Int)) = True := eq_true (by omega)
    have hk0 : (0 ≤ (k : Int)) = True := eq_true (by omega)
    have hkt : ((k : Int)).toNat = k := by omega
    have hrl : (rowS S d seen).flatten.length = d.length * 3 := by rw [flat_len (rowS_three S d seen), rowS_len, hS]
    have hle : (k * 3 + 3 ≤ d.length * 3) = True := eq_true (by omega)
    have hflB : fl ≤ B.next := by have := hx.next; have := hA.floor; omega
    have ltF : D.next < F.next := by omega
    simp only [↓R1, R2, R3, R4, TY, reduceIte, Nat.reduceEqDiff, Nat.reduceAdd, Nat.reduceMul, Nat.reduceLT, Nat.reduceLeDiff, reduceCtorEq, decide_true, decide_false, Int.reduceLE, Int.reduceLT, Int.reduceToNat, Int.reduceAdd, Int.reduceSub, Int.reduceMul, Int.reduceEq, FE, q3, q6, q26, q7, q32, q8, gf, hki, hk0, hkt, f1, hrl, hle, hflB, hkn, ltF]
    have hch := set_chunk3 (.int .i64 d[i].1) (.int .i64 d[i].2.1) (.int .i64 d[i].2.2) (rowS S d seen) k (rowS_three S d seen) (by rw [rowS_len]; exact hk)
    have hput := rowS_put (seen := seen) hk hi hSn hSk
    rw [show [Value.int .i64 d[i].1, .int .i64 d[i].2.1, .int .i64 d[i].2.2] = fC d[i] from rfl, hput] at hch
    refine iter_on hseen hnod hlt hi hns ?_ ⟨hxF.put (by have := hx.next; omega) _, by simp; omega, ?_, ?_, ?_, q3, q6, q26⟩
    · rw [seenOf_it (by rw [Hp.put_blk, if_neg (by omega)]; exact f2)]
    · rw [Hp.put_blk, if_neg (by omega)]; exact f0
    · rw [Hp.put_blk, if_pos rfl]; exact congrArg (fun cs => some (Blk.row cs 0 3)) hch
    · rw [Hp.put_blk, if_neg (by omega)]; exact f2
  obtain ⟨i2, hi2, rfl⟩ := hmem e he
  simp only at hns2
  have r0 : (F.put (D.next + 1) (.it (some A.next) d.length (seen2 ++ [i2]) d.length)).blk A.next = some (.mp (ents fV (fents d)) d.length) := by rw [Hp.put_blk, if_neg (by omega)]; exact f0
  have r1 : (F.put (D.next + 1) (.it (some A.next) d.length (seen2 ++ [i2]) d.length)).blk B.next = some (.row (rowS S d seen).flatten 0 3) := by rw [Hp.put_blk, if_neg (by omega)]; exact f1
  have r2 : (F.put (D.next + 1) (.it (some A.next) d.length (seen2 ++ [i2]) d.length)).blk (B.next + 1) = some (.it (some A.next) d.length (seen ++ [i]) d.length) := by rw [Hp.put_blk, if_neg (by omega)]; exact f2
  have r3 : (F.put (D.next + 1) (.it (some A.next) d.length (seen2 ++ [i2]) d.length)).blk D.next = some (.row [Value.int .i64 d[i].1, .int .i64 d[i].2.1, .int .i64 d[i].2.2] 0 3) := by rw [Hp.put_blk, if_neg (by omega)]; exact f3
  have r4 : (F.put (D.next + 1) (.it (some A.next) d.length (seen2 ++ [i2]) d.length)).blk (D.next + 1) = some (.it (some A.next) d.length (seen2 ++ [i2]) d.length) := by rw [Hp.put_blk, if_pos rfl]
  have hxH : Xt A.next A (F.put (D.next + 1) (.it (some A.next) d.length (seen2 ++ [i2]) d.length)) := hxF.put (by omega) _
  have hnH : (F.put (D.next + 1) (.it (some A.next) d.length (seen2 ++ [i2]) d.length)).next = F.next := rfl
  generalize F.put (D.next + 1) (.it (some A.next) d.length (seen2 ++ [i2]) d.length) = H at *
  simp only [↓R1, R2, R3, R4, TY, reduceIte, Nat.reduceEqDiff, Nat.reduceAdd, Nat.reduceMul, Nat.reduceLT, Nat.reduceLeDiff, reduceCtorEq, decide_true, decide_false, Int.reduceLE, Int.reduceLT, Int.reduceToNat, Int.reduceAdd, Int.reduceSub, Int.reduceMul, Int.reduceEq, FE, q3, q6, q26, q7, q32, q8]
  refine entry_of r4 r0 (fents_find hi2) ?_
  simp only [fV]
  have gh : ∀ j, H.get G ⟨D.next, j, some 0⟩ = ([Value.int .i64 d[i].1, .int .i64 d[i].2.1, .int .i64 d[i].2.2] : List Value)[j]? := fun j => by simp only [Hp.get, r3, if_true]
  have hflF : fl ≤ F.next := by omega
  have ne8 : (D.next = F.next) = False := eq_false (by omega)
  have lt8 : D.next < F.next + 1 := by omega
  have lt9 : D.next < F.next := by omega
  simp only [↓R1, R2, R3, R4, TY, reduceIte, Nat.reduceEqDiff, Nat.reduceAdd, Nat.reduceMul, Nat.reduceLT, Nat.reduceLeDiff, reduceCtorEq, decide_true, decide_false, Int.reduceLE, Int.reduceLT, Int.reduceToNat, Int.reduceAdd, Int.reduceSub, Int.reduceMul, Int.reduceEq, FE, q3, q6, q26, q7, q32, q8, r0, gh, hflF, hnH, ne8, lt8, lt9]
  have fs := fun fl A => factLess_ok (G := G) (fl := fl) (A := A) d[i2] d[i]
  simp only [fV] at fs
  generalize hZ : (H.push (.row [Value.int .i64 0, .int .i64 0, .int .i64 0] 0 3)).put F.next (.row [Value.int .i64 d[i2].1, .int .i64 d[i2].2.1, .int .i64 d[i2].2.2] 0 3) = Z
  have zn : Z.next = F.next + 1 := by rw [← hZ, Hp.put_next, Hp.push_next, hnH]
  have zx : Xt F.next H Z := by rw [← hZ, ← hnH]; simp only [xt_push, xt_put, xt_refl, Nat.le_refl]
  have hcl := List.countP_le_length (p := fun b => decide (flt (d.getD b (0, 0, 0)) d[i])) (l := seen2)
  have hsl := seen_lt hnod2 hlt2
  have gd2 : d.getD i2 (0, 0, 0) = d[i2] := by simp [List.getD, hi2]
  have wr1 : IntKind.i64.wrap (((seen2.countP (fun b => decide (flt (d.getD b (0, 0, 0)) d[i])) : Nat) : Int) + 1) = ((seen2.countP (fun b => decide (flt (d.getD b (0, 0, 0)) d[i])) + 1 : Nat) : Int) := by rw [wrapI (by omega)]; omega
  clear hZ
  refine call_of (fs _ _) ?_
  simp only [↓R1, R2, R3, R4, TY, reduceIte, Nat.reduceEqDiff, Nat.reduceAdd, Nat.reduceMul, Nat.reduceLT, Nat.reduceLeDiff, reduceCtorEq, decide_true, decide_false, Int.reduceLE, Int.reduceLT, Int.reduceToNat, Int.reduceAdd, Int.reduceSub, Int.reduceMul, Int.reduceEq, FE, q3, q6, q26, q7, q32, q8, wr1]
  have hxZ : Xt A.next A Z := ⟨fun id hid => by rw [zx.blk id (by omega), hxH.blk id hid], by omega⟩
  refine ⟨fun hc => ?_, fun hc => ?_⟩
  · refine iter_on hseen2 hnod2 hlt2 hi2 hns2 (seenOf_it (by rw [zx.blk _ (by omega)]; exact r4)) ⟨hxZ, by omega, by rw [zx.blk _ (by omega)]; exact r0, by rw [zx.blk _ (by omega)]; exact r1, by rw [zx.blk _ (by omega)]; exact r2, by rw [zx.blk _ (by omega)]; exact r3, by rw [zx.blk _ (by omega)]; exact r4, q3, q6, q26, q7, q32, ?_⟩
    refine congrArg (fun n : Nat => some (Value.int .i64 (n : Int))) ?_
    rw [List.countP_append]; simp [hi2, hc]
  · refine iter_on hseen2 hnod2 hlt2 hi2 hns2 (seenOf_it (by rw [zx.blk _ (by omega)]; exact r4)) ⟨hxZ, by omega, by rw [zx.blk _ (by omega)]; exact r0, by rw [zx.blk _ (by omega)]; exact r1, by rw [zx.blk _ (by omega)]; exact r2, by rw [zx.blk _ (by omega)]; exact r3, by rw [zx.blk _ (by omega)]; exact r4, q3, q6, q26, q7, q32, q8.trans ?_⟩
    refine congrArg (fun n : Nat => some (Value.int .i64 (n : Int))) ?_
    rw [List.countP_append]; simp [hi2, hc]
end
end Go.Proofs.Ythchdnaabamplaa.Ab
