/- Facts: FactSets. -/
import Derived.Test.YthchdnaabamplaaFn
namespace Go.Proofs.Ythchdnaabamplaa.Ab
open Go.RowKit Go.Sort
set_option linter.unusedVariables false
set_option linter.unusedSimpArgs false
set_option maxRecDepth 100000

/-- Is what the first j hold, in the second. -/
def inAll (a b : List Fa) (j : Nat) : Prop := ∀ x ∈ a.take j, x ∈ b
instance (a b : List Fa) (j : Nat) : Decidable (inAll a b j) := by unfold inAll; infer_instance
theorem fcf_lt {x y : Fa} (h : flt x y) : fcf x y = -1 := by
  unfold fcf Lib.compareInt flt at *
  repeat' split
  all_goals omega
theorem fcf_gt {x y : Fa} (h : flt y x) : fcf x y = 1 := by
  unfold fcf Lib.compareInt flt at *
  repeat' split
  all_goals omega
theorem fcf_eq {x y : Fa} (h : ¬ flt x y) (k : ¬ flt y x) : fcf x y = 0 := by
  obtain rfl := flt_tot h k
  unfold fcf Lib.compareInt
  simp
theorem Acn.keep {A B : Hp} {lo sz : Nat} {v : Value} {css : List (List Value)} (h : Acn A lo sz v css) (hn : A.next ≤ B.next) (hk : ∀ id g n c, v = .slice (some ⟨id, 0, some g⟩) n c → id < A.next → B.blk id = A.blk id) : Acn B lo sz v css := by
  refine ⟨⟨h.ac.len, h.ac.one, ?_⟩, h.nil⟩
  rcases h.ac.at_ with h1 | ⟨id, g, n, c, h1, h2, h3, h4, h5, h6⟩
  · exact .inl h1
  · exact .inr ⟨id, g, n, c, h1, h2, h3, by omega, by rw [hk id g n c h1 h4]; exact h5, h6⟩

theorem pkN {G : Gl} {f : FuncId} {args : List Value} {D : Hp} {l : List Fa} (h : ∀ fl, Sound Try.prog G f args fl D (nlV D (l.map fC)) (nlH D 3 (l.map fC))) :
    ∃ r D1, (∀ fl, Sound Try.prog G f args fl D r D1) ∧ Xt D.next D D1 ∧ r.cells = [r].toArray ∧ ∀ C, Xt D1.next D1 C → Sl C 3 r (l.map fC) := by
  refine ⟨_, _, h, nlH_xt, ?_, fun C x => ?_⟩
  · unfold nlV; split <;> rfl
  · unfold nlV nlH at *
    split
    · rename_i h0; exact ⟨fc_len l, .inl ⟨rfl, h0⟩⟩
    · rename_i h0
      rw [if_neg h0] at x
      exact ⟨fc_len l, .inr (.inr ⟨_, _, _, 0, _, rfl, rfl, rfl, by rw [x.blk _ (by simp), Hp.push_blk, if_pos rfl], fun j y hj => by simpa using hj⟩)⟩
theorem pkF {G : Gl} {D : Hp} {v : Value} {l : List Fa} (hs : Sl D 3 v (l.map fC)) (hl : l.length ≤ 4000000) :
    ∃ r D1, (∀ fl, Sound Try.prog G 16 [v] fl D r D1) ∧ Xt D.next D D1 ∧ ∀ C, Xt D1.next D1 C → Sl C 3 r ((fset l).map fC) := by
  refine ⟨_, _, fun fl => factsOf_ok hs hl, (Xt.refl D).push _, fun C x => ?_⟩
  exact row_sl (by rw [x.blk _ (by simp)]; simp [Hp.push_blk]) rfl
theorem pkE {G : Gl} {D : Hp} {v u : Value} {l : List Fa} (h1 : Sl D 3 v (l.map fC)) (h2 : Sl D 3 u (l.map fC)) (hl : l.length ≤ 4000000) (fl : Nat) : Sound Try.prog G 14 [v, u] fl D (.bool true) D := by
  have := fequal_ok (G := G) (fl := fl) (by omega) h1 h2
  rwa [decide_eq_true rfl] at this
theorem pkC {G : Gl} {D : Hp} {v u : Value} {a b : List Fa} (h1 : Sl (D.push (.row [v, u] 0 1)) 3 v (a.map fC)) (h2 : Sl (D.push (.row [v, u] 0 1)) 3 u (b.map fC)) (la : a.length ≤ 1500000) (lb : b.length ≤ 1500000) :
    ∃ r D1, (∀ fl, Sound Try.prog G 20 [.slice (some ⟨D.next, 0, some 0⟩) 2 2] fl (D.push (.row [v, u] 0 1)) r D1) ∧ Xt D.next D D1 ∧ ∀ C, Xt D1.next D1 C → Sl C 3 r ((a ++ b).map fC) := by
  have cc := fun fl => concat_ok (G := G) (fl := fl) (A := D.push (.row [v, u] 0 1)) (v := .slice (some ⟨D.next, 0, some 0⟩) 2 2) (vs := [v, u]) (ls := [a, b])
    ⟨fun c hc => by simp at hc; rcases hc with rfl | rfl <;> rfl, .inr (.inr ⟨_, 2, 2, 0, _, rfl, rfl, rfl, by rw [Hp.push_blk, if_pos rfl], fun j x hj => by simpa using hj⟩)⟩ rfl (by simp)
    (fun i h h' => by
      match i, h with
      | 0, _ => exact h1
      | 1, _ => exact h2) (by simp; omega)
  have e1 : [a, b].flatten = a ++ b := by simp
  rw [e1] at cc
  simp only [lsV_nl, lsH_nl] at cc
  obtain ⟨r, D1, c, x, -, s⟩ := pkN cc
  exact ⟨r, D1, c, ((Xt.refl D).push _).trans x, s⟩
theorem fset_le (l : List Fa) : (fset l).length ≤ l.length := by
  have h := dd_le l
  rw [dd_len] at h
  exact h

section
variable {G : Gl} {fl : Nat} {A : Hp}
set_option maxHeartbeats 16000000 in
theorem factSets_calls {f : Fa} {v u w : Value} {a b c : List Fa} (ha : Sl A 3 v (a.map fC)) (la : a.length ≤ 1048576) (hb : Sl A 3 u (b.map fC)) (lb : b.length ≤ 1048576) (hc : Sl A 3 w (c.map fC)) (lc : c.length ≤ 1048576) :
    ∀ (μ : Mu) (W : World) (args' : Array Value), HR G μ fl A W → fl ≤ A.next → VRa μ A [v, u, w, fV f].toArray args' →
    Calls Try.prog 4 args' W fun e w' => ∃ u, e = .returned u ∧ ∃ ν, VR ν A (.bool true) u ∧ HR G ν fl A w' ∧ Trans fl μ A W ν A w' := by
  refine calls_of mixed Try.func4 Try.ntmps4 Try.results4 (by kernel_rfl) rfl (by kernel_rfl) (by kernel_rfl) fun hA => ?_
  obtain ⟨o, cp, rfl⟩ := ha.len
  rw [List.length_map] at ha ⊢
  simp only [fV]
  simp only [↓R1, R2, R3, R4, TY, reduceIte, Nat.reduceEqDiff, Nat.reduceAdd, Nat.reduceMul, Nat.reduceLT, Nat.reduceLeDiff, reduceCtorEq, decide_true, decide_false, Int.reduceLE, Int.reduceLT, Int.reduceToNat, Int.reduceAdd, Int.reduceSub, Int.reduceMul, Int.reduceEq, FE]
  refine range_of 20 a.length (fun j τ B => ∃ sb sl, Xt A.next A B ∧ A.next < B.next ∧ B.blk A.next = some (.row [Value.int .i64 f.1, .int .i64 f.2.1, .int .i64 f.2.2] 0 3) ∧
      Acn B (A.next + 1) 3 sb (((a.take j).filter fun x => decide (x ∈ b)).map fC) ∧ Acn B (A.next + 1) 3 sl (((a.take j).filter fun x => !decide (x ∈ b)).map fC) ∧
      (∀ id g n c g' n' c', sb = .slice (some ⟨id, 0, some g⟩) n c → sl = .slice (some ⟨id, 0, some g'⟩) n' c' → False) ∧
      τ 0 = some (.slice o a.length cp) ∧ τ 1 = some u ∧ τ 2 = some w ∧ τ 7 = some (.pointer (some ⟨A.next, 0, some 0⟩)) ∧ τ 9 = some sb ∧ τ 10 = some sl ∧ τ 11 = some (.bool (decide (inAll a b j))) ∧ τ 12 = some (.bool (decide (isSet a j))) ∧
      τ 18 = some (.slice o a.length cp) ∧ τ 19 = some (.int .i64 a.length) ∧ τ 20 = some (.int .i64 j)) ?_ ?_
  · exact ⟨_, _, (Xt.refl A).push _, by simp, by simp [Hp.push_blk], Acn.none, Acn.none, (fun id g n c g' n' c' h => by cases h), rfl, rfl, rfl, rfl, rfl, rfl, congrArg some (congrArg Value.bool (dec_t (by simp [inAll]))), congrArg some (congrArg Value.bool (dec_t fun i h hi => absurd hi (Nat.not_lt_zero _))), rfl, rfl, rfl⟩
  rintro j τ B hj ⟨sb, sl, hx, hn, hb0, hacb, hacl, hne, q0, q1, q2, q7, q9, q10, q11, q12, q18, q19, q20⟩
  simp only [↓R1x, R2, R3, R4, TY, reduceIte, Nat.reduceEqDiff, Nat.reduceAdd, Nat.reduceMul, Nat.reduceLT, Nat.reduceLeDiff, reduceCtorEq, decide_true, decide_false, Int.reduceLE, Int.reduceLT, Int.reduceToNat, Int.reduceAdd, Int.reduceSub, Int.reduceMul, Int.reduceEq, FE, q0, q1, q2, q7, q9, q10, q18, q19, q20]
  simp only [k_then]
  simp only [↓R1x, R2, R3, R4, TY, reduceIte, Nat.reduceEqDiff, Nat.reduceAdd, Nat.reduceMul, Nat.reduceLT, Nat.reduceLeDiff, reduceCtorEq, decide_true, decide_false, Int.reduceLE, Int.reduceLT, Int.reduceToNat, Int.reduceAdd, Int.reduceSub, Int.reduceMul, Int.reduceEq, FE, q0, q1, q2, q7, q9, q10, q18, q19, q20]
  refine ⟨fun hlt => ?_, fun hlt => ?_⟩
  rotate_left
  · have hje : j = a.length := by omega
    subst hje
    have mn : (if 1 < (a.length : Int) then (1 : Int) else a.length) = ((min a.length 1 : Nat) : Int) := by split <;> omega
    have hsB := ha.xt hA hx
    have hgB : ∀ i, B.get G ⟨A.next, i, some 0⟩ = ([Value.int .i64 f.1, .int .i64 f.2.1, .int .i64 f.2.2] : List Value)[i]? := fun i => by simp only [Hp.get, hb0, if_true]
    have mn0 : (0 ≤ ((min a.length 1 : Nat) : Int)) = True := eq_true (by omega)
    have hsl : ∀ f, @aSlc Try.prog B 24 (.slice o a.length cp) 0 (some (min a.length 1)) ⟨f⟩ = f (.slice o (min a.length 1) cp) := by
      intro f
      cases o with
      | none =>
        have hz : a.length = 0 ∧ cp = 0 := by
          rcases hsB.2 with ⟨e, k⟩ | ⟨_, _, e, _⟩ | ⟨_, _, _, _, _, e, _⟩
          · simp only [Value.slice.injEq] at e; exact ⟨e.2.1, e.2.2⟩
          · cases e
          · cases e
        obtain ⟨z1, rfl⟩ := hz
        rw [z1]
        have hT : (∃ e T, some (TD.sl 23) = some (TD.sl e) ∧ tyOf Try.prog e = some T) := ⟨_, _, rfl, ty23⟩
        simp only [↓R1, R2, R3, R4, TY, reduceIte, Nat.reduceEqDiff, Nat.reduceAdd, Nat.reduceMul, Nat.reduceLT, Nat.reduceLeDiff, reduceCtorEq, decide_true, decide_false, Int.reduceLE, Int.reduceLT, Int.reduceToNat, Int.reduceAdd, Int.reduceSub, Int.reduceMul, Int.reduceEq, Nat.zero_min, hT, Option.getD]
      | some p =>
        have he := hsB.esz
        have hle : min a.length 1 ≤ a.length ∨ min a.length 1 ≤ cp := .inl (by omega)
        simp only [↓R1, R2, R3, R4, TY, reduceIte, Nat.reduceEqDiff, Nat.reduceAdd, Nat.reduceMul, Nat.reduceLT, Nat.reduceLeDiff, reduceCtorEq, decide_true, decide_false, Int.reduceLE, Int.reduceLT, Int.reduceToNat, Int.reduceAdd, Int.reduceSub, Int.reduceMul, Int.reduceEq, he, hle, Nat.zero_le, Nat.sub_zero, Nat.zero_mul, Option.getD]
        rfl
    have mn2 : (((min a.length 1 : Nat) : Int)).toNat = min a.length 1 := by omega
    simp only [↓R1x, R2, R3, R4, TY, reduceIte, Nat.reduceEqDiff, Nat.reduceAdd, Nat.reduceMul, Nat.reduceLT, Nat.reduceLeDiff, reduceCtorEq, decide_true, decide_false, Int.reduceLE, Int.reduceLT, Int.reduceToNat, Int.reduceAdd, Int.reduceSub, Int.reduceMul, Int.reduceEq, FE, q0, q1, q2, q7, q9, q10, q18, q19, q20, mn]
    simp only [k_then]
    simp only [↓R1x, R2, R3, R4, TY, reduceIte, Nat.reduceEqDiff, Nat.reduceAdd, Nat.reduceMul, Nat.reduceLT, Nat.reduceLeDiff, reduceCtorEq, decide_true, decide_false, Int.reduceLE, Int.reduceLT, Int.reduceToNat, Int.reduceAdd, Int.reduceSub, Int.reduceMul, Int.reduceEq, FE, q0, q1, q2, q7, q9, q10, q18, q19, q20, mn, mn0, mn2, hsl]
    simp only [k_then]
    simp only [↓R1x, R2, R3, R4, TY, reduceIte, Nat.reduceEqDiff, Nat.reduceAdd, Nat.reduceMul, Nat.reduceLT, Nat.reduceLeDiff, reduceCtorEq, decide_true, decide_false, Int.reduceLE, Int.reduceLT, Int.reduceToNat, Int.reduceAdd, Int.reduceSub, Int.reduceMul, Int.reduceEq, FE, q0, q1, q2, q7, q9, q10, q18, q19, q20, mn, mn0, mn2, hsl]
    have l1f : (a.filter fun x => decide (x ∈ b)).length ≤ a.length := List.length_filter_le _ _
    have l2f : (a.filter fun x => !decide (x ∈ b)).length ≤ a.length := List.length_filter_le _ _
    rw [List.take_of_length_le (Nat.le_refl _)] at hacb hacl
    simp only [k_then]
    refine range_of 61 (min a.length 1) (fun i τ' D => Xt B.next B D ∧ (i = 0 → τ' 15 = some (.int .i64 0)) ∧ τ' 0 = τ 0 ∧ τ' 1 = τ 1 ∧ τ' 2 = τ 2 ∧ τ' 7 = τ 7 ∧ τ' 9 = τ 9 ∧ τ' 10 = τ 10 ∧ τ' 11 = τ 11 ∧ τ' 12 = τ 12 ∧
      τ' 59 = some (.slice o (min a.length 1) cp) ∧ τ' 60 = some (.int .i64 (min a.length 1 : Nat)) ∧ τ' 61 = some (.int .i64 i)) ?_ ?_
    · exact ⟨Xt.refl _, fun _ => rfl, rfl, rfl, rfl, rfl, rfl, rfl, rfl, rfl, rfl, rfl, rfl⟩
    rintro i τ' D hi ⟨hxD, h15, p0, p1, p2, p7, p9, p10, p11, p12, p59, p60, p61⟩
    have hxx := hx.trans hxD
    rw [q0] at p0; rw [q1] at p1; rw [q2] at p2; rw [q7] at p7; rw [q9] at p9; rw [q10] at p10; rw [q11] at p11; rw [q12] at p12
    simp only [↓R1x, R2, R3, R4, TY, reduceIte, Nat.reduceEqDiff, Nat.reduceAdd, Nat.reduceMul, Nat.reduceLT, Nat.reduceLeDiff, reduceCtorEq, decide_true, decide_false, Int.reduceLE, Int.reduceLT, Int.reduceToNat, Int.reduceAdd, Int.reduceSub, Int.reduceMul, Int.reduceEq, FE, p0, p1, p2, p7, p9, p10, p59, p60, p61]
    simp only [k_then]
    simp only [↓R1x, R2, R3, R4, TY, reduceIte, Nat.reduceEqDiff, Nat.reduceAdd, Nat.reduceMul, Nat.reduceLT, Nat.reduceLeDiff, reduceCtorEq, decide_true, decide_false, Int.reduceLE, Int.reduceLT, Int.reduceToNat, Int.reduceAdd, Int.reduceSub, Int.reduceMul, Int.reduceEq, FE, p0, p1, p2, p7, p9, p10, p59, p60, p61]
    refine ⟨fun hlt2 => ?_, fun hlt2 => ?_⟩
    · have hi0 : i = 0 := by omega
      subst hi0
      have h0l : 0 < a.length := by omega
      have p15 := h15 rfl
      have k61 := p61
      obtain ⟨p, rfl, -⟩ := ha.at (G := G) (i := 0) (by simpa using h0l)
      have haD := ha.xt hA hxx
      have hab : p.block < D.next := Nat.lt_of_lt_of_le (ha.lt hA) hxx.next
      have hflD : fl ≤ D.next := Nat.le_trans hA.floor hxx.next
      obtain ⟨u0, u1, u2⟩ := fa3_get (G := G) haD h0l
      simp only [Nat.zero_mul, Nat.zero_add] at u0 u1 u2
      have hAD : A.next < D.next := by have := hxD.next; omega
      have hne0 : (A.next = D.next) = False := eq_false (by omega)
      have d0 : D.blk A.next = some (.row [Value.int .i64 f.1, .int .i64 f.2.1, .int .i64 f.2.2] 0 3) := by rw [hxD.blk _ hn]; exact hb0
      have gd : ∀ i, D.get G ⟨A.next, i, some 0⟩ = ([Value.int .i64 f.1, .int .i64 f.2.1, .int .i64 f.2.2] : List Value)[i]? := fun i => by simp only [Hp.get, d0, if_true]
      have fs1 := fun fl A => factLess_ok (G := G) (fl := fl) (A := A) f a[0]
      have fs2 := fun fl A => factLess_ok (G := G) (fl := fl) (A := A) a[0] f
      have cmp := fun fl A => fcompare_ok (G := G) (fl := fl) (A := A) f a[0]
      simp only [fV] at fs1 fs2 cmp
      have hlt3 : (0 < ((min a.length 1 : Nat) : Int)) = True := eq_true (by omega)
      simp only [↓R1, R2, R3, R4, TY, reduceIte, Nat.reduceEqDiff, Nat.reduceAdd, Nat.reduceMul, Nat.reduceLT, Nat.reduceLeDiff, reduceCtorEq, decide_true, decide_false, Int.reduceLE, Int.reduceLT, Int.reduceToNat, Int.reduceAdd, Int.reduceSub, Int.reduceMul, Int.reduceEq, FE, p0, p1, p2, p7, p9, p10, p15, p59, p60, p61, hlt3, hab, u0, u1, u2, hflD, gd, hne0, hAD, d0]
      generalize hE0 : (D.push (.row [Value.int .i64 0, .int .i64 0, .int .i64 0] 0 3)).put D.next (.row [Value.int .i64 a[0].1, .int .i64 a[0].2.1, .int .i64 a[0].2.2] 0 3) = E0
      have e0n : E0.next = D.next + 1 := by rw [← hE0]; rfl
      have e0b : E0.blk D.next = some (.row [Value.int .i64 a[0].1, .int .i64 a[0].2.1, .int .i64 a[0].2.2] 0 3) := by rw [← hE0]; simp [Hp.put_blk]
      have hx0 : Xt D.next D E0 := by rw [← hE0]; simp only [xt_push, xt_put, xt_refl, Nat.le_refl]
      have g0 : ∀ i, E0.get G ⟨D.next, i, some 0⟩ = ([Value.int .i64 a[0].1, .int .i64 a[0].2.1, .int .i64 a[0].2.2] : List Value)[i]? := fun i => by simp only [Hp.get, e0b, if_true]
      have g1 : ∀ i, E0.get G ⟨A.next, i, some 0⟩ = ([Value.int .i64 f.1, .int .i64 f.2.1, .int .i64 f.2.2] : List Value)[i]? := fun i => by rw [hx0.get (show A.next < D.next from hAD)]; exact gd i
      clear hE0
      refine call_of (fs1 _ _) ?_
      simp only [↓R1, R2, R3, R4, TY, reduceIte, Nat.reduceEqDiff, Nat.reduceAdd, Nat.reduceMul, Nat.reduceLT, Nat.reduceLeDiff, reduceCtorEq, decide_true, decide_false, Int.reduceLE, Int.reduceLT, Int.reduceToNat, Int.reduceAdd, Int.reduceSub, Int.reduceMul, Int.reduceEq, FE, p0, p1, p2, p7, p9, p10, p15, p59, p60, p61, g0, g1]
      refine ⟨fun h1 => ?_, fun h1 => ?_⟩
      · have w := fcf_lt h1
        have h2 : ¬ flt a[0] f := fun h2 => by rw [fcf_gt h2] at w; exact absurd w (by decide)
        refine call_of (fs2 _ _) ?_
        simp only [↓R1, R2, R3, R4, TY, reduceIte, Nat.reduceEqDiff, Nat.reduceAdd, Nat.reduceMul, Nat.reduceLT, Nat.reduceLeDiff, reduceCtorEq, decide_true, decide_false, Int.reduceLE, Int.reduceLT, Int.reduceToNat, Int.reduceAdd, Int.reduceSub, Int.reduceMul, Int.reduceEq, FE, p0, p1, p2, p7, p9, p10, p15, p59, p60, p61, g0, g1, h2]
        refine call_of (cmp _ _) ?_
        simp only [↓R1, R2, R3, R4, TY, reduceIte, Nat.reduceEqDiff, Nat.reduceAdd, Nat.reduceMul, Nat.reduceLT, Nat.reduceLeDiff, reduceCtorEq, decide_true, decide_false, Int.reduceLE, Int.reduceLT, Int.reduceToNat, Int.reduceAdd, Int.reduceSub, Int.reduceMul, Int.reduceEq, FE, p0, p1, p2, p7, p9, p10, p15, p59, p60, p61, g0, g1, w, ne_eq, not_true_eq_false, not_false_eq_true]
        refine range_on k61 hlt2 rfl ⟨hxD.trans hx0, (fun h => absurd h (by omega)), p0.trans q0.symm, p1.trans q1.symm, p2.trans q2.symm, p7.trans q7.symm, p9.trans q9.symm, p10.trans q10.symm, p11.trans q11.symm, p12.trans q12.symm, p59, p60, rfl⟩
      refine call_of (fs2 _ _) ?_
      simp only [↓R1, R2, R3, R4, TY, reduceIte, Nat.reduceEqDiff, Nat.reduceAdd, Nat.reduceMul, Nat.reduceLT, Nat.reduceLeDiff, reduceCtorEq, decide_true, decide_false, Int.reduceLE, Int.reduceLT, Int.reduceToNat, Int.reduceAdd, Int.reduceSub, Int.reduceMul, Int.reduceEq, FE, p0, p1, p2, p7, p9, p10, p15, p59, p60, p61, g0, g1]
      refine ⟨fun h2 => ?_, fun h2 => ?_⟩
      · have w := fcf_gt h2
        refine call_of (cmp _ _) ?_
        simp only [↓R1, R2, R3, R4, TY, reduceIte, Nat.reduceEqDiff, Nat.reduceAdd, Nat.reduceMul, Nat.reduceLT, Nat.reduceLeDiff, reduceCtorEq, decide_true, decide_false, Int.reduceLE, Int.reduceLT, Int.reduceToNat, Int.reduceAdd, Int.reduceSub, Int.reduceMul, Int.reduceEq, FE, p0, p1, p2, p7, p9, p10, p15, p59, p60, p61, g0, g1, w]
        refine range_on k61 hlt2 rfl ⟨hxD.trans hx0, (fun h => absurd h (by omega)), p0.trans q0.symm, p1.trans q1.symm, p2.trans q2.symm, p7.trans q7.symm, p9.trans q9.symm, p10.trans q10.symm, p11.trans q11.symm, p12.trans q12.symm, p59, p60, rfl⟩
      · have w := fcf_eq h1 h2
        refine call_of (cmp _ _) ?_
        simp only [↓R1, R2, R3, R4, TY, reduceIte, Nat.reduceEqDiff, Nat.reduceAdd, Nat.reduceMul, Nat.reduceLT, Nat.reduceLeDiff, reduceCtorEq, decide_true, decide_false, Int.reduceLE, Int.reduceLT, Int.reduceToNat, Int.reduceAdd, Int.reduceSub, Int.reduceMul, Int.reduceEq, FE, p0, p1, p2, p7, p9, p10, p15, p59, p60, p61, g0, g1, w]
        refine range_on k61 hlt2 rfl ⟨hxD.trans hx0, (fun h => absurd h (by omega)), p0.trans q0.symm, p1.trans q1.symm, p2.trans q2.symm, p7.trans q7.symm, p9.trans q9.symm, p10.trans q10.symm, p11.trans q11.symm, p12.trans q12.symm, p59, p60, rfl⟩
    clear h15
    have haD := ha.xt hA hxx
    have hbD := hb.xt hA hxx
    have hcD := hc.xt hA hxx
    have d0 : D.blk A.next = some (.row [Value.int .i64 f.1, .int .i64 f.2.1, .int .i64 f.2.2] 0 3) := by rw [hxD.blk _ hn]; exact hb0
    have sbD := fun C (x : Xt D.next D C) => (hacb.xt (hxD.trans x)).sl
    have slD := fun C (x : Xt D.next D C) => (hacl.xt (hxD.trans x)).sl
    have aD := fun C (x : Xt D.next D C) => ha.xt hA (hxx.trans x)
    have bD := fun C (x : Xt D.next D C) => hb.xt hA (hxx.trans x)
    have cD := fun C (x : Xt D.next D C) => hc.xt hA (hxx.trans x)
    have y0 := Xt.refl D
    have f0 := fun fl => facted_ok (G := G) (fl := fl) (A := D)
    have fv := fun fl => fvalid_ok (G := G) (fl := fl) (A := D) f
    have fi := fun fl => factIs_ok (G := G) (fl := fl) (A := D) f
    obtain ⟨r1, D1, c1, x1, -, s1⟩ := pkN fun fl => of_ok (G := G) (fl := fl) (aD D y0) (by omega)
    have y1 := y0.trans x1
    obtain ⟨r2, D2, c2, x2, s2⟩ := pkF (G := G) (aD D1 y1) (by omega)
    have y2 := y1.trans x2
    have e1 := pkE (G := G) (s1 D2 x2) (s2 D2 (Xt.refl _)) (by have := fset_le a; omega)
    have st := fun fl => isSet_ok (G := G) (fl := fl) (aD D2 y2) (by omega)
    have hs := fun fl => has_ok (G := G) (fl := fl) (aD D2 y2) (by omega) f
    have cs := fun fl => fa3_contains (G := G) (fl := fl) (aD D2 y2) (by omega) f
    obtain ⟨r3, D3, c3, x3, -, s3⟩ := pkN fun fl => join_ok (G := G) (fl := fl) (aD D2 y2) (bD D2 y2) (by omega) (by omega)
    have y3 := y2.trans x3
    have y3' := y3.push (.row [.slice o a.length cp, u] 0 1)
    obtain ⟨r4, D4, c4, x4, s4⟩ := pkC (G := G) (D := D3) (v := .slice o a.length cp) (u := u) (aD _ y3') (bD _ y3') (by omega) (by omega)
    have y4 := y3.trans x4
    obtain ⟨r5, D5, c5, x5, s5⟩ := pkF (G := G) (s4 D4 (Xt.refl _)) (by simp; omega)
    have y5 := y4.trans x5
    have e2 := pkE (G := G) (s3 D5 (x4.trans x5)) (s5 D5 (Xt.refl _)) (by have := fset_le (a ++ b); simp at this; omega)
    obtain ⟨r6, D6, c6, x6, -, s6⟩ := pkN fun fl => meet_ok (G := G) (fl := fl) (aD D5 y5) (bD D5 y5) (by omega) (by omega)
    have y6 := y5.trans x6
    obtain ⟨r7, D7, c7, x7, s7⟩ := pkF (G := G) (sbD D6 y6) (by omega)
    have y7 := y6.trans x7
    have e3 := pkE (G := G) (s6 D7 x7) (s7 D7 (Xt.refl _)) (by have := fset_le (a.filter fun x => decide (x ∈ b)); omega)
    obtain ⟨r8, D8, c8, x8, -, s8⟩ := pkN fun fl => minus_ok (G := G) (fl := fl) (aD D7 y7) (bD D7 y7) (by omega) (by omega)
    have y8 := y7.trans x8
    obtain ⟨r9, D9, c9, x9, s9⟩ := pkF (G := G) (slD D8 y8) (by omega)
    have y9 := y8.trans x9
    have e4 := pkE (G := G) (s8 D9 x9) (s9 D9 (Xt.refl _)) (by have := fset_le (a.filter fun x => !decide (x ∈ b)); omega)
    have wi : ∀ fl, Sound Try.prog G 23 [.slice o a.length cp, u] fl D9 (.bool (decide (inAll a b a.length))) D9 := fun fl => by
      have := within_ok (G := G) (fl := fl) (aD D9 y9) (bD D9 y9) (by omega) (by omega)
      rwa [show decide (∀ x ∈ a, x ∈ b) = decide (inAll a b a.length) from decide_eq_decide.2 (by unfold inAll; rw [List.take_of_length_le (Nat.le_refl _)])] at this
    obtain ⟨r10, D10, c10, x10, -, s10⟩ := pkN fun fl => apply_ok (G := G) (fl := fl) (aD D9 y9) (bD D9 y9) (cD D9 y9) (by omega) (by omega) (by omega)
    have y10 := y9.trans x10
    have y10' := y10.push (.row [sl, w] 0 1)
    obtain ⟨r11, D11, c11, x11, s11⟩ := pkC (G := G) (D := D10) (v := sl) (u := w) (slD _ y10') (cD _ y10') (by omega) (by omega)
    have y11 := y10.trans x11
    obtain ⟨r12, D12, c12, x12, s12⟩ := pkF (G := G) (s11 D11 (Xt.refl _)) (by simp; omega)
    have y12 := y11.trans x12
    have hfs : fset (fset (a.filter fun x => !decide (x ∈ b)) ++ c) = fset ((a.filter fun x => !decide (x ∈ b)) ++ c) := fset_congr fun g hg => by
      rw [List.mem_append, List.mem_append, fset_mem]
      exact ⟨fun h => h.imp And.left id, fun h => h.imp (fun h => ⟨h, hg⟩) id⟩
    rw [hfs] at s10
    have e5 := pkE (G := G) (s10 D12 (x11.trans x12)) (s12 D12 (Xt.refl _)) (by have := fset_le ((a.filter fun x => !decide (x ∈ b)) ++ c); simp at this; omega)
    have gd : ∀ i, D.get G ⟨A.next, i, some 0⟩ = ([Value.int .i64 f.1, .int .i64 f.2.1, .int .i64 f.2.2] : List Value)[i]? := fun i => by simp only [Hp.get, d0, if_true]
    have hAD : A.next < D.next := by have := hxD.next; omega
    have gE : ∀ C, Xt D.next D C → ∀ i, C.get G ⟨A.next, i, some 0⟩ = ([Value.int .i64 f.1, .int .i64 f.2.1, .int .i64 f.2.2] : List Value)[i]? := fun C x i => by rw [x.get (show A.next < D.next from hAD)]; exact gd i
    have gd2 := gE D2 y2
    have cu : u.cells = [u].toArray := by obtain ⟨_, _, rfl⟩ := hb.len; rfl
    have cw : w.cells = [w].toArray := by obtain ⟨_, _, rfl⟩ := hc.len; rfl
    have cl : sl.cells = [sl].toArray := by obtain ⟨_, _, rfl⟩ := hacl.sl.len; rfl
    have zs : zl [Value.slice none 0 0] 2 = [Value.slice none 0 0, Value.slice none 0 0] := rfl
    simp only [fV] at fv fi hs cs
    simp only [List.append]
    simp only [↓R1, R2, R3, R4, TY, reduceIte, Nat.reduceEqDiff, Nat.reduceAdd, Nat.reduceMul, Nat.reduceLT, Nat.reduceLeDiff, reduceCtorEq, decide_true, decide_false, Int.reduceLE, Int.reduceLT, Int.reduceToNat, Int.reduceAdd, Int.reduceSub, Int.reduceMul, Int.reduceEq, FE, p0, p1, p2, p7, p9, p10, p11, p12, gd, gd2, cu, cw, cl, zs, hAD]
    refine call_of (f0 _) ?_
    simp only [↓R1, R2, R3, R4, TY, reduceIte, Nat.reduceEqDiff, Nat.reduceAdd, Nat.reduceMul, Nat.reduceLT, Nat.reduceLeDiff, reduceCtorEq, decide_true, decide_false, Int.reduceLE, Int.reduceLT, Int.reduceToNat, Int.reduceAdd, Int.reduceSub, Int.reduceMul, Int.reduceEq, FE, p0, p1, p2, p7, p9, p10, p11, p12, gd, gd2, cu, cw, cl, zs, hAD, beq_self_eq_true]
    refine call_of (fv _) ?_
    simp only [↓R1, R2, R3, R4, TY, reduceIte, Nat.reduceEqDiff, Nat.reduceAdd, Nat.reduceMul, Nat.reduceLT, Nat.reduceLeDiff, reduceCtorEq, decide_true, decide_false, Int.reduceLE, Int.reduceLT, Int.reduceToNat, Int.reduceAdd, Int.reduceSub, Int.reduceMul, Int.reduceEq, FE, p0, p1, p2, p7, p9, p10, p11, p12, gd, gd2, cu, cw, cl, zs, hAD, beq_self_eq_true]
    refine call_of (fi _) ?_
    simp only [↓R1, R2, R3, R4, TY, reduceIte, Nat.reduceEqDiff, Nat.reduceAdd, Nat.reduceMul, Nat.reduceLT, Nat.reduceLeDiff, reduceCtorEq, decide_true, decide_false, Int.reduceLE, Int.reduceLT, Int.reduceToNat, Int.reduceAdd, Int.reduceSub, Int.reduceMul, Int.reduceEq, FE, p0, p1, p2, p7, p9, p10, p11, p12, gd, gd2, cu, cw, cl, zs, hAD, beq_self_eq_true]
    refine call_of (c1 _) ?_
    simp only [↓R1, R2, R3, R4, TY, reduceIte, Nat.reduceEqDiff, Nat.reduceAdd, Nat.reduceMul, Nat.reduceLT, Nat.reduceLeDiff, reduceCtorEq, decide_true, decide_false, Int.reduceLE, Int.reduceLT, Int.reduceToNat, Int.reduceAdd, Int.reduceSub, Int.reduceMul, Int.reduceEq, FE, p0, p1, p2, p7, p9, p10, p11, p12, gd, gd2, cu, cw, cl, zs, hAD, beq_self_eq_true]
    refine call_of (c2 _) ?_
    simp only [↓R1, R2, R3, R4, TY, reduceIte, Nat.reduceEqDiff, Nat.reduceAdd, Nat.reduceMul, Nat.reduceLT, Nat.reduceLeDiff, reduceCtorEq, decide_true, decide_false, Int.reduceLE, Int.reduceLT, Int.reduceToNat, Int.reduceAdd, Int.reduceSub, Int.reduceMul, Int.reduceEq, FE, p0, p1, p2, p7, p9, p10, p11, p12, gd, gd2, cu, cw, cl, zs, hAD, beq_self_eq_true]
    refine call_of (e1 _) ?_
    simp only [↓R1, R2, R3, R4, TY, reduceIte, Nat.reduceEqDiff, Nat.reduceAdd, Nat.reduceMul, Nat.reduceLT, Nat.reduceLeDiff, reduceCtorEq, decide_true, decide_false, Int.reduceLE, Int.reduceLT, Int.reduceToNat, Int.reduceAdd, Int.reduceSub, Int.reduceMul, Int.reduceEq, FE, p0, p1, p2, p7, p9, p10, p11, p12, gd, gd2, cu, cw, cl, zs, hAD, beq_self_eq_true]
    refine call_of (st _) ?_
    simp only [↓R1, R2, R3, R4, TY, reduceIte, Nat.reduceEqDiff, Nat.reduceAdd, Nat.reduceMul, Nat.reduceLT, Nat.reduceLeDiff, reduceCtorEq, decide_true, decide_false, Int.reduceLE, Int.reduceLT, Int.reduceToNat, Int.reduceAdd, Int.reduceSub, Int.reduceMul, Int.reduceEq, FE, p0, p1, p2, p7, p9, p10, p11, p12, gd, gd2, cu, cw, cl, zs, hAD, beq_self_eq_true]
    refine call_of (hs _) ?_
    simp only [↓R1, R2, R3, R4, TY, reduceIte, Nat.reduceEqDiff, Nat.reduceAdd, Nat.reduceMul, Nat.reduceLT, Nat.reduceLeDiff, reduceCtorEq, decide_true, decide_false, Int.reduceLE, Int.reduceLT, Int.reduceToNat, Int.reduceAdd, Int.reduceSub, Int.reduceMul, Int.reduceEq, FE, p0, p1, p2, p7, p9, p10, p11, p12, gd, gd2, cu, cw, cl, zs, hAD, beq_self_eq_true]
    refine call_of (cs _) ?_
    simp only [↓R1, R2, R3, R4, TY, reduceIte, Nat.reduceEqDiff, Nat.reduceAdd, Nat.reduceMul, Nat.reduceLT, Nat.reduceLeDiff, reduceCtorEq, decide_true, decide_false, Int.reduceLE, Int.reduceLT, Int.reduceToNat, Int.reduceAdd, Int.reduceSub, Int.reduceMul, Int.reduceEq, FE, p0, p1, p2, p7, p9, p10, p11, p12, gd, gd2, cu, cw, cl, zs, hAD, beq_self_eq_true]
    refine call_of (c3 _) ?_
    simp only [↓R1, R2, R3, R4, TY, reduceIte, Nat.reduceEqDiff, Nat.reduceAdd, Nat.reduceMul, Nat.reduceLT, Nat.reduceLeDiff, reduceCtorEq, decide_true, decide_false, Int.reduceLE, Int.reduceLT, Int.reduceToNat, Int.reduceAdd, Int.reduceSub, Int.reduceMul, Int.reduceEq, FE, p0, p1, p2, p7, p9, p10, p11, p12, gd, gd2, cu, cw, cl, zs, hAD, beq_self_eq_true]
    refine call_of (c4 _) ?_
    simp only [↓R1, R2, R3, R4, TY, reduceIte, Nat.reduceEqDiff, Nat.reduceAdd, Nat.reduceMul, Nat.reduceLT, Nat.reduceLeDiff, reduceCtorEq, decide_true, decide_false, Int.reduceLE, Int.reduceLT, Int.reduceToNat, Int.reduceAdd, Int.reduceSub, Int.reduceMul, Int.reduceEq, FE, p0, p1, p2, p7, p9, p10, p11, p12, gd, gd2, cu, cw, cl, zs, hAD, beq_self_eq_true]
    refine call_of (c5 _) ?_
    simp only [↓R1, R2, R3, R4, TY, reduceIte, Nat.reduceEqDiff, Nat.reduceAdd, Nat.reduceMul, Nat.reduceLT, Nat.reduceLeDiff, reduceCtorEq, decide_true, decide_false, Int.reduceLE, Int.reduceLT, Int.reduceToNat, Int.reduceAdd, Int.reduceSub, Int.reduceMul, Int.reduceEq, FE, p0, p1, p2, p7, p9, p10, p11, p12, gd, gd2, cu, cw, cl, zs, hAD, beq_self_eq_true]
    refine call_of (e2 _) ?_
    simp only [↓R1, R2, R3, R4, TY, reduceIte, Nat.reduceEqDiff, Nat.reduceAdd, Nat.reduceMul, Nat.reduceLT, Nat.reduceLeDiff, reduceCtorEq, decide_true, decide_false, Int.reduceLE, Int.reduceLT, Int.reduceToNat, Int.reduceAdd, Int.reduceSub, Int.reduceMul, Int.reduceEq, FE, p0, p1, p2, p7, p9, p10, p11, p12, gd, gd2, cu, cw, cl, zs, hAD, beq_self_eq_true]
    refine call_of (c6 _) ?_
    simp only [↓R1, R2, R3, R4, TY, reduceIte, Nat.reduceEqDiff, Nat.reduceAdd, Nat.reduceMul, Nat.reduceLT, Nat.reduceLeDiff, reduceCtorEq, decide_true, decide_false, Int.reduceLE, Int.reduceLT, Int.reduceToNat, Int.reduceAdd, Int.reduceSub, Int.reduceMul, Int.reduceEq, FE, p0, p1, p2, p7, p9, p10, p11, p12, gd, gd2, cu, cw, cl, zs, hAD, beq_self_eq_true]
    refine call_of (c7 _) ?_
    simp only [↓R1, R2, R3, R4, TY, reduceIte, Nat.reduceEqDiff, Nat.reduceAdd, Nat.reduceMul, Nat.reduceLT, Nat.reduceLeDiff, reduceCtorEq, decide_true, decide_false, Int.reduceLE, Int.reduceLT, Int.reduceToNat, Int.reduceAdd, Int.reduceSub, Int.reduceMul, Int.reduceEq, FE, p0, p1, p2, p7, p9, p10, p11, p12, gd, gd2, cu, cw, cl, zs, hAD, beq_self_eq_true]
    refine call_of (e3 _) ?_
    simp only [↓R1, R2, R3, R4, TY, reduceIte, Nat.reduceEqDiff, Nat.reduceAdd, Nat.reduceMul, Nat.reduceLT, Nat.reduceLeDiff, reduceCtorEq, decide_true, decide_false, Int.reduceLE, Int.reduceLT, Int.reduceToNat, Int.reduceAdd, Int.reduceSub, Int.reduceMul, Int.reduceEq, FE, p0, p1, p2, p7, p9, p10, p11, p12, gd, gd2, cu, cw, cl, zs, hAD, beq_self_eq_true]
    refine call_of (c8 _) ?_
    simp only [↓R1, R2, R3, R4, TY, reduceIte, Nat.reduceEqDiff, Nat.reduceAdd, Nat.reduceMul, Nat.reduceLT, Nat.reduceLeDiff, reduceCtorEq, decide_true, decide_false, Int.reduceLE, Int.reduceLT, Int.reduceToNat, Int.reduceAdd, Int.reduceSub, Int.reduceMul, Int.reduceEq, FE, p0, p1, p2, p7, p9, p10, p11, p12, gd, gd2, cu, cw, cl, zs, hAD, beq_self_eq_true]
    refine call_of (c9 _) ?_
    simp only [↓R1, R2, R3, R4, TY, reduceIte, Nat.reduceEqDiff, Nat.reduceAdd, Nat.reduceMul, Nat.reduceLT, Nat.reduceLeDiff, reduceCtorEq, decide_true, decide_false, Int.reduceLE, Int.reduceLT, Int.reduceToNat, Int.reduceAdd, Int.reduceSub, Int.reduceMul, Int.reduceEq, FE, p0, p1, p2, p7, p9, p10, p11, p12, gd, gd2, cu, cw, cl, zs, hAD, beq_self_eq_true]
    refine call_of (e4 _) ?_
    simp only [↓R1, R2, R3, R4, TY, reduceIte, Nat.reduceEqDiff, Nat.reduceAdd, Nat.reduceMul, Nat.reduceLT, Nat.reduceLeDiff, reduceCtorEq, decide_true, decide_false, Int.reduceLE, Int.reduceLT, Int.reduceToNat, Int.reduceAdd, Int.reduceSub, Int.reduceMul, Int.reduceEq, FE, p0, p1, p2, p7, p9, p10, p11, p12, gd, gd2, cu, cw, cl, zs, hAD, beq_self_eq_true]
    refine call_of (wi _) ?_
    simp only [↓R1, R2, R3, R4, TY, reduceIte, Nat.reduceEqDiff, Nat.reduceAdd, Nat.reduceMul, Nat.reduceLT, Nat.reduceLeDiff, reduceCtorEq, decide_true, decide_false, Int.reduceLE, Int.reduceLT, Int.reduceToNat, Int.reduceAdd, Int.reduceSub, Int.reduceMul, Int.reduceEq, FE, p0, p1, p2, p7, p9, p10, p11, p12, gd, gd2, cu, cw, cl, zs, hAD, beq_self_eq_true]
    refine call_of (c10 _) ?_
    simp only [↓R1, R2, R3, R4, TY, reduceIte, Nat.reduceEqDiff, Nat.reduceAdd, Nat.reduceMul, Nat.reduceLT, Nat.reduceLeDiff, reduceCtorEq, decide_true, decide_false, Int.reduceLE, Int.reduceLT, Int.reduceToNat, Int.reduceAdd, Int.reduceSub, Int.reduceMul, Int.reduceEq, FE, p0, p1, p2, p7, p9, p10, p11, p12, gd, gd2, cu, cw, cl, zs, hAD, beq_self_eq_true]
    refine call_of (c11 _) ?_
    simp only [↓R1, R2, R3, R4, TY, reduceIte, Nat.reduceEqDiff, Nat.reduceAdd, Nat.reduceMul, Nat.reduceLT, Nat.reduceLeDiff, reduceCtorEq, decide_true, decide_false, Int.reduceLE, Int.reduceLT, Int.reduceToNat, Int.reduceAdd, Int.reduceSub, Int.reduceMul, Int.reduceEq, FE, p0, p1, p2, p7, p9, p10, p11, p12, gd, gd2, cu, cw, cl, zs, hAD, beq_self_eq_true]
    refine call_of (c12 _) ?_
    simp only [↓R1, R2, R3, R4, TY, reduceIte, Nat.reduceEqDiff, Nat.reduceAdd, Nat.reduceMul, Nat.reduceLT, Nat.reduceLeDiff, reduceCtorEq, decide_true, decide_false, Int.reduceLE, Int.reduceLT, Int.reduceToNat, Int.reduceAdd, Int.reduceSub, Int.reduceMul, Int.reduceEq, FE, p0, p1, p2, p7, p9, p10, p11, p12, gd, gd2, cu, cw, cl, zs, hAD, beq_self_eq_true]
    refine call_of (e5 _) ?_
    simp only [↓R1, R2, R3, R4, TY, reduceIte, Nat.reduceEqDiff, Nat.reduceAdd, Nat.reduceMul, Nat.reduceLT, Nat.reduceLeDiff, reduceCtorEq, decide_true, decide_false, Int.reduceLE, Int.reduceLT, Int.reduceToNat, Int.reduceAdd, Int.reduceSub, Int.reduceMul, Int.reduceEq, FE, p0, p1, p2, p7, p9, p10, p11, p12, gd, gd2, cu, cw, cl, zs, hAD, beq_self_eq_true]
    exact Ended.back hA (hxx.trans y12) rfl (RB.bool _)
  have k20 := q20
  obtain ⟨p, rfl, -⟩ := ha.at (G := G) (i := j) (by simpa using hlt)
  have haB := ha.xt hA hx
  have hab : p.block < B.next := Nat.lt_of_lt_of_le (ha.lt hA) hx.next
  have hflB : fl ≤ B.next := Nat.le_trans hA.floor hx.next
  obtain ⟨u0, u1, u2⟩ := fa3_get (G := G) haB hlt
  have hj63 : j < 9223372036854775807 := by omega
  simp only [↓R1, R2, R3, R4, TY, reduceIte, Nat.reduceEqDiff, Nat.reduceAdd, Nat.reduceMul, Nat.reduceLT, Nat.reduceLeDiff, reduceCtorEq, decide_true, decide_false, Int.reduceLE, Int.reduceLT, Int.reduceToNat, Int.reduceAdd, Int.reduceSub, Int.reduceMul, Int.reduceEq, FE, q0, q1, q2, q7, q9, q10, q18, q19, q20, hlt, hab, hj63, u0, u1, u2, hflB]
  generalize hE0 : (B.push (.row [Value.int .i64 0, .int .i64 0, .int .i64 0] 0 3)).put B.next (.row [Value.int .i64 a[j].1, .int .i64 a[j].2.1, .int .i64 a[j].2.2] 0 3) = E0
  have e0n : E0.next = B.next + 1 := by rw [← hE0]; rfl
  have e0b : E0.blk B.next = some (.row [Value.int .i64 a[j].1, .int .i64 a[j].2.1, .int .i64 a[j].2.2] 0 3) := by rw [← hE0]; simp [Hp.put_blk]
  have hx0 : Xt B.next B E0 := by rw [← hE0]; simp only [xt_push, xt_put, xt_refl, Nat.le_refl]
  have g0 : ∀ i, E0.get G ⟨B.next, i, some 0⟩ = ([Value.int .i64 a[j].1, .int .i64 a[j].2.1, .int .i64 a[j].2.2] : List Value)[i]? := fun i => by simp only [Hp.get, e0b, if_true]
  clear hE0
  have hbE := hb.xt hA (hx.trans hx0)
  have hh := fun fl => fa3_contains (G := G) (fl := fl) hbE (by omega) a[j]
  simp only [fV] at hh
  have ht : a.take (j + 1) = a.take j ++ [a[j]] := List.take_succ_eq_append_getElem hlt
  have htl : (a.take j).length ≤ j := by rw [List.length_take]; omega
  have hle1 := List.length_filter_le (fun x => decide (x ∈ b)) (a.take j)
  have hle2 := List.length_filter_le (fun x => !decide (x ∈ b)) (a.take j)
  refine call_of (hh _) ?_
  simp only [↓R1x, R2, R3, R4, TY, reduceIte, Nat.reduceEqDiff, Nat.reduceAdd, Nat.reduceMul, Nat.reduceLT, Nat.reduceLeDiff, reduceCtorEq, decide_true, decide_false, Int.reduceLE, Int.reduceLT, Int.reduceToNat, Int.reduceAdd, Int.reduceSub, Int.reduceMul, Int.reduceEq, FE, q0, q1, q2, q7, q9, q10, q18, q19, q20, hj63, g0, zp3]
  simp only [k_then]
  simp only [↓R1x, R2, R3, R4, TY, reduceIte, Nat.reduceEqDiff, Nat.reduceAdd, Nat.reduceMul, Nat.reduceLT, Nat.reduceLeDiff, reduceCtorEq, decide_true, decide_false, Int.reduceLE, Int.reduceLT, Int.reduceToNat, Int.reduceAdd, Int.reduceSub, Int.reduceMul, Int.reduceEq, FE, q0, q1, q2, q7, q9, q10, q18, q19, q20, hj63, g0, zp3]
  have hfl1 : fl ≤ A.next + 1 := by have := hA.floor; omega
  apply merge (fun τ D => ∃ sb sl, Xt A.next A D ∧ B.next < D.next ∧ D.blk A.next = some (.row [Value.int .i64 f.1, .int .i64 f.2.1, .int .i64 f.2.2] 0 3) ∧ D.blk B.next = some (.row [Value.int .i64 a[j].1, .int .i64 a[j].2.1, .int .i64 a[j].2.2] 0 3) ∧
      Acn D (A.next + 1) 3 sb (((a.take (j + 1)).filter fun x => decide (x ∈ b)).map fC) ∧ Acn D (A.next + 1) 3 sl (((a.take (j + 1)).filter fun x => !decide (x ∈ b)).map fC) ∧
      (∀ id g n c g' n' c', sb = .slice (some ⟨id, 0, some g⟩) n c → sl = .slice (some ⟨id, 0, some g'⟩) n' c' → False) ∧
      τ 0 = some (.slice (some p) a.length cp) ∧ τ 1 = some u ∧ τ 2 = some w ∧ τ 7 = some (.pointer (some ⟨A.next, 0, some 0⟩)) ∧ τ 9 = some sb ∧ τ 10 = some sl ∧ τ 11 = some (.bool (decide (inAll a b (j + 1)))) ∧ τ 12 = some (.bool (decide (isSet a j))) ∧
      τ 13 = some (.int .i64 (j : Nat)) ∧ τ 14 = some (.pointer (some ⟨B.next, 0, some 0⟩)) ∧ τ 18 = some (.slice (some p) a.length cp) ∧ τ 19 = some (.int .i64 a.length) ∧ τ 20 = some (.int .i64 (j : Nat)))
  · intro tail
    refine ⟨fun hv => ?_, fun hv => ?_⟩
    · refine app1 (lo := A.next + 1) (sz := 3) (cl := fC a[j]) ty24 rfl ty23 rfl (by omega) rfl (hacb.xt hx0) hfl1 (by have := hx.next; omega) rfl (fc_ones _) (by simp; omega) (by simp; omega) ?_
      intro sb' D hac' hxD hnD hfD hidD
      simp only [↓R1x, R2, R3, R4, TY, reduceIte, Nat.reduceEqDiff, Nat.reduceAdd, Nat.reduceMul, Nat.reduceLT, Nat.reduceLeDiff, reduceCtorEq, decide_true, decide_false, Int.reduceLE, Int.reduceLT, Int.reduceToNat, Int.reduceAdd, Int.reduceSub, Int.reduceMul, Int.reduceEq, FE, q0, q1, q2, q7, q9, q10, q18, q19, q20]
      refine tail _ _ ⟨sb', sl, ⟨fun id hid => by rw [hxD.blk id (by omega), hx0.blk id (by omega), hx.blk id hid], by have := hxD.next; omega⟩, by omega, ?_, ?_, ?_, ?_, ?_, q0, q1, q2, q7, rfl, q10, ?_, q12, rfl, rfl, q18, q19, q20⟩
      · rw [hxD.blk _ (by omega), hx0.blk _ (by omega)]; exact hb0
      · rw [hfD _ (by omega) (fun g n c e => absurd (hacb.lt e) (by simp))]; exact e0b
      · rw [ht, List.filter_append, List.filter_cons_of_pos (by simpa using hv), List.filter_nil, List.map_append]; exact hac'
      · rw [ht, List.filter_append, List.filter_cons_of_neg (by simpa using hv), List.filter_nil, List.append_nil]
        refine (hacl.xt hx0).keep hnD fun id g n c e hid => hfD id hid fun g' n' c' e' => hne id g' n' c' g n c e' e
      · intro id g n c g' n' c' e e'
        rcases hidD id g n c e with h | ⟨g0, n0, c0, h⟩
        · have := hacl.lt e'; simp at this; omega
        · exact hne id g0 n0 c0 g' n' c' h e'
      · refine q11.trans (congrArg some (congrArg Value.bool (decide_eq_decide.2 ⟨fun h x hx => ?_, fun h x hx => h x ?_⟩)))
        · rw [ht, List.mem_append] at hx
          rcases hx with hx | hx
          · exact h x hx
          · rw [List.mem_singleton] at hx; subst hx; exact hv
        · rw [ht]; exact List.mem_append.2 (.inl hx)
    · refine app1 (lo := A.next + 1) (sz := 3) (cl := fC a[j]) ty24 rfl ty23 rfl (by omega) rfl (hacl.xt hx0) hfl1 (by have := hx.next; omega) rfl (fc_ones _) (by simp; omega) (by simp; omega) ?_
      intro sl' D hac' hxD hnD hfD hidD
      simp only [↓R1x, R2, R3, R4, TY, reduceIte, Nat.reduceEqDiff, Nat.reduceAdd, Nat.reduceMul, Nat.reduceLT, Nat.reduceLeDiff, reduceCtorEq, decide_true, decide_false, Int.reduceLE, Int.reduceLT, Int.reduceToNat, Int.reduceAdd, Int.reduceSub, Int.reduceMul, Int.reduceEq, FE, q0, q1, q2, q7, q9, q10, q18, q19, q20]
      refine tail _ _ ⟨sb, sl', ⟨fun id hid => by rw [hxD.blk id (by omega), hx0.blk id (by omega), hx.blk id hid], by have := hxD.next; omega⟩, by omega, ?_, ?_, ?_, ?_, ?_, q0, q1, q2, q7, q9, rfl, ?_, q12, rfl, rfl, q18, q19, q20⟩
      · rw [hxD.blk _ (by omega), hx0.blk _ (by omega)]; exact hb0
      · rw [hfD _ (by omega) (fun g n c e => absurd (hacl.lt e) (by simp))]; exact e0b
      · rw [ht, List.filter_append, List.filter_cons_of_neg (by simpa using hv), List.filter_nil, List.append_nil]
        refine (hacb.xt hx0).keep hnD fun id g n c e hid => hfD id hid fun g' n' c' e' => hne id g n c g' n' c' e e'
      · rw [ht, List.filter_append, List.filter_cons_of_pos (by simpa using hv), List.filter_nil, List.map_append]; exact hac'
      · intro id g n c g' n' c' e e'
        rcases hidD id g' n' c' e' with h | ⟨g0, n0, c0, h⟩
        · have := hacb.lt e; simp at this; omega
        · exact hne id g n c g0 n0 c0 e h
      · refine congrArg some (congrArg Value.bool (dec_f fun h => hv (h a[j] ?_)))
        rw [ht]; exact List.mem_append.2 (.inr (List.mem_singleton.2 rfl))
  clear hh hbE
  rintro τ D ⟨sb, sl, hxD, hnD, d0, d1, hacb, hacl, hne, q0, q1, q2, q7, q9, q10, q11, q12, q13, q14, q18, q19, q20⟩
  have gd : ∀ i, D.get G ⟨B.next, i, some 0⟩ = ([Value.int .i64 a[j].1, .int .i64 a[j].2.1, .int .i64 a[j].2.2] : List Value)[i]? := fun i => by simp only [Hp.get, d1, if_true]
  have fin : ∀ (r : Bool) (τ' : Tm), r = decide (isSet a (j + 1)) → True := fun _ _ _ => trivial
  have hstep : isSet a (j + 1) ↔ isSet a j ∧ fOk a[j] ∧ (j = 0 ∨ flt (a.getD (j - 1) (0, 0, 0)) a[j]) := by
    constructor
    · exact fun h => ⟨fun i hi hij => h i hi (by omega), h j hlt (by omega)⟩
    · rintro ⟨h1, h2⟩ i hi hij
      rcases Nat.lt_or_ge i j with h | h
      · exact h1 i hi h
      · obtain rfl : i = j := by omega
        exact h2
  have fi := fun fl A => factIs_ok (G := G) (fl := fl) (A := A) a[j]
  simp only [fV] at fi
  have hj0 : (((j : Nat) : Int) = 0) = (j = 0) := by simp
  simp only [↓R1, R2, R3, R4, TY, reduceIte, Nat.reduceEqDiff, Nat.reduceAdd, Nat.reduceMul, Nat.reduceLT, Nat.reduceLeDiff, reduceCtorEq, decide_true, decide_false, Int.reduceLE, Int.reduceLT, Int.reduceToNat, Int.reduceAdd, Int.reduceSub, Int.reduceMul, Int.reduceEq, FE, q0, q1, q2, q7, q9, q10, q12, q13, q14, q18, q19, q20, gd, hnD, hj0, hj63]
  refine ⟨fun h1 => ?_, fun h1 => ?_⟩
  rotate_left
  · refine range_on k20 hlt rfl ⟨sb, sl, hxD, by omega, d0, hacb, hacl, hne, q0, q1, q2, q7, q9, q10, q11, congrArg some (congrArg Value.bool (dec_f fun h => h1 (hstep.1 h).1)), q18, q19, rfl⟩
  refine call_of (fi _ _) ?_
  simp only [↓R1, R2, R3, R4, TY, reduceIte, Nat.reduceEqDiff, Nat.reduceAdd, Nat.reduceMul, Nat.reduceLT, Nat.reduceLeDiff, reduceCtorEq, decide_true, decide_false, Int.reduceLE, Int.reduceLT, Int.reduceToNat, Int.reduceAdd, Int.reduceSub, Int.reduceMul, Int.reduceEq, FE, q0, q1, q2, q7, q9, q10, q13, q14, q18, q19, q20, gd, hnD, hj0, hj63]
  refine ⟨fun h2 => ?_, fun h2 => ?_⟩
  rotate_left
  · refine range_on k20 hlt rfl ⟨sb, sl, hxD, by omega, d0, hacb, hacl, hne, q0, q1, q2, q7, q9, q10, q11, congrArg some (congrArg Value.bool (dec_f fun h => h2 (hstep.1 h).2.1)), q18, q19, rfl⟩
  refine ⟨fun h3 => ?_, fun h3 => ?_⟩
  · refine range_on k20 hlt rfl ⟨sb, sl, hxD, by omega, d0, hacb, hacl, hne, q0, q1, q2, q7, q9, q10, q11, congrArg some (congrArg Value.bool (dec_t (hstep.2 ⟨h1, h2, .inl h3⟩))), q18, q19, rfl⟩
  have hj1 : j - 1 < a.length := by omega
  obtain ⟨v0, v1, v2⟩ := fa3_get (G := G) (ha.xt hA hxD) hj1
  have w1 : IntKind.i64.wrap ((j : Int) - 1) = ((j - 1 : Nat) : Int) := by rw [wrapI (by omega)]; omega
  have s0 : (0 ≤ ((j - 1 : Nat) : Int)) = True := eq_true (by omega)
  have s1 : (((j - 1 : Nat) : Int) < (a.length : Int)) = True := eq_true (by omega)
  have s2 : (((j - 1 : Nat) : Int)).toNat = j - 1 := by omega
  have habD : p.block < D.next := by omega
  have hg : a.getD (j - 1) (0, 0, 0) = a[j - 1] := by simp [List.getD, hj1]
  have fs := fun fl A => factLess_ok (G := G) (fl := fl) (A := A) a[j - 1] a[j]
  simp only [fV] at fs
  simp only [↓R1, R2, R3, R4, TY, reduceIte, Nat.reduceEqDiff, Nat.reduceAdd, Nat.reduceMul, Nat.reduceLT, Nat.reduceLeDiff, reduceCtorEq, decide_true, decide_false, Int.reduceLE, Int.reduceLT, Int.reduceToNat, Int.reduceAdd, Int.reduceSub, Int.reduceMul, Int.reduceEq, FE, q0, q1, q2, q7, q9, q10, q13, q14, q18, q19, q20, gd, hnD, hj0, hj63, w1, s0, s1, s2, habD, v0, v1, v2, hj1]
  refine call_of (fs _ _) ?_
  simp only [↓R1, R2, R3, R4, TY, reduceIte, Nat.reduceEqDiff, Nat.reduceAdd, Nat.reduceMul, Nat.reduceLT, Nat.reduceLeDiff, reduceCtorEq, decide_true, decide_false, Int.reduceLE, Int.reduceLT, Int.reduceToNat, Int.reduceAdd, Int.reduceSub, Int.reduceMul, Int.reduceEq, FE, q0, q1, q2, q7, q9, q10, q13, q14, q18, q19, q20, gd, hnD, hj0, hj63, w1, s0, s1, s2, habD, v0, v1, v2, hj1]
  refine range_on k20 hlt rfl ⟨sb, sl, hxD, by omega, d0, hacb, hacl, hne, q0, q1, q2, q7, q9, q10, q11, congrArg some (congrArg Value.bool (decide_eq_decide.2 ?_)), q18, q19, rfl⟩
  rw [hstep, hg]
  exact ⟨fun h => ⟨h1, h2, .inr h⟩, fun h => h.2.2.resolve_left h3⟩
end
end Go.Proofs.Ythchdnaabamplaa.Ab
