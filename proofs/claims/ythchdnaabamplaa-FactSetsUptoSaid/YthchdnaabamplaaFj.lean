/- Facts: slices.Grow and slices.Concat. -/
import Derived.Test.YthchdnaabamplaaFi
namespace Go.Proofs.Ythchdnaabamplaa.Ab
open Go.RowKit Go.Shelf Go.Lib Go.Sort
set_option linter.unusedVariables false
set_option linter.unusedSimpArgs false
set_option maxRecDepth 100000

theorem Ac.some_of2 {D : Hp} {lo sz : Nat} {v : Value} {css : List (List Value)} (h : Ac D lo sz v css) (hne : css ≠ []) : ∃ id g n c, v = .slice (some ⟨id, 0, some g⟩) n c := by
  rcases h.at_ with ⟨_, h2⟩ | ⟨id, g, n, c, h1, _⟩
  · exact absurd h2 hne
  · exact ⟨id, g, n, c, h1⟩
theorem nextcap_nil {n : Nat} (h : 0 < n) : Builtin.nextslicecap n 0 = n := by
  unfold Builtin.nextslicecap; simp [h]
set_option maxHeartbeats 1000000 in
theorem grow_calls (n : Nat) (h0 : 0 < n) (hn : n ≤ 4000000) (W : World) : Calls Try.prog 31 #[.slice none 0 0, .int .i64 (n : Nat)] W fun e w' => ∃ c cs, e = .returned (.slice (some ⟨W.heap.size, 0, none⟩) 0 c) ∧ c * 3 ≤ cs.size ∧ ∃ q, w' = (W.drewN q).alloc (.cells cs 23) := by
  have hwr : IntKind.i64.wrap ((n : Nat) : Int) = n := wrapI (by omega)
  have hby : Try.t23.bytes = 24 := rfl
  have hnc := nextcap_nil h0
  go_enter Try.func31, Try.ntmps31
  go_wp2_with fail
  go_ret
  refine ⟨_, _, rfl, ?_, 1, rfl⟩
  simp [Builtin.zeroCells]
  omega

set_option maxHeartbeats 1000000 in
theorem grow_calls0 (W : World) : Calls Try.prog 31 #[.slice none 0 0, .int .i64 0] W fun e w' => e = .returned (.slice none 0 0) ∧ w' = W := by
  go_enter Try.func31, Try.ntmps31
  go_wp2_with fail
  go_ret
  exact ⟨rfl, rfl⟩

section
variable {G : Gl} {fl : Nat} {A : Hp}

theorem grow_0 : Sound Try.prog G 31 [.slice none 0 0, .int .i64 0] fl A (.slice none 0 0) A := by
  refine Sound.of_scalar (fun u hu => ?_) rfl fun w => ?_
  · simp only [List.mem_cons, List.not_mem_nil, or_false] at hu
    rcases hu with rfl | rfl
    · exact ⟨rfl, fun μ A u' h => by cases h; rfl⟩
    · exact ⟨rfl, fun μ A u' h => by cases h; rfl⟩
  · exact .inl ⟨⟨_, Try.func31, by kernel_rfl, by kernel_rfl⟩, (grow_calls0 w).mono fun e w' h => ⟨_, h.1, rfl, by rw [h.2]; exact Go.RowKit.Below.refl _ _⟩⟩

theorem grow_ok {n : Nat} (h0 : 0 < n) (hn : n ≤ 4000000) : Sound Try.prog G 31 [.slice none 0 0, .int .i64 (n : Nat)] fl A (.slice (some ⟨A.next, 0, some 0⟩) 0 0) (A.push (.row [] 0 3)) := by
  intro μ w args' H hfl hargs
  obtain ⟨hsz, hall⟩ := hargs
  have hs : args'.size = 2 := by simpa using hsz.symm
  obtain ⟨s', f', rfl⟩ : ∃ s' f', args' = #[s', f'] := ⟨args'[0], args'[1], by
    apply Array.ext
    · simpa using hs
    · intro i h1 h2
      have : i = 0 ∨ i = 1 := by simp at h2; omega
      rcases this with rfl | rfl <;> rfl⟩
  have v0 := hall 0 (by simp) (by simp)
  have v1 := hall 1 (by simp) (by simp)
  simp at v0 v1
  cases v1
  cases v0
  refine .inl ⟨⟨_, Try.func31, by kernel_rfl, by kernel_rfl⟩, (grow_calls n h0 hn w).mono fun e w' h => ?_⟩
  obtain ⟨c, cs, he, hc, q, rfl⟩ := h
  have hn := HR.newBlock (w' := (w.drewN q).alloc (.cells cs 23)) H hfl [] cs 23 (0, 0) 3 (by simp) (fun j v hj => by simp at hj) (fun j _ => by simp) rfl rfl rfl rfl
  refine ⟨_, he, _, ?_, hn.1, hn.2⟩
  refine .sl (by simp) (Nat.zero_le _) (Nat.zero_le _) ⟨0, rfl, fun cs' g e hb => ?_⟩
  simp only [Hp.push_blk, if_true, Option.some.injEq, Blk.row.injEq] at hb
  obtain ⟨rfl, rfl, rfl⟩ := hb
  refine ⟨Nat.le_refl _, fun _ => ⟨_, 0, cs.size, by simp only [Mu.add, if_true], fun _ => ⟨rfl, by simp; omega⟩⟩⟩

end
/-- A list of cells as a new slice: none if it is empty. -/
def lsV (A : Hp) (l : List Fa) : Value := if l = [] then .slice none 0 0 else .slice (some ⟨A.next, 0, some 0⟩) l.length l.length
def lsH (A : Hp) (l : List Fa) : Hp := if l = [] then A else A.push (.row (l.map fC).flatten 0 3)
/-- How many cells the first lists have. -/
def tot (ls : List (List Fa)) (i : Nat) : Nat := ((ls.take i).flatten).length
theorem tot_0 (ls : List (List Fa)) : tot ls 0 = 0 := rfl
theorem tot_succ {ls : List (List Fa)} {i : Nat} (h : i < ls.length) : tot ls (i + 1) = tot ls i + ls[i].length := by
  unfold tot; rw [List.take_add_one, List.flatten_append, List.length_append, List.getElem?_eq_getElem h]; simp
theorem tot_all (ls : List (List Fa)) : tot ls ls.length = ls.flatten.length := by unfold tot; rw [List.take_length]
theorem tot_le (ls : List (List Fa)) (i : Nat) : tot ls i ≤ ls.flatten.length := by
  unfold tot
  conv => rhs; rw [← List.take_append_drop i ls, List.flatten_append, List.length_append]
  omega

section
variable {G : Gl} {fl : Nat} {A : Hp}

theorem apn_nil {P : Program} {sz : Nat} {t u e : TypeId} {T U E : Ty} {x : Value} {f : Value × Hp → Prop} (hT : tyOf P t = some T) (hd : T.d = .sl e) (hE : tyOf P e = some E) (hU : tyOf P u = some U) (hud : U.d = .sl e)
    (hsz : E.size = sz) (h0 : 0 < sz) (hz : E.zero.length = sz) (hx : Sl A sz x []) (k : f (.slice none 0 0, A)) : @apn P G fl A #[t, u] [.slice none 0 0, x] ⟨f⟩ := by
  have hnew : news G A E.size x 0 [] := by
    refine ⟨by simp, ?_⟩
    rcases hx.2 with ⟨rfl, _⟩ | ⟨a, g, rfl, _, h3, h4, h5⟩ | ⟨a, n, c, g, ds, rfl, hn, h3, h4, h5⟩
    · exact .inl ⟨0, rfl, rfl⟩
    · exact .inr (.inl ⟨a, 0, rfl, by rw [h3]; simp, fun j v hj => by simp at hj⟩)
    · have : n = 0 := by simpa using hn.symm
      subst this
      exact .inr (.inl ⟨a, c, rfl, by rw [h3]; simp, fun j v hj => by simp at hj⟩)
  refine ⟨_, x, rfl, t, u, e, T, E, 0, [], rfl, hT, hd, hE, by simp [hU, hud], by omega, by omega, rfl, hnew, .inl ⟨rfl, rfl, k⟩⟩

set_option maxHeartbeats 4000000 in
theorem concat_ok {v : Value} {vs : List Value} {ls : List (List Fa)} (ho : Sl A 1 v (vs.map fun u => [u])) (hlen : vs.length = ls.length) (hm : ls.length ≤ 4000000) (hv : ∀ i (h : i < vs.length) (h' : i < ls.length), Sl A 3 vs[i] (ls[i].map fC)) (ht : ls.flatten.length ≤ 4000000) :
    Sound Try.prog G 20 [v] fl A (lsV A ls.flatten) (lsH A ls.flatten) := by
  refine Sound.of mixed Try.func20 Try.ntmps20 Try.results20 (by kernel_rfl) rfl (by kernel_rfl) (by kernel_rfl) fun hA => ?_
  obtain ⟨o, c, rfl⟩ := ho.len
  rw [List.length_map, hlen] at ho ⊢
  have hfl : fl ≤ A.next := by have := hA.floor; omega
  simp only [↓R1, R2, R3, R4, TY, reduceIte, Nat.reduceEqDiff, Nat.reduceAdd, Nat.reduceMul, Nat.reduceLT, Nat.reduceLeDiff, reduceCtorEq, decide_true, decide_false, Int.reduceLE, Int.reduceLT, Int.reduceToNat, Int.reduceAdd, Int.reduceSub, Int.reduceMul, Int.reduceEq, hfl]
  refine range_of 11 ls.length (fun i τ C => C = A ∧ τ 0 = some (.slice o ls.length c) ∧ τ 3 = some (.int .i64 (tot ls i : Nat)) ∧ τ 9 = some (.slice o ls.length c) ∧ τ 10 = some (.int .i64 (ls.length : Nat)) ∧ τ 11 = some (.int .i64 (i : Nat))) ?_ ?_
  · exact ⟨rfl, rfl, rfl, rfl, rfl, rfl⟩
  rintro i τ C hi ⟨rfl, q0, q3, q9, q10, q11⟩
  simp only [↓R1, R2, R3, R4, TY, reduceIte, Nat.reduceEqDiff, Nat.reduceAdd, Nat.reduceMul, Nat.reduceLT, Nat.reduceLeDiff, reduceCtorEq, decide_true, decide_false, Int.reduceLE, Int.reduceLT, Int.reduceToNat, Int.reduceAdd, Int.reduceSub, Int.reduceMul, Int.reduceEq, q0, q3, q9, q10, q11]
  refine ⟨fun hlt => ?_, fun hlt => ?_⟩
  · have hlt' : i < ls.length := by omega
    obtain ⟨a, rfl, g0⟩ := ho.at (G := G) (i := i) (by simpa [hlen] using hlt')
    have hab := ho.lt hA
    have g1 := g0 0 vs[i] (by simp)
    rw [Nat.add_zero, Nat.mul_one] at g1
    have hvi := hv i (by omega) hlt'
    obtain ⟨o', c', hvs⟩ := hvi.len
    rw [List.length_map] at hvs
    rw [hvs] at g1
    have t1 := tot_succ hlt'
    have t2 := tot_le ls (i + 1)
    have w1 : IntKind.i64.wrap (((tot ls i : Nat) : Int) + ((ls[i].length : Nat) : Int)) = ((tot ls (i + 1) : Nat) : Int) := by rw [wrapI (by omega)]; omega
    have c1 : (((tot ls (i + 1) : Nat) : Int) < 0) = False := eq_false (by omega)
    have hi63 : i < 9223372036854775807 := by omega
    simp only [↓R1, R2, R3, R4, TY, reduceIte, Nat.reduceEqDiff, Nat.reduceAdd, Nat.reduceMul, Nat.reduceLT, Nat.reduceLeDiff, reduceCtorEq, decide_true, decide_false, Int.reduceLE, Int.reduceLT, Int.reduceToNat, Int.reduceAdd, Int.reduceSub, Int.reduceMul, Int.reduceEq, q0, q3, q9, q10, q11, hlt, g1, hab, w1, c1, hi63]
    exact range_on q11 hlt' rfl ⟨rfl, q0, rfl, q9, q10, rfl⟩
  · have e : i = ls.length := by omega
    subst e
    rw [tot_all]
    by_cases h0 : ls.flatten = []
    · rw [h0]
      have hall : ∀ i (h : i < ls.length), ls[i] = [] := fun i h => List.flatten_eq_nil_iff.1 h0 _ (List.getElem_mem h)
      have gr := fun fl A => grow_0 (G := G) (fl := fl) (A := A)
      refine call_of (gr _ _) ?_
      simp only [↓R1, R2, R3, R4, TY, reduceIte, Nat.reduceEqDiff, Nat.reduceAdd, Nat.reduceMul, Nat.reduceLT, Nat.reduceLeDiff, reduceCtorEq, decide_true, decide_false, Int.reduceLE, Int.reduceLT, Int.reduceToNat, Int.reduceAdd, Int.reduceSub, Int.reduceMul, Int.reduceEq, q0]
      refine range_of 27 ls.length (fun i τ D => D = C ∧ τ 6 = some (.slice none 0 0) ∧ τ 25 = some (.slice o ls.length c) ∧ τ 26 = some (.int .i64 (ls.length : Nat)) ∧ τ 27 = some (.int .i64 (i : Nat))) ?_ ?_
      · exact ⟨rfl, rfl, rfl, rfl, rfl⟩
      rintro i τ D hi ⟨rfl, r6, r25, r26, r27⟩
      simp only [↓R1, R2, R3, R4, TY, reduceIte, Nat.reduceEqDiff, Nat.reduceAdd, Nat.reduceMul, Nat.reduceLT, Nat.reduceLeDiff, reduceCtorEq, decide_true, decide_false, Int.reduceLE, Int.reduceLT, Int.reduceToNat, Int.reduceAdd, Int.reduceSub, Int.reduceMul, Int.reduceEq, r6, r25, r26, r27]
      refine ⟨fun hlt => ?_, fun hlt => ?_⟩
      · have hlt' : i < ls.length := by omega
        obtain ⟨a, rfl, g0⟩ := ho.at (G := G) (i := i) (by simpa [hlen] using hlt')
        have hab := ho.lt hA
        have g1 := g0 0 vs[i] (by simp)
        rw [Nat.add_zero, Nat.mul_one] at g1
        have hvi := hv i (by omega) hlt'
        rw [hall i hlt'] at hvi
        have hi63 : i < 9223372036854775807 := by omega
        simp only [↓R1, R2, R3, R4, TY, reduceIte, Nat.reduceEqDiff, Nat.reduceAdd, Nat.reduceMul, Nat.reduceLT, Nat.reduceLeDiff, reduceCtorEq, decide_true, decide_false, Int.reduceLE, Int.reduceLT, Int.reduceToNat, Int.reduceAdd, Int.reduceSub, Int.reduceMul, Int.reduceEq, r6, r25, r26, r27, hlt, g1, hab]
        refine apn_nil (sz := 3) ty24 rfl ty23 ty24 rfl rfl (by omega) rfl hvi ?_
        simp only [↓R1, R2, R3, R4, TY, reduceIte, Nat.reduceEqDiff, Nat.reduceAdd, Nat.reduceMul, Nat.reduceLT, Nat.reduceLeDiff, reduceCtorEq, decide_true, decide_false, Int.reduceLE, Int.reduceLT, Int.reduceToNat, Int.reduceAdd, Int.reduceSub, Int.reduceMul, Int.reduceEq, r6, r25, r26, r27, hi63]
        exact range_on r27 hlt' rfl ⟨rfl, rfl, r25, r26, rfl⟩
      · unfold lsV lsH
        rw [if_pos rfl, if_pos rfl]
        exact Ended.back hA (Xt.refl _) rfl (RB.sl0 _ _)
    · have hpos : 0 < ls.flatten.length := List.length_pos_iff.2 h0
      have gr := fun fl A => grow_ok (G := G) (fl := fl) (A := A) hpos ht
      refine call_of (gr _ _) ?_
      simp only [↓R1, R2, R3, R4, TY, reduceIte, Nat.reduceEqDiff, Nat.reduceAdd, Nat.reduceMul, Nat.reduceLT, Nat.reduceLeDiff, reduceCtorEq, decide_true, decide_false, Int.reduceLE, Int.reduceLT, Int.reduceToNat, Int.reduceAdd, Int.reduceSub, Int.reduceMul, Int.reduceEq, q0]
      refine range_of 27 ls.length (fun i τ D => ∃ so, Xt C.next C D ∧ Ac D C.next 3 so (((ls.take i).flatten).map fC) ∧ τ 6 = some so ∧ τ 25 = some (.slice o ls.length c) ∧ τ 26 = some (.int .i64 (ls.length : Nat)) ∧ τ 27 = some (.int .i64 (i : Nat))) ?_ ?_
      · refine ⟨_, (Xt.refl C).push _, ⟨fun c hc => by simp at hc, fun c hc => by simp at hc, .inr ⟨C.next, 0, 0, 0, rfl, Nat.le_refl _, Nat.le_refl _, by simp, by simp [Hp.push_blk], rfl⟩⟩, rfl, rfl, rfl, rfl⟩
      rintro i τ D hi ⟨so, hx, hac, r6, r25, r26, r27⟩
      simp only [↓R1, R2, R3, R4, TY, reduceIte, Nat.reduceEqDiff, Nat.reduceAdd, Nat.reduceMul, Nat.reduceLT, Nat.reduceLeDiff, reduceCtorEq, decide_true, decide_false, Int.reduceLE, Int.reduceLT, Int.reduceToNat, Int.reduceAdd, Int.reduceSub, Int.reduceMul, Int.reduceEq, r6, r25, r26, r27]
      refine ⟨fun hlt => ?_, fun hlt => ?_⟩
      · have hlt' : i < ls.length := by omega
        have hoD := ho.xt hA hx
        obtain ⟨a, rfl, g0⟩ := hoD.at (G := G) (i := i) (by simpa [hlen] using hlt')
        have hab : a.block < D.next := Nat.lt_of_lt_of_le (ho.lt hA) hx.next
        have g1 := g0 0 vs[i] (by simp)
        rw [Nat.add_zero, Nat.mul_one] at g1
        have hvi := (hv i (by omega) hlt').xt hA hx
        have hi63 : i < 9223372036854775807 := by omega
        have t1 := tot_succ hlt'
        have t2 := tot_le ls (i + 1)
        have e1 : (((ls.take (i + 1)).flatten).map fC) = ((ls.take i).flatten).map fC ++ ls[i].map fC := by
          rw [List.take_add_one, List.flatten_append, List.map_append, List.getElem?_eq_getElem hlt']; simp
        have l1 : (((ls.take i).flatten).map fC).length = tot ls i := by rw [List.length_map]; rfl
        simp only [↓R1, R2, R3, R4, TY, reduceIte, Nat.reduceEqDiff, Nat.reduceAdd, Nat.reduceMul, Nat.reduceLT, Nat.reduceLeDiff, reduceCtorEq, decide_true, decide_false, Int.reduceLE, Int.reduceLT, Int.reduceToNat, Int.reduceAdd, Int.reduceSub, Int.reduceMul, Int.reduceEq, r6, r25, r26, r27, hlt, g1, hab]
        refine apn_of (lo := C.next) (sz := 3) ty24 rfl ty23 ty24 rfl rfl (by omega) rfl hac hA.floor hx.next hvi (fc_one ls[i]) ?_ (by rw [l1, List.length_map]; omega) ?_
        · rw [l1, List.length_map]; simp; omega
        intro su' D' hau hxt hn' hf hsome hid
        simp only [↓R1, R2, R3, R4, TY, reduceIte, Nat.reduceEqDiff, Nat.reduceAdd, Nat.reduceMul, Nat.reduceLT, Nat.reduceLeDiff, reduceCtorEq, decide_true, decide_false, Int.reduceLE, Int.reduceLT, Int.reduceToNat, Int.reduceAdd, Int.reduceSub, Int.reduceMul, Int.reduceEq, r6, r25, r26, r27, hi63]
        refine range_on r27 hlt' rfl ⟨su', ⟨fun id hid => (hxt.blk id hid).trans (hx.blk id hid), hxt.next⟩, by rw [e1]; exact hau, rfl, r25, r26, rfl⟩
      · have e : i = ls.length := by omega
        subst e
        rw [List.take_length] at hac
        have hne : (ls.flatten).map fC ≠ [] := fun h => h0 (List.map_eq_nil_iff.1 h)
        have hend := Ended.acc hA hx hac (fC_rb _ _)
        obtain ⟨id, g, n, c, rfl⟩ := hac.some_of2 hne
        simp only [outV, outH, List.length_map] at hend
        unfold lsV lsH
        rw [if_neg h0, if_neg h0]
        exact hend
end
end Go.Proofs.Ythchdnaabamplaa.Ab
