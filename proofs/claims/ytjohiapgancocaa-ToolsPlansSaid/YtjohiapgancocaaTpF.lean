/- Tools: Right and StartsFit. -/
import Derived.Test.YtjohiapgancocaaTpE
namespace Go.Proofs.Ytjohiapgancocaa.Ab
open Go.RowKit
set_option linter.unusedVariables false
set_option linter.unusedSimpArgs false
set_option maxRecDepth 100000

def tk0 : Tk := ⟨0, 0, .bool false, []⟩
/-- The task k begins at a good tick. -/
def fits (l : List Tk) (s : List Int) (k : Nat) : Prop := 0 ≤ s.getD k 0 ∧ s.getD k 0 + (l.getD k tk0).long ≤ 2000 ∧ ∀ x ∈ (l.getD k tk0).after, s.getD x.toNat 0 + (l.getD x.toNat tk0).long ≤ s.getD k 0
instance (l : List Tk) (s : List Int) (k : Nat) : Decidable (fits l s k) := by unfold fits; infer_instance
def useAt (t : Tk) (a : Int) : List Us := if 0 ≤ t.tool then [⟨t.tool, a, t.long⟩] else []
def usesOf : List Tk → List Int → List Us
  | t :: l, a :: s => useAt t a ++ usesOf l s
  | _, _ => []
def right (l : List Tk) (s : List Int) : Prop := taskE l = 0 ∧ s.length = l.length ∧ (∀ k, k < l.length → fits l s k) ∧ chk (usesOf l s) = 0
instance (l : List Tk) (s : List Int) : Decidable (right l s) := by unfold right; infer_instance
theorem usesOf_take : ∀ (l : List Tk) (s : List Int) (j : Nat) (h : j < l.length) (h' : j < s.length), usesOf (l.take (j + 1)) (s.take (j + 1)) = usesOf (l.take j) (s.take j) ++ useAt l[j] s[j]
  | t :: l, a :: s, 0, _, _ => by simp [usesOf]
  | t :: l, a :: s, j + 1, h, h' => by
    have := usesOf_take l s j (by simpa using h) (by simpa using h')
    simp [usesOf, this]
theorem usesOf_len : ∀ (l : List Tk) (s : List Int), (usesOf l s).length ≤ l.length
  | [], _ => by simp [usesOf]
  | _ :: _, [] => by simp [usesOf]
  | t :: l, a :: s => by
    have := usesOf_len l s
    have h2 : (useAt t a).length ≤ 1 := by unfold useAt; split <;> simp
    simp [usesOf]; omega
theorem fits_iff {l : List Tk} {s : List Int} {k : Nat} (h : k < l.length) (h' : k < s.length) : fits l s k ↔ 0 ≤ s[k] ∧ s[k] + l[k].long ≤ 2000 ∧ ∀ x ∈ l[k].after, s.getD x.toNat 0 + (l.getD x.toNat tk0).long ≤ s[k] := by
  simp [fits, List.getD_eq_getElem?_getD, List.getElem?_eq_getElem h, List.getElem?_eq_getElem h']

section
variable {G : Gl} {fl : Nat} {A : Hp}

/-- A slice of uses grows by a use. -/
theorem Ac.use {D : Hp} {lo : Nat} {su : Value} {used : List Us} {u : Us} {f : Value × Hp → Prop} (hD : Ac D lo 3 su (used.map Us.cells)) (hfl : fl ≤ lo) (hlo : lo ≤ D.next) (hul : used.length ≤ 60)
    (k : ∀ su' D', Ac D' lo 3 su' ((used ++ [u]).map Us.cells) → Xt lo D D' → f (su', D')) :
    @apn Try.prog G fl (D.push (.row u.cells 0 3)) #[22, 22] [su, .slice (some ⟨D.next, 0, some 0⟩) 1 1] ⟨f⟩ := by
  refine apn_of (lo := lo) (sz := 3) ty22 rfl ty29 ty22 rfl rfl (by omega) rfl (hD.xt (Xt.push (Xt.refl D) (.row u.cells 0 3))) hfl (by simp; omega) (new := [u.cells]) ⟨by simp [Us.cells], .inr (.inr ⟨_, _, _, 0, _, rfl, rfl, rfl, by rw [Hp.push_blk, if_pos rfl], fun j x hj => by simpa using hj⟩)⟩ (us_one [u]) (by simp; omega) (by simp; omega) ?_
  intro su' D' hau hxt hn' hf hsome hid
  refine k su' D' (by simpa using hau) ⟨fun id hid => (hxt.blk id hid).trans ?_, hxt.next⟩
  rw [Hp.push_blk, if_neg (by omega)]

theorem right_ok {v w : Value} {l : List Tk} {s : List Int} (hs : Tks A v l) (hw : Sl A 1 w (s.map ic)) : Sound Try.prog G 25 [v, w] fl A (.bool (decide (right l s))) A := by
  refine Sound.of mixed Try.func25 Try.ntmps25 Try.results25 (by kernel_rfl) rfl (by kernel_rfl) (by simp) fun hA => ?_
  have hbad : ∀ (B : Hp), Xt A.next A B → ¬ right l s → Ended A (.bool false) B (.bool (decide (right l s))) A := fun B hB h => by
    refine Ended.back hA hB (congrArg _ ?_) (RB.bool _)
    simp [h]
  simp only [↓R1, R2, R3, R4, TY, reduceIte, Nat.reduceEqDiff, Nat.reduceAdd, Nat.reduceMul, Nat.reduceLT, Nat.reduceLeDiff, reduceCtorEq, decide_true, decide_false]
  refine call_of (tasks_ok hs) ?_
  obtain ⟨hsl, heach, hlen⟩ := hs
  obtain ⟨o, c, rfl⟩ := hsl.len
  obtain ⟨o', c', rfl⟩ := hw.len
  rw [List.length_map] at hsl hw ⊢
  rw [List.length_map]
  simp only [↓R1, R2, R3, R4, TY, reduceIte, Nat.reduceEqDiff, Nat.reduceAdd, Nat.reduceMul, Nat.reduceLT, Nat.reduceLeDiff, reduceCtorEq, decide_true, decide_false]
  refine ⟨fun he => ?_, fun he => hbad _ (Xt.refl A) fun h => he h.1⟩
  refine ⟨fun hls => ?_, fun hls => hbad _ (Xt.refl A) fun h => hls (by rw [h.2.1])⟩
  have hls' : s.length = l.length := by omega
  obtain ⟨hl60, htk⟩ := taskE_all he
  refine range_of 22 l.length (fun j τ B => ∃ su, Xt A.next A B ∧ Ac B A.next 3 su ((usesOf (l.take j) (s.take j)).map Us.cells) ∧ (∀ k, k < j → fits l s k) ∧ τ 0 = some (.slice o l.length c) ∧ τ 1 = some (.slice o' s.length c') ∧ τ 5 = some su ∧ τ 20 = some (.slice o l.length c) ∧ τ 21 = some (.int .i64 l.length) ∧ τ 22 = some (.int .i64 j)) ?_ ?_
  · exact ⟨_, Xt.refl A, Ac.nil _ _ _, by simp, rfl, rfl, rfl, rfl, rfl, rfl⟩
  rintro j τ B hj ⟨su, hx, hu, hfit, q0, q1, q5, q20, q21, q22⟩
  simp only [↓R1, R2, R3, R4, TY, reduceIte, Nat.reduceEqDiff, Nat.reduceAdd, Nat.reduceMul, Nat.reduceLT, Nat.reduceLeDiff, reduceCtorEq, decide_true, decide_false, q0, q1, q5, q20, q21, q22]
  refine ⟨fun hlt => ?_, fun hlt => ?_⟩
  rotate_left
  · obtain rfl : j = l.length := by omega
    rw [List.take_length, ← hls', List.take_length] at hu
    refine call_of (check_ok hu.sl) ?_
    simp only [↓R1, R2, R3, R4, TY, reduceIte, Nat.reduceEqDiff, Nat.reduceAdd, Nat.reduceMul, Nat.reduceLT, Nat.reduceLeDiff, reduceCtorEq, decide_true, decide_false]
    refine Ended.back hA hx (congrArg _ ?_) (RB.bool _)
    refine dec_i ⟨fun h => ⟨he, hls', hfit, h⟩, fun h => h.2.2.2⟩
  have hlt' : j < s.length := by omega
  obtain ⟨a, rfl, -⟩ := hsl.at (G := G) (i := j) (by simpa using hlt)
  obtain ⟨a', rfl, -⟩ := hw.at (G := G) (i := j) (by simpa using hlt')
  have hsB := hsl.xt hA hx
  have hwB := hw.xt hA hx
  have hab : a.block < B.next := Nat.lt_of_lt_of_le (hsl.lt hA) hx.next
  have hab' : a'.block < B.next := Nat.lt_of_lt_of_le (hw.lt hA) hx.next
  have hfl : fl ≤ B.next := Nat.le_trans hA.floor hx.next
  obtain ⟨g0, g1, g2⟩ := tk_get (G := G) hsB hlt
  have gs := int_get (G := G) hwB hlt'
  have hafter := heach l[j] (List.getElem_mem _)
  obtain ⟨o2, c2, hav⟩ := hafter.len
  rw [List.length_map] at hav
  rw [hav] at g2 hafter
  obtain ⟨hnb, haf⟩ := htk j hlt
  simp only [Tk.bad] at hnb
  have hw2 : IntKind.i64.wrap (2000 - l[j].long) = 2000 - l[j].long := wrapI (by omega)
  simp only [↓R1, R2, R3, R4, TY, reduceIte, Nat.reduceEqDiff, Nat.reduceAdd, Nat.reduceMul, Nat.reduceLT, Nat.reduceLeDiff, reduceCtorEq, decide_true, decide_false, q0, q1, q5, q20, q21, q22, hlt, hlt', hab, hab', hfl, g0, g1, g2, gs, hw2]
  generalize hB2 : Hp.put _ _ _ = B2
  have hx2 : Xt B.next B B2 := by rw [← hB2]; simp (maxDischargeDepth := 20) only [xt_push, xt_put, xt_refl, Nat.le_refl]
  have hn2 : B2.next = B.next + 1 := by rw [← hB2]; rfl
  have m : B2.get G ⟨B.next, 0, some 0⟩ = some (.int .i64 l[j].tool) ∧ B2.get G ⟨B.next, 1, some 0⟩ = some (.int .i64 l[j].long) := by rw [← hB2]; simp [Hp.get, Hp.put_blk]
  have hj63 : j < 9223372036854775807 := by omega
  have hxx := hx.trans hx2
  have hu2 := hu.xt hx2
  refine ⟨fun h1 => hbad _ hxx fun hr => absurd ((fits_iff hlt hlt').1 (hr.2.2.1 j hlt)).1 (by omega), fun h1 => ⟨fun h2 => hbad _ hxx fun hr => absurd ((fits_iff hlt hlt').1 (hr.2.2.1 j hlt)).2.1 (by omega), fun h2 => ?_⟩⟩
  have hafB := hafter.xt hA hxx
  have hslB := hsl.xt hA hxx
  have hwwB := hw.xt hA hxx
  refine range_of 45 l[j].after.length (fun i τ C => C = B2 ∧ (∀ x ∈ l[j].after.take i, s.getD x.toNat 0 + (l.getD x.toNat tk0).long ≤ s[j]) ∧ τ 0 = some (.slice (some a) l.length c) ∧ τ 1 = some (.slice (some a') s.length c') ∧ τ 5 = some su ∧ τ 6 = some (.int .i64 j) ∧
    τ 7 = some (.pointer (some ⟨B.next, 0, some 0⟩)) ∧ τ 20 = some (.slice (some a) l.length c) ∧ τ 21 = some (.int .i64 l.length) ∧ τ 22 = some (.int .i64 j) ∧ τ 43 = some (.slice o2 l[j].after.length c2) ∧ τ 44 = some (.int .i64 l[j].after.length) ∧ τ 45 = some (.int .i64 i)) ?_ ?_
  · exact ⟨rfl, by simp, q0, q1, q5, rfl, rfl, q20, q21, q22, rfl, rfl, rfl⟩
  rintro i τ' C hi ⟨rfl, hno, r0, r1, r5, r6, r7, r20, r21, r22, r43, r44, r45⟩
  simp only [↓R1, R2, R3, R4, TY, reduceIte, Nat.reduceEqDiff, Nat.reduceAdd, Nat.reduceMul, Nat.reduceLT, Nat.reduceLeDiff, reduceCtorEq, decide_true, decide_false, r0, r1, r5, r6, r7, r20, r21, r22, r43, r44, r45]
  refine ⟨fun hil => ?_, fun hil => ?_⟩
  · obtain ⟨a2, rfl, -⟩ := hafB.at (G := G) (i := i) (by simpa using hil)
    have k0 := int_get (G := G) hafB hil
    obtain ⟨x0, x1⟩ := haf l[j].after[i] (List.getElem_mem _)
    have hxl : l[j].after[i].toNat < l.length := by omega
    have hxs : l[j].after[i].toNat < s.length := by omega
    have hi63 : i < 9223372036854775807 := by have := hlen l[j] (List.getElem_mem _); omega
    have xs : l[j].after[i] < (s.length : Int) := by omega
    have xl : l[j].after[i] < (l.length : Int) := by omega
    obtain ⟨p1, p2, -⟩ := (fits_iff hxl hxs).1 (hfit _ (by omega))
    have hw3 : IntKind.i64.wrap (s[l[j].after[i].toNat] + l[l[j].after[i].toNat].long) = s[l[j].after[i].toNat] + l[l[j].after[i].toNat].long := wrapI (by have := (htk _ hxl).1; simp only [Tk.bad] at this; omega)
    have k1 := int_get (G := G) hwwB hxs
    have k3 := int_get (G := G) hwwB hlt'
    obtain ⟨-, k2, -⟩ := tk_get (G := G) hslB hxl
    simp only [↓R1, R2, R3, R4, TY, reduceIte, Nat.reduceEqDiff, Nat.reduceAdd, Nat.reduceMul, Nat.reduceLT, Nat.reduceLeDiff, reduceCtorEq, decide_true, decide_false, r0, r1, r5, r6, r7, r20, r21, r22, r43, r44, r45, hil, k0, k1, k2, k3, x0, xs, xl, hw3, hi63, hlt, hlt']
    have e : s.getD l[j].after[i].toNat 0 + (l.getD l[j].after[i].toNat tk0).long = s[l[j].after[i].toNat] + l[l[j].after[i].toNat].long := by
      rw [List.getD_eq_getElem?_getD, List.getD_eq_getElem?_getD, List.getElem?_eq_getElem hxs, List.getElem?_eq_getElem hxl]; rfl
    refine ⟨fun h => hbad _ hxx fun hr => ?_, fun h => range_on r45 hil rfl ⟨rfl, ?_, r0, r1, r5, r6, r7, r20, r21, r22, r43, r44, rfl⟩⟩
    · have := ((fits_iff hlt hlt').1 (hr.2.2.1 j hlt)).2.2 _ (List.getElem_mem hil)
      omega
    · intro x hx
      rw [List.take_succ_eq_append_getElem hil] at hx
      rcases List.mem_append.1 hx with h' | h'
      · exact hno x h'
      · rw [List.mem_singleton.1 h', e]; omega
  obtain ⟨m0, m1⟩ := m
  have hil' : i = l[j].after.length := by omega
  subst hil'
  rw [List.take_length] at hno
  have hfit' : ∀ k, k < j + 1 → fits l s k := fun k hk => by
    by_cases hkj : k < j
    · exact hfit k hkj
    · obtain rfl : k = j := by omega
      exact (fits_iff hlt hlt').2 ⟨by omega, by omega, hno⟩
  have hz1 : zl [.int .i64 0] 1 = [.int .i64 0] := rfl
  have hz3 : zl [.int .i64 0, .int .i64 0, .int .i64 0] 3 = [.int .i64 0, .int .i64 0, .int .i64 0] := rfl
  have k3 := int_get (G := G) hwwB hlt'
  simp only [↓R1, R2, R3, R4, TY, reduceIte, Nat.reduceEqDiff, Nat.reduceAdd, Nat.reduceMul, Nat.reduceLT, Nat.reduceLeDiff, reduceCtorEq, decide_true, decide_false, r0, r1, r5, r6, r7, r20, r21, r22, m0, m1, k3, hz1, hz3, hj63, hlt']
  refine ⟨fun ht => ?_, fun ht => ?_⟩
  rotate_left
  · refine range_on q22 hlt rfl ⟨su, hxx, ?_, hfit', r0, r1, r5, r20, r21, rfl⟩
    rw [usesOf_take l s j hlt hlt', useAt, if_neg ht, List.append_nil]; exact hu2
  refine Ac.use (u := ⟨l[j].tool, s[j], l[j].long⟩) hu2 hA.floor hxx.next (by have := usesOf_len (l.take j) (s.take j); rw [List.length_take] at this; omega) fun su' D hu' hx' => ?_
  simp only [↓R1, R2, R3, R4, TY, reduceIte, Nat.reduceEqDiff, Nat.reduceAdd, Nat.reduceMul, Nat.reduceLT, Nat.reduceLeDiff, reduceCtorEq, decide_true, decide_false, r0, r1, r5, r6, r7, r20, r21, r22, m0, m1, hz1, hz3, hj63]
  refine range_on q22 hlt rfl ⟨su', ⟨fun id hid => (hx'.blk id hid).trans (hxx.blk id hid), hx'.next⟩, ?_, hfit', r0, r1, rfl, r20, r21, rfl⟩
  rw [usesOf_take l s j hlt hlt', useAt, if_pos ht]; exact hu'
end
end Go.Proofs.Ytjohiapgancocaa.Ab
