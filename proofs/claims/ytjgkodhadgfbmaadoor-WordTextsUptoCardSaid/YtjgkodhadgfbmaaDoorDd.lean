/- Words: strings.Split at one byte; numbers by their parts. -/
import Derived.Test.YtjgkodhadgfbmaaDoorDc
namespace Go.Proofs.YtjgkodhadgfbmaaDoor.Ab
open Go.RowKit
set_option linter.unusedVariables false
set_option linter.unusedSimpArgs false
set_option maxRecDepth 100000

/-- The parts between bytes. -/
def sp (c : UInt8) : List UInt8 → List (List UInt8)
  | [] => [[]]
  | b :: r => if b = c then [] :: sp c r else match sp c r with | [] => [[b]] | p :: ps => (b :: p) :: ps
theorem sp_ne (c : UInt8) (l : List UInt8) : sp c l ≠ [] := by
  cases l with
  | nil => simp [sp]
  | cons b r =>
    rw [sp]
    split
    · simp
    · split <;> simp
theorem sp_len (c : UInt8) (l : List UInt8) : (sp c l).length = l.count c + 1 := by
  induction l with
  | nil => rfl
  | cons b r ih =>
    rw [sp, List.count_cons]
    by_cases h : b = c
    · rw [if_pos h, if_pos (by simpa using h), List.length_cons, ih]
    · rw [if_neg h, if_neg (by simpa using h)]
      have := sp_ne c r
      cases hs : sp c r with
      | nil => exact absurd hs this
      | cons p ps => rw [hs] at ih; simpa using ih
theorem sp_none {c : UInt8} {l : List UInt8} (h : c ∉ l) : sp c l = [l] := by
  induction l with
  | nil => rfl
  | cons b r ih =>
    rw [sp, if_neg (fun e => h (by simp [e])), ih (fun e => h (by simp [e]))]
theorem sp_some {c : UInt8} {l : List UInt8} (h : c ∈ l) : sp c l = pre c l :: sp c (post c l) := by
  induction l with
  | nil => cases h
  | cons b r ih =>
    rw [sp]
    by_cases hb : b = c
    · rw [if_pos hb]; subst hb; simp [pre, post]
    · rw [if_neg hb]
      have hr : c ∈ r := by rcases List.mem_cons.1 h with e | e; exact absurd e.symm hb; exact e
      have h2 : pre c (b :: r) = b :: pre c r := by unfold pre; rw [List.takeWhile_cons, if_pos (by simpa using hb)]
      have h3 : post c (b :: r) = post c r := by unfold post; rw [h2]; simp
      rw [ih hr, h2, h3]
def sC (l : List UInt8) : List Value := [.string (S l)]
def sV (l : List UInt8) : Value := .string (S l)
theorem sC_flat (ps : List (List UInt8)) : (ps.map sC).flatten = ps.map sV := by
  induction ps with
  | nil => rfl
  | cons p ps ih => simp [sC, sV, ← ih]
/-- The first parts, empty strings behind. -/
def rwS (ps : List (List UInt8)) (n i : Nat) : List Value := (ps.take i ++ List.replicate (n + 1 - i) []).map sV
theorem rwS_len {ps : List (List UInt8)} {n i : Nat} (h : ps.length = n + 1) (hi : i ≤ n) : (rwS ps n i).length = n + 1 := by
  simp [rwS, h]; omega
theorem rwS_set {ps : List (List UInt8)} {n i : Nat} {x : List UInt8} (h : ps.length = n + 1) (hi : i ≤ n) (hx : ps[i]? = some x) : (rwS ps n i).set i (sV x) = rwS ps n (i + 1) := by
  have hi' : i < ps.length := by omega
  have hxe : ps[i] = x := by rw [List.getElem?_eq_getElem hi'] at hx; exact Option.some.inj hx
  have e1 : (ps.take i).length = i := by simp; omega
  have e2 : n + 1 - i = (n + 1 - (i + 1)) + 1 := by omega
  unfold rwS
  rw [← List.map_set, List.set_append, if_neg (by omega), e1, Nat.sub_self, e2, List.replicate_succ, List.set_cons_zero, List.take_succ_eq_append_getElem hi', hxe]
  simp
theorem rwS_zero {ps : List (List UInt8)} {n : Nat} : rwS ps n 0 = zl [Value.string (S [])] (n + 1) := by
  apply List.ext_getElem
  · simp [rwS, zl]
  intro j h1 h2
  simp [rwS, zl, sV, Nat.mod_one]
theorem rwS_end {ps : List (List UInt8)} {n : Nat} (h : ps.length = n + 1) : rwS ps n (n + 1) = ps.map sV := by
  unfold rwS
  rw [List.take_of_length_le (by omega)]; simp
section
variable {G : Gl} {fl : Nat} {A : Hp}
theorem genSplit_ok (l : List UInt8) (c : UInt8) (hl : l.length ≤ 1048576) : Sound Tryd.prog G 39 [.string (S l), .string (S [c]), .int .i64 0, .int .i64 (-1)] fl A (nlV A ((sp c l).map sC)) (nlH A 1 ((sp c l).map sC)) := by
  refine Sound.of mixed Tryd.func39 Tryd.ntmps39 Tryd.results39 (by kernel_rfl) rfl (by kernel_rfl) (by kernel_rfl) fun hA => ?_
  have e1 : (S [c] = S []) = False := eq_false (by rw [S_inj]; simp)
  have h5 : (S [c]).size = 1 := rfl
  simp only [↓R1, R2, R3, R4, TY, reduceIte, Nat.reduceEqDiff, Nat.reduceAdd, Nat.reduceMul, Nat.reduceLT, Nat.reduceLeDiff, reduceCtorEq, decide_true, decide_false, Int.reduceLE, Int.reduceLT, Int.reduceToNat, Int.reduceAdd, Int.reduceSub, Int.reduceMul, Int.reduceEq, FE, S_size, e1, h5]
  refine call_of (count1_ok _ _) ?_
  simp only [↓R1, R2, R3, R4, TY, reduceIte, Nat.reduceEqDiff, Nat.reduceAdd, Nat.reduceMul, Nat.reduceLT, Nat.reduceLeDiff, reduceCtorEq, decide_true, decide_false, Int.reduceLE, Int.reduceLT, Int.reduceToNat, Int.reduceAdd, Int.reduceSub, Int.reduceMul, Int.reduceEq, FE, S_size, e1, h5]
  have hc : l.count c ≤ l.length := List.count_le_length
  have w1 : IntKind.i64.wrap (((l.count c : Nat) : Int) + 1) = ((l.count c + 1 : Nat) : Int) := by rw [wrapI (by omega)]; omega
  have w2 : IntKind.i64.wrap (((l.length : Nat) : Int) + 1) = ((l.length + 1 : Nat) : Int) := by rw [wrapI (by omega)]; omega
  have w3 : (l.length + 1 < l.count c + 1) = False := eq_false (by omega)
  have w4 : IntKind.i64.wrap (((l.count c + 1 : Nat) : Int) - 1) = ((l.count c : Nat) : Int) := by rw [wrapI (by omega)]; omega
  have g1 : (0 : Int) ≤ ((l.count c + 1 : Nat) : Int) := by omega
  have g2 : (16 : Int) * ((l.count c + 1 : Nat) : Int) ≤ 281474976710656 := by omega
  have g3 : ((l.count c + 1 : Nat) : Int) ≤ 9223372036854775807 := by omega
  simp only [↓R1, R2, R3, R4, TY, reduceIte, Nat.reduceEqDiff, Nat.reduceAdd, Nat.reduceMul, Nat.reduceLT, Nat.reduceLeDiff, reduceCtorEq, decide_true, decide_false, Int.reduceLE, Int.reduceLT, Int.reduceToNat, Int.reduceAdd, Int.reduceSub, Int.reduceMul, Int.reduceEq, FE, S_size, e1, h5, w1, w2, w3, w4, g1, g2, g3]
  generalize hn : l.count c = n at *
  have hps : (sp c l).length = n + 1 := by rw [sp_len, hn]
  refine loop_of (fun τ B => ∃ (i : Nat) (r : List UInt8), Xt A.next A B ∧ A.next < B.next ∧ B.blk A.next = some (.row (rwS (sp c l) n i) 0 1) ∧ i ≤ n ∧ sp c l = (sp c l).take i ++ sp c r ∧ r.length ≤ l.length ∧ r.count c + i = n ∧
    τ 0 = some (.string (S r)) ∧ τ 1 = some (.string (S [c])) ∧ τ 2 = some (.int .i64 0) ∧ τ 3 = some (.int .i64 (n : Nat)) ∧ τ 9 = some (.slice (some ⟨A.next, 0, some 0⟩) (n + 1) (n + 1)) ∧ τ 10 = some (.int .i64 (i : Nat)))
    (fun τ B => match τ 10 with | some (.int _ x) => n - x.toNat | _ => 0) ?_ ?_
  · exact ⟨0, l, (Xt.refl A).push _, by simp, by rw [rwS_zero]; simp [Hp.push_blk], Nat.zero_le _, by simp, Nat.le_refl _, by omega, rfl, rfl, rfl, rfl, rfl, rfl⟩
  rintro τ B ⟨i, r, hx, hn1, hb, hi, hsp, hrl, hrc, q0, q1, q2, q3, q9, q10⟩
  have hrw := rwS_len hps hi
  have hfl : fl ≤ A.next := hA.floor
  have hi1 : i < n + 1 := by omega
  simp only [↓R1, R2, R3, R4, TY, reduceIte, Nat.reduceEqDiff, Nat.reduceAdd, Nat.reduceMul, Nat.reduceLT, Nat.reduceLeDiff, reduceCtorEq, decide_true, decide_false, Int.reduceLE, Int.reduceLT, Int.reduceToNat, Int.reduceAdd, Int.reduceSub, Int.reduceMul, Int.reduceEq, FE, S_size, h5, q0, q1, q2, q3, q9, q10, hi1, hb, hrw, hfl]
  refine ⟨fun hlt => ?_, fun hlt => ?_⟩
  · have hcr : c ∈ r := List.count_pos_iff.1 (by omega)
    have hix := sindex1_ok (G := G) (fl := fl) (A := B) r c
    rw [if_pos hcr] at hix
    have hpl := pre_lt hcr
    have k0 : (((pre c r).length : Int) < 0) = False := eq_false (by omega)
    have k1 : (0 : Int) ≤ ((pre c r).length : Int) := by omega
    have k2 : IntKind.i64.wrap ((pre c r).length : Int) = ((pre c r).length : Int) := wrapI (by omega)
    have k3 : IntKind.i64.wrap (((pre c r).length : Int) + 1) = (((pre c r).length + 1 : Nat) : Int) := by rw [wrapI (by omega)]; omega
    have k4 : (pre c r).length ≤ r.length := by omega
    have k5 : (pre c r).length + 1 ≤ r.length := by omega
    have k6 : r.take (pre c r).length = pre c r := pre_take c r
    have k7 : ((r.drop ((pre c r).length + 1)).take (r.length - ((pre c r).length + 1))) = post c r := by rw [post, List.take_of_length_le (by simp)]
    have k8 : i < 9223372036854775807 := by omega
    refine call_of (hix) ?_
    simp only [↓R1, R2, R3, R4, TY, reduceIte, Nat.reduceEqDiff, Nat.reduceAdd, Nat.reduceMul, Nat.reduceLT, Nat.reduceLeDiff, reduceCtorEq, decide_true, decide_false, Int.reduceLE, Int.reduceLT, Int.reduceToNat, Int.reduceAdd, Int.reduceSub, Int.reduceMul, Int.reduceEq, FE, S_size, h5, q0, q1, q2, q3, q9, q10, hi, hi1, hb, hrw, hfl, hlt, k0, k1, k2, k3, k4, k5, k6, k7, k8, S_extract, List.drop_zero, Nat.sub_zero, Int.add_zero]
    refine loop_on ⟨i + 1, post c r, ⟨fun id hid => ?_, ?_⟩, ?_, ?_, by omega, ?_, ?_, ?_, rfl, q1, q2, q3, q9, rfl⟩ ?_
    · rw [Hp.put_blk, if_neg (by omega)]; exact hx.blk id hid
    · exact hx.next
    · exact hn1
    · rw [Hp.put_blk, if_pos rfl]
      have hri : (sp c l)[i]? = some (pre c r) := by
        rw [hsp, sp_some hcr, List.getElem?_append_right (by simp; omega), List.length_take, hps, Nat.min_eq_left (by omega), Nat.sub_self]; rfl
      rw [show Value.string (S (pre c r)) = sV (pre c r) from rfl, rwS_set hps (by omega) hri]
    · have h1 : (sp c l).take (i + 1) = (sp c l).take i ++ [pre c r] := by
        rw [List.take_succ_eq_append_getElem (by omega)]
        have hri : (sp c l)[i]? = some (pre c r) := by
          rw [hsp, sp_some hcr, List.getElem?_append_right (by simp; omega), List.length_take, hps, Nat.min_eq_left (by omega), Nat.sub_self]; rfl
        rw [List.getElem?_eq_getElem (by omega)] at hri
        rw [Option.some.inj hri]
      rw [h1, List.append_assoc, List.singleton_append, ← sp_some hcr]; exact hsp
    · have : (post c r).length ≤ r.length := by unfold post; simp
      omega
    · have h1 : (sp c r).length = (sp c (post c r)).length + 1 := by rw [sp_some hcr]; rfl
      rw [sp_len, sp_len] at h1
      omega
    · simp only [q10]
      show n - (((i + 1 : Nat) : Int)).toNat < n - ((i : Nat) : Int).toNat
      omega
  · have hin : i = n := by omega
    subst hin
    have w5 : IntKind.i64.wrap ((i : Int) + 1) = ((i + 1 : Nat) : Int) := by rw [wrapI (by omega)]; omega
    have k1 : (0 : Int) ≤ ((i + 1 : Nat) : Int) := by omega
    have hez : ∀ cs, eszOK (B.put A.next (.row cs 0 1)) A.next 1 := fun cs => by unfold eszOK; intro cs' g' e' h; rw [Hp.put_blk, if_pos rfl] at h; cases h; rfl
    simp only [↓R1, R2, R3, R4, TY, reduceIte, Nat.reduceEqDiff, Nat.reduceAdd, Nat.reduceMul, Nat.reduceLT, Nat.reduceLeDiff, reduceCtorEq, decide_true, decide_false, Int.reduceLE, Int.reduceLT, Int.reduceToNat, Int.reduceAdd, Int.reduceSub, Int.reduceMul, Int.reduceEq, hez, FE, S_size, h5, q0, q1, q2, q3, q9, q10, hi1, hb, hrw, hfl, Nat.le_refl, w5, k1]
    have hr0 : c ∉ r := fun h => by have := List.count_pos_iff.2 h; omega
    have hri : (sp c l)[i]? = some r := by rw [hsp, sp_none hr0, List.getElem?_append_right (by simp; omega)]; simp [show i - min i (sp c l).length = 0 by omega]
    have hset := rwS_set hps (Nat.le_refl _) hri
    rw [rwS_end hps] at hset
    rw [show Value.string (S r) = sV r from rfl, hset]
    have hne : (sp c l).map sC ≠ [] := by simp [sp_ne]
    rw [nlV, nlH, if_neg hne, if_neg hne, sC_flat, List.length_map, hps]
    refine Ended.new1 hA ⟨fun id hid => ?_, ?_⟩ (Nat.le_refl _) (by simp [Hp.put_blk]) (fun u hu => ?_) (Nat.le_refl _)
    · rw [Hp.put_blk, if_neg (by omega)]; exact hx.blk id hid
    · exact hx.next
    · obtain ⟨x, _, rfl⟩ := List.mem_map.1 hu; exact RB.string _
theorem split_ok (l : List UInt8) (c : UInt8) (hl : l.length ≤ 1048576) : Sound Tryd.prog G 22 [.string (S l), .string (S [c])] fl A (nlV A ((sp c l).map sC)) (nlH A 1 ((sp c l).map sC)) := by
  refine Sound.of mixed Tryd.func22 Tryd.ntmps22 Tryd.results22 (by kernel_rfl) rfl (by kernel_rfl) (by kernel_rfl) fun hA => ?_
  simp only [↓R1, R2, R3, R4, TY, reduceIte, Nat.reduceEqDiff, Nat.reduceAdd, Nat.reduceMul, Nat.reduceLT, Nat.reduceLeDiff, reduceCtorEq, decide_true, decide_false, Int.reduceLE, Int.reduceLT, Int.reduceToNat, Int.reduceAdd, Int.reduceSub, Int.reduceMul, Int.reduceEq, FE]
  refine call_of (genSplit_ok _ _ hl) ?_
  simp only [↓R1, R2, R3, R4, TY, reduceIte, Nat.reduceEqDiff, Nat.reduceAdd, Nat.reduceMul, Nat.reduceLT, Nat.reduceLeDiff, reduceCtorEq, decide_true, decide_false, Int.reduceLE, Int.reduceLT, Int.reduceToNat, Int.reduceAdd, Int.reduceSub, Int.reduceMul, Int.reduceEq, FE]
  have hne : (sp c l).map sC ≠ [] := by simp [sp_ne]
  rw [nlV, nlH, if_neg hne, if_neg hne]
  exact Ended.new1 hA ((Xt.refl A).push _) (Nat.le_refl _) (by simp [Hp.push_blk]) (fun u hu => by rw [sC_flat] at hu; obtain ⟨x, _, rfl⟩ := List.mem_map.1 hu; exact RB.string _) (Nat.le_refl _)
theorem dgB_nil : dgB [] = false := rfl
/-- A number by its parts. -/
def nsB (l : List UInt8) : Bool := (sp 47 l).all dgB && decide ((sp 47 l).length < 3)
theorem dgB_no {l : List UInt8} (h : 47 ∈ l) : dgB l = false := by
  rw [dgB, Bool.and_eq_false_iff]
  exact .inr (List.all_eq_false.2 ⟨47, h, by decide⟩)
theorem pre_not (c : UInt8) (l : List UInt8) : c ∉ pre c l := by
  unfold pre
  induction l with
  | nil => simp
  | cons b r ih =>
    rw [List.takeWhile_cons]
    split
    · rename_i hb
      intro h
      rcases List.mem_cons.1 h with e | e
      · subst e; simp at hb
      · exact ih e
    · simp
theorem sp_max (c : UInt8) (l : List UInt8) : ∀ p ∈ sp c l, p.length ≤ l.length := by
  induction l with
  | nil => intro p hp; simp [sp] at hp; simp [hp]
  | cons b r ih =>
    intro p hp
    rw [sp] at hp
    split at hp
    · rcases List.mem_cons.1 hp with e | e
      · subst e; simp
      · have := ih p e; simp; omega
    · cases hs : sp c r with
      | nil => exact absurd hs (sp_ne c r)
      | cons q qs =>
        rw [hs] at hp ih
        rcases List.mem_cons.1 hp with e | e
        · subst e; have := ih q (by simp); simp; omega
        · have := ih p (by simp [e]); simp; omega
theorem nu_ns (l : List UInt8) : nsB l = nuB l := by
  rw [nsB, nuB]
  by_cases h : 47 ∈ l
  · rw [if_pos h, sp_some h]
    by_cases h2 : 47 ∈ post 47 l
    · rw [sp_some h2, dgB_no h2, Bool.and_false, decide_eq_false (by have := sp_len 47 (post 47 (post 47 l)); simp only [List.length_cons]; omega), Bool.and_false]
    · rw [sp_none h2]; simp
  · rw [if_neg h, sp_none h]; simp
theorem numberIs_ok (l : List UInt8) (hl : l.length ≤ 1048576) : Sound Tryd.prog G 10 [.string (S l)] fl A (.bool (nuB l)) A := by
  refine Sound.of mixed Tryd.func10 Tryd.ntmps10 Tryd.results10 (by kernel_rfl) rfl (by kernel_rfl) (by kernel_rfl) fun hA => ?_
  rw [← nu_ns]
  simp only [↓R1, R2, R3, R4, TY, reduceIte, Nat.reduceEqDiff, Nat.reduceAdd, Nat.reduceMul, Nat.reduceLT, Nat.reduceLeDiff, reduceCtorEq, decide_true, decide_false, Int.reduceLE, Int.reduceLT, Int.reduceToNat, Int.reduceAdd, Int.reduceSub, Int.reduceMul, Int.reduceEq, FE]
  refine call_of (split_ok _ _ hl) ?_
  have hne : (sp 47 l).map sC ≠ [] := by simp [sp_ne]
  have hlen := sp_len 47 l
  have hcl : l.count 47 ≤ l.length := List.count_le_length
  have hmax := sp_max 47 l
  rw [nlV, nlH, if_neg hne, if_neg hne, List.length_map, sC_flat]
  have hx : Xt A.next A (A.push (.row ((sp 47 l).map sV) 0 1)) := (Xt.refl A).push _
  have hid : A.next < (A.push (.row ((sp 47 l).map sV) 0 1)).next := by simp
  have hb : (A.push (.row ((sp 47 l).map sV) 0 1)).blk A.next = some (.row ((sp 47 l).map sV) 0 1) := by simp [Hp.push_blk]
  generalize A.push (.row ((sp 47 l).map sV) 0 1) = B at *
  generalize hps : sp 47 l = ps at *
  have fin : ∀ (x : Bool) (C : Hp), Xt A.next A C → x = nsB l → Ended A (.bool x) C (.bool (nsB l)) A := fun x C hx h => Ended.back hA hx (congrArg _ h) (RB.bool _)
  simp only [↓R1, R2, R3, R4, TY, reduceIte, Nat.reduceEqDiff, Nat.reduceAdd, Nat.reduceMul, Nat.reduceLT, Nat.reduceLeDiff, reduceCtorEq, decide_true, decide_false, Int.reduceLE, Int.reduceLT, Int.reduceToNat, Int.reduceAdd, Int.reduceSub, Int.reduceMul, Int.reduceEq, FE]
  refine range_of 10 ps.length (fun j τ C => C = B ∧ τ 3 = some (.slice (some ⟨A.next, 0, some 0⟩) ps.length ps.length) ∧ τ 8 = some (.slice (some ⟨A.next, 0, some 0⟩) ps.length ps.length) ∧ τ 9 = some (.int .i64 ps.length) ∧ τ 10 = some (.int .i64 (j : Nat)) ∧ (ps.take j).all dgB = true) ?_ ?_
  · exact ⟨rfl, rfl, rfl, rfl, rfl, rfl⟩
  rintro j τ C hj ⟨rfl, q3, q8, q9, q10, hall⟩
  simp only [↓R1, R2, R3, R4, TY, reduceIte, Nat.reduceEqDiff, Nat.reduceAdd, Nat.reduceMul, Nat.reduceLT, Nat.reduceLeDiff, reduceCtorEq, decide_true, decide_false, Int.reduceLE, Int.reduceLT, Int.reduceToNat, Int.reduceAdd, Int.reduceSub, Int.reduceMul, Int.reduceEq, FE, q3, q8, q9, q10]
  refine ⟨fun hlt => ?_, fun hlt => ?_⟩
  rotate_left
  · refine fin _ _ hx ?_
    rw [nsB, hps, show ps.all dgB = true by rwa [List.take_of_length_le (by omega)] at hall, Bool.true_and, decide_eq_decide]
    omega
  have g0 : C.get G ⟨A.next, j, some 0⟩ = some (.string (S ps[j])) := by rw [get_blk hb]; simp [sV, hlt]
  have hpl := hmax _ (List.getElem_mem hlt)
  have hfl : fl ≤ C.next := Nat.le_trans hA.floor hx.next
  have tr := fun fl => trimSet_ok (G := G) (fl := fl) (A := C) (cs := digs) (by decide) (by decide) (by decide) ps[j] (by omega)
  rw [digs_fun] at tr
  have e2 : (S (List.dropWhile pDig (rtr pDig ps[j])) = S []) = (ps[j].all pDig = true) := by rw [S_inj]; exact propext trim_nil
  have hj63 : j < 9223372036854775807 := by omega
  have bad : dgB ps[j] = false → (false : Bool) = nsB l := fun h => by
    rw [nsB, hps, eq_comm, Bool.and_eq_false_iff]
    exact .inl (List.all_eq_false.2 ⟨_, List.getElem_mem hlt, by simp [h]⟩)
  have key : (ps.take (j + 1)).all dgB = dgB ps[j] := by rw [List.take_succ_eq_append_getElem hlt, List.all_append, hall]; simp
  simp only [↓R1, R2, R3, R4, TY, reduceIte, Nat.reduceEqDiff, Nat.reduceAdd, Nat.reduceMul, Nat.reduceLT, Nat.reduceLeDiff, reduceCtorEq, decide_true, decide_false, Int.reduceLE, Int.reduceLT, Int.reduceToNat, Int.reduceAdd, Int.reduceSub, Int.reduceMul, Int.reduceEq, FE, S_size, q3, q8, q9, q10, hlt, g0, hid, hfl, hj63, Nat.mul_one]
  refine ⟨fun h => fin _ _ hx (bad ?_), fun h => ⟨fun h2 => fin _ _ hx (bad ?_), fun h2 => ?_⟩⟩
  · have : ps[j] = [] := (S_inj (b := [])) ▸ h
    rw [this]; rfl
  · rw [dgB, decide_eq_false (fun h' => by omega), Bool.false_and]
  have hne2 : ps[j] ≠ [] := fun e => h (by rw [e])
  have hd : dgB ps[j] = ps[j].all pDig := by rw [dgB, decide_eq_true ⟨hne2, by omega⟩, Bool.true_and]
  refine call_of (tr _) ?_
  rw [show ({ data := #[] } : ByteArray) = S [] from rfl] at *
  cases ha : ps[j].all pDig
  · have e3 : (S (List.dropWhile pDig (rtr pDig ps[j])) = S []) = False := by rw [e2, ha]; simp
    simp only [↓R1, R2, R3, R4, TY, reduceIte, Nat.reduceEqDiff, Nat.reduceAdd, Nat.reduceMul, Nat.reduceLT, Nat.reduceLeDiff, reduceCtorEq, decide_true, decide_false, Int.reduceLE, Int.reduceLT, Int.reduceToNat, Int.reduceAdd, Int.reduceSub, Int.reduceMul, Int.reduceEq, FE, S_size, q3, q8, q9, q10, hlt, e3, hj63]
    exact fin _ _ hx (bad (hd.trans ha))
  · have e3 : (S (List.dropWhile pDig (rtr pDig ps[j])) = S []) = True := by rw [e2, ha]; simp
    simp only [↓R1, R2, R3, R4, TY, reduceIte, Nat.reduceEqDiff, Nat.reduceAdd, Nat.reduceMul, Nat.reduceLT, Nat.reduceLeDiff, reduceCtorEq, decide_true, decide_false, Int.reduceLE, Int.reduceLT, Int.reduceToNat, Int.reduceAdd, Int.reduceSub, Int.reduceMul, Int.reduceEq, FE, S_size, q3, q8, q9, q10, hlt, e3, hj63]
    exact range_on q10 hlt rfl ⟨rfl, q3, q8, q9, rfl, by rw [key, hd]; exact ha⟩
end
end Go.Proofs.YtjgkodhadgfbmaaDoor.Ab
