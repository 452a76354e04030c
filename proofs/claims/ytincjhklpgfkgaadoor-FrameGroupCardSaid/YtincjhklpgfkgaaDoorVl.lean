/- Frames form a group that acts on points. -/
import Derived.Test.YtincjhklpgfkgaaDoorVk
import Derived.Test.YtincjhklpgfkgaaDoorVm
namespace Go.Proofs.YtincjhklpgfkgaaDoor.Ab
open Go.RowKit
set_option linter.unusedVariables false
set_option linter.unusedSimpArgs false
set_option maxRecDepth 100000

theorem back_then (o p : Option Rat) : tthen (tback p) (tback o) = tback (tthen o p) := by
  apply tcs_inj
  · simp only [tcos_add, tcos_back, tsin_back]; grind
  · simp only [tsin_add, tcos_add, tcos_back, tsin_back]; grind
theorem fr1 (x y : Rat) (o : Option Rat) : x + rx o (rx (tback o) (0 - x) (0 - y)) (ry (tback o) (0 - x) (0 - y)) = 0 ∧ y + ry o (rx (tback o) (0 - x) (0 - y)) (ry (tback o) (0 - x) (0 - y)) = 0 := by
  have h := tsq o
  simp only [rx, ry, tcos_back, tsin_back]
  generalize tcos o = C at *
  generalize tsin o = D at *
  constructor <;> grind
theorem fr2 (x y : Rat) (o : Option Rat) : rx (tback o) (0 - x) (0 - y) + rx (tback o) x y = 0 ∧ ry (tback o) (0 - x) (0 - y) + ry (tback o) x y = 0 := by
  simp only [rx, ry]
  constructor <;> grind
theorem fr3 (x y : Rat) (o : Option Rat) : x + rx o 0 0 = x ∧ y + ry o 0 0 = y := by
  simp only [rx, ry]
  constructor <;> grind
theorem fr4 (x y u v m n : Rat) (o p : Option Rat) : x + rx o (u + rx p m n) (v + ry p m n) = x + rx o u v + rx (tthen o p) m n ∧ y + ry o (u + rx p m n) (v + ry p m n) = y + ry o u v + ry (tthen o p) m n := by
  simp only [rx, ry, tcos_add, tsin_add]
  generalize tcos o = C at *
  generalize tsin o = D at *
  generalize tcos p = E at *
  generalize tsin p = F at *
  constructor <;> grind
theorem fr5 (x y m n : Rat) (o : Option Rat) : rx (tback o) (0 - x) (0 - y) + rx (tback o) (x + rx o m n) (y + ry o m n) = m ∧ ry (tback o) (0 - x) (0 - y) + ry (tback o) (x + rx o m n) (y + ry o m n) = n := by
  have h := tsq o
  simp only [rx, ry, tcos_back, tsin_back]
  generalize tcos o = C at *
  generalize tsin o = D at *
  constructor <;> grind
theorem fr6 (x y u v : Rat) (o p : Option Rat) : rx (tback p) (0 - u) (0 - v) + rx (tback p) (rx (tback o) (0 - x) (0 - y)) (ry (tback o) (0 - x) (0 - y)) = rx (tback (tthen o p)) (0 - (x + rx o u v)) (0 - (y + ry o u v)) ∧ ry (tback p) (0 - u) (0 - v) + ry (tback p) (rx (tback o) (0 - x) (0 - y)) (ry (tback o) (0 - x) (0 - y)) = ry (tback (tthen o p)) (0 - (x + rx o u v)) (0 - (y + ry o u v)) := by
  have h := tsq o
  simp only [rx, ry, tcos_back, tsin_back, tcos_add, tsin_add]
  generalize tcos o = C at *
  generalize tsin o = D at *
  generalize tcos p = E at *
  generalize tsin p = F at *
  constructor <;> grind

theorem set2v (z : List Value) (hz : z.length = 12) (p q r s : Rat) : (((((((((((z.set 0 (.bool (decide (p.num < 0)))).set 1 (.string (S (nb p.num.natAbs)))).set 2 (.string (S (nb p.den)))).set 3 (.bool (decide (q.num < 0)))).set 4 (.string (S (nb q.num.natAbs)))).set 5 (.string (S (nb q.den)))).set 6 (.bool (decide (r.num < 0)))).set 7 (.string (S (nb r.num.natAbs)))).set 8 (.string (S (nb r.den)))).set 9 (.bool (decide (s.num < 0)))).set 10 (.string (S (nb s.num.natAbs)))).set 11 (.string (S (nb s.den))) = prC p q ++ prC r s := by
  match z, hz with
  | [_, _, _, _, _, _, _, _, _, _, _, _], _ => rfl

section
variable {G : Gl} {fl : Nat} {A : Hp}

set_option maxHeartbeats 16000000 in
theorem frameGroup_calls {x1 x2 x3 x4 x5 x6 x7 x8 : Int} (hG : G 2 = some tabV) (k1 : -9223372036854775808 ≤ x1 ∧ x1 ≤ 9223372036854775807) (k2 : -9223372036854775808 ≤ x2 ∧ x2 ≤ 9223372036854775807) (k3 : -9223372036854775808 ≤ x3 ∧ x3 ≤ 9223372036854775807) (k4 : -9223372036854775808 ≤ x4 ∧ x4 ≤ 9223372036854775807) (k5 : -9223372036854775808 ≤ x5 ∧ x5 ≤ 9223372036854775807) (k6 : -9223372036854775808 ≤ x6 ∧ x6 ≤ 9223372036854775807) (k7 : -9223372036854775808 ≤ x7 ∧ x7 ≤ 9223372036854775807) (k8 : -9223372036854775808 ≤ x8 ∧ x8 ≤ 9223372036854775807) :
    ∀ (μ : Mu) (w : World) (args' : Array Value), HR G μ fl A w → fl ≤ A.next → VRa μ A [.int .i64 x1, .int .i64 x2, .int .i64 x3, .int .i64 x4, .int .i64 x5, .int .i64 x6, .int .i64 x7, .int .i64 x8].toArray args' →
    Calls Tryd.prog 8 args' w fun e w' => ∃ u, e = .returned u ∧ ∃ ν, VR ν A (.bool true) u ∧ HR G ν fl A w' ∧ Trans fl μ A w ν A w' := by
  refine calls_of mixed Tryd.func8 Tryd.ntmps8 Tryd.results8 (by kernel_rfl) rfl (by kernel_rfl) (by simp) fun hA => ?_
  have hfl : fl ≤ A.next := by have := hA.floor; omega
  have hfl1 : fl ≤ A.next + 1 := by have := hA.floor; omega
  have hfl2 : fl ≤ A.next + 2 := by have := hA.floor; omega
  have hfl3 : fl ≤ A.next + 3 := by have := hA.floor; omega
  have hfl4 : fl ≤ A.next + 4 := by have := hA.floor; omega
  have hfl5 : fl ≤ A.next + 5 := by have := hA.floor; omega
  have hfl6 : fl ≤ A.next + 6 := by have := hA.floor; omega
  have hfl7 : fl ≤ A.next + 7 := by have := hA.floor; omega
  have hfl8 : fl ≤ A.next + 8 := by have := hA.floor; omega
  have hfl9 : fl ≤ A.next + 9 := by have := hA.floor; omega
  have hfl10 : fl ≤ A.next + 10 := by have := hA.floor; omega
  have hfl11 : fl ≤ A.next + 11 := by have := hA.floor; omega
  have bg := fun fl A => vecBegun_ok (G := G) (fl := fl) (A := A) hG
  have m1 := fun fl A => framed_ok (G := G) (fl := fl) (A := A) hG k1 k2 k3
  have m2 := fun fl A => framed_ok (G := G) (fl := fl) (A := A) hG k4 k5 k6
  have m3 := fun fl A => vector_ok (G := G) (fl := fl) (A := A) hG k7 k8
  have zx := mrat_rz x1
  have zy := mrat_rz x2
  have zo := trn_rz x3
  have zu := mrat_rz x4
  have zv := mrat_rz x5
  have zp := trn_rz x6
  have zm := mrat_rz x7
  have zn := mrat_rz x8
  generalize mrat x1 = x at *
  generalize mrat x2 = y at *
  generalize trn x3 = o at *
  generalize mrat x4 = u at *
  generalize mrat x5 = v at *
  generalize trn x6 = p at *
  generalize mrat x7 = m at *
  generalize mrat x8 = n at *
  have zho := rz_then zo zp
  have zhx : Rz (x + rx o u v) 30 := (zx.add (rz_rx zo zu zv)).mono (by omega)
  have zhy : Rz (y + ry o u v) 30 := (zy.add (rz_ry zo zu zv)).mono (by omega)
  have zbo := rz_back zo
  have zbx : Rz (rx (tback o) (0 - x) (0 - y)) 30 := (rz_rx zbo (rz_zero.sub zx) (rz_zero.sub zy)).mono (by omega)
  have zby : Rz (ry (tback o) (0 - x) (0 - y)) 30 := (rz_ry zbo (rz_zero.sub zx) (rz_zero.sub zy)).mono (by omega)
  have zbp := rz_back zp
  have zbu : Rz (rx (tback p) (0 - u) (0 - v)) 30 := (rz_rx zbp (rz_zero.sub zu) (rz_zero.sub zv)).mono (by omega)
  have zbv : Rz (ry (tback p) (0 - u) (0 - v)) 30 := (rz_ry zbp (rz_zero.sub zu) (rz_zero.sub zv)).mono (by omega)
  have zfx : Rz (x + rx o m n) 30 := (zx.add (rz_rx zo zm zn)).mono (by omega)
  have zfy : Rz (y + ry o m n) 30 := (zy.add (rz_ry zo zm zn)).mono (by omega)
  have zgx : Rz (u + rx p m n) 30 := (zu.add (rz_rx zp zm zn)).mono (by omega)
  have zgy : Rz (v + ry p m n) 30 := (zv.add (rz_ry zp zm zn)).mono (by omega)
  have th := fun fl A => fthen (G := G) (fl := fl) (A := A) hG zx zy zo zu zv zp (by omega)
  have bf := fun fl A => fback (G := G) (fl := fl) (A := A) hG zx zy zo (by omega)
  have t1 := fun fl A => fthen (G := G) (fl := fl) (A := A) hG zx zy zo zbx zby zbo (by omega)
  have zz := fun fl A => fzero (G := G) (fl := fl) (A := A) hG
  have t2 := fun fl A => fthen (G := G) (fl := fl) (A := A) hG zbx zby zbo zx zy zo (by omega)
  have t3 := fun fl A => fthen (G := G) (fl := fl) (A := A) (p := some 0) hG zx zy zo rz_zero rz_zero rz_zero (by omega)
  have ph := fun fl A => fput (G := G) (fl := fl) (A := A) hG zhx zhy zho (zm.mono (show 1 ≤ 30 by omega)) (zn.mono (by omega)) (by omega)
  have pg := fun fl A => fput (G := G) (fl := fl) (A := A) hG zu zv zp zm zn (by omega)
  have pf := fun fl A => fput (G := G) (fl := fl) (A := A) hG zx zy zo zgx zgy (by omega)
  have pa := fun fl A => fput (G := G) (fl := fl) (A := A) hG zx zy zo zm zn (by omega)
  have pb := fun fl A => fput (G := G) (fl := fl) (A := A) hG zbx zby zbo zfx zfy (by omega)
  have bh := fun fl A => fback (G := G) (fl := fl) (A := A) hG zhx zhy zho (by omega)
  have bp := fun fl A => fback (G := G) (fl := fl) (A := A) hG zu zv zp (by omega)
  have t6 := fun fl A => fthen (G := G) (fl := fl) (A := A) hG zbu zbv zbp zbx zby zbo (by omega)
  rw [(fr1 x y o).1, (fr1 x y o).2, tthen_back] at t1
  rw [(fr2 x y o).1, (fr2 x y o).2, tthen_comm, tthen_back] at t2
  rw [(fr3 x y o).1, (fr3 x y o).2, tthen_zero] at t3
  rw [(fr4 x y u v m n o p).1, (fr4 x y u v m n o p).2] at pf
  rw [(fr5 x y m n o).1, (fr5 x y m n o).2] at pb
  rw [(fr6 x y u v o p).1, (fr6 x y u v o p).2, back_then] at t6
  have li : ∀ (fl : Nat) (A : Hp) (id : Nat), id < A.next → A.blk id = some (.row (prC m n ++ prC x y) 0 6) → Sound Tryd.prog G 51 [frV (x + rx o u v) (y + ry o u v) (tthen o p), .slice (some ⟨id, 0, some 0⟩) 2 2] fl A (.slice (some ⟨A.next, 0, some 0⟩) 2 2) (A.push (.row (prC (x + rx o u v + rx (tthen o p) m n) (y + ry o u v + ry (tthen o p) m n) ++ prC (x + rx o u v + rx (tthen o p) x y) (y + ry o u v + ry (tthen o p) x y)) 0 6)) := fun fl A id h1 h2 => flist hG zhx zhy zho zm zn zx zy (by omega) h1 h2
  generalize hho : tthen o p = ho at *
  generalize hhx : x + rx o u v = hx at *
  generalize hhy : y + ry o u v = hy at *
  generalize hbo : tback o = bo at *
  generalize hbp : tback p = bo2 at *
  generalize hbh : tback ho = bo3 at *
  have e1 := eqD_frame 0 0 (some 0) 0 0 (some 0)
  have e2 := eqD_frame x y o x y o
  have e3 := eqD_vec (hx + rx ho m n) (hy + ry ho m n) (hx + rx ho m n) (hy + ry ho m n)
  have e4 := eqD_vec m n m n
  have e5 := eqD_frame (rx bo3 (0 - hx) (0 - hy)) (ry bo3 (0 - hx) (0 - hy)) bo3 (rx bo3 (0 - hx) (0 - hy)) (ry bo3 (0 - hx) (0 - hy)) bo3
  simp only [decide_eq_true_eq, decide_true, Bool.and_self] at e1 e2 e3 e4 e5
  simp only [tnV_def, ratV_def, prV_def, frV_def, Option.getD_some] at m1 m2 m3 th bf t1 zz t2 t3 ph pg pf pa pb bh bp t6 li e1 e2 e3 e4 e5
  have fin : ∀ (x : Bool) (C : Hp), Xt A.next A C → x = true → Ended A (.bool x) C (.bool true) A := fun x C hC hx => Ended.back hA hC (congrArg _ hx) (RB.bool _)
  simp only [↓R1, R2, R3, R4, TY, reduceIte, Nat.reduceEqDiff, Nat.reduceAdd, Nat.reduceMul, Nat.reduceLT, Nat.reduceLeDiff, reduceCtorEq, decide_true, decide_false, Int.reduceLE, Int.reduceLT, Int.reduceToNat, Int.reduceAdd, Int.reduceSub, Int.reduceMul, Int.reduceEq, hfl, hfl1, hfl2, hfl3, hfl4, hfl5, hfl6, NE, NE9, Nat.add_assoc, hfl7, hfl8, hfl9, hfl10, hfl11, guard_rat, guard_vec, guard_turn, guard_frame, e1, e2, e3, e4, e5, beq_self_eq_true, Bool.and_true, append_eq, List.cons_append, List.nil_append, zl_len, List.length_set]
  refine call_of (bg _ _) ?_
  simp only [↓R1, R2, R3, R4, TY, reduceIte, Nat.reduceEqDiff, Nat.reduceAdd, Nat.reduceMul, Nat.reduceLT, Nat.reduceLeDiff, reduceCtorEq, decide_true, decide_false, Int.reduceLE, Int.reduceLT, Int.reduceToNat, Int.reduceAdd, Int.reduceSub, Int.reduceMul, Int.reduceEq, hfl, hfl1, hfl2, hfl3, hfl4, hfl5, hfl6, NE, NE9, Nat.add_assoc, hfl7, hfl8, hfl9, hfl10, hfl11, guard_rat, guard_vec, guard_turn, guard_frame, e1, e2, e3, e4, e5, beq_self_eq_true, Bool.and_true, append_eq, List.cons_append, List.nil_append, zl_len, List.length_set]
  refine call_of (m1 _ _) ?_
  simp only [↓R1, R2, R3, R4, TY, reduceIte, Nat.reduceEqDiff, Nat.reduceAdd, Nat.reduceMul, Nat.reduceLT, Nat.reduceLeDiff, reduceCtorEq, decide_true, decide_false, Int.reduceLE, Int.reduceLT, Int.reduceToNat, Int.reduceAdd, Int.reduceSub, Int.reduceMul, Int.reduceEq, hfl, hfl1, hfl2, hfl3, hfl4, hfl5, hfl6, NE, NE9, Nat.add_assoc, hfl7, hfl8, hfl9, hfl10, hfl11, guard_rat, guard_vec, guard_turn, guard_frame, e1, e2, e3, e4, e5, beq_self_eq_true, Bool.and_true, append_eq, List.cons_append, List.nil_append, zl_len, List.length_set]
  refine call_of (m2 _ _) ?_
  simp only [↓R1, R2, R3, R4, TY, reduceIte, Nat.reduceEqDiff, Nat.reduceAdd, Nat.reduceMul, Nat.reduceLT, Nat.reduceLeDiff, reduceCtorEq, decide_true, decide_false, Int.reduceLE, Int.reduceLT, Int.reduceToNat, Int.reduceAdd, Int.reduceSub, Int.reduceMul, Int.reduceEq, hfl, hfl1, hfl2, hfl3, hfl4, hfl5, hfl6, NE, NE9, Nat.add_assoc, hfl7, hfl8, hfl9, hfl10, hfl11, guard_rat, guard_vec, guard_turn, guard_frame, e1, e2, e3, e4, e5, beq_self_eq_true, Bool.and_true, append_eq, List.cons_append, List.nil_append, zl_len, List.length_set]
  refine call_of (m3 _ _) ?_
  simp only [↓R1, R2, R3, R4, TY, reduceIte, Nat.reduceEqDiff, Nat.reduceAdd, Nat.reduceMul, Nat.reduceLT, Nat.reduceLeDiff, reduceCtorEq, decide_true, decide_false, Int.reduceLE, Int.reduceLT, Int.reduceToNat, Int.reduceAdd, Int.reduceSub, Int.reduceMul, Int.reduceEq, hfl, hfl1, hfl2, hfl3, hfl4, hfl5, hfl6, NE, NE9, Nat.add_assoc, hfl7, hfl8, hfl9, hfl10, hfl11, guard_rat, guard_vec, guard_turn, guard_frame, e1, e2, e3, e4, e5, beq_self_eq_true, Bool.and_true, append_eq, List.cons_append, List.nil_append, zl_len, List.length_set]
  refine call_of (th _ _) ?_
  simp only [↓R1, R2, R3, R4, TY, reduceIte, Nat.reduceEqDiff, Nat.reduceAdd, Nat.reduceMul, Nat.reduceLT, Nat.reduceLeDiff, reduceCtorEq, decide_true, decide_false, Int.reduceLE, Int.reduceLT, Int.reduceToNat, Int.reduceAdd, Int.reduceSub, Int.reduceMul, Int.reduceEq, hfl, hfl1, hfl2, hfl3, hfl4, hfl5, hfl6, NE, NE9, Nat.add_assoc, hfl7, hfl8, hfl9, hfl10, hfl11, guard_rat, guard_vec, guard_turn, guard_frame, e1, e2, e3, e4, e5, beq_self_eq_true, Bool.and_true, append_eq, List.cons_append, List.nil_append, zl_len, List.length_set]
  generalize hB : Hp.push (Hp.put _ (A.next + 3) _) _ = B
  have hBn : B.next = A.next + 5 := by rw [← hB]; rfl
  have hBx : Xt A.next A B := by
    rw [← hB]
    simp (maxDischargeDepth := 20) only [xt_push, xt_put, xt_refl, Nat.le_refl, Nat.le_add_right, Nat.add_assoc, Nat.reduceAdd]
  have b4 : B.blk (A.next + 4) = some (.row (prC m n ++ prC x y) 0 6) := by
    rw [← hB]; exact (push_at rfl).trans (congrArg (fun c => some (Blk.row c 0 6)) (set2v _ zl_len _ _ _ _))
  have gf : ∀ i, B.get G ⟨A.next, i, some 0⟩ = ([.bool (decide (x.num < 0)), .string (S (nb x.num.natAbs)), .string (S (nb x.den)), .bool (decide (y.num < 0)), .string (S (nb y.num.natAbs)), .string (S (nb y.den)), .bool o.isNone, .bool (decide ((o.getD 0).num < 0)), .string (S (nb (o.getD 0).num.natAbs)), .string (S (nb (o.getD 0).den))] : List Value)[i]? := fun i => by rw [← hB]; simp [Hp.get, Hp.put_blk, Hp.push_blk, Nat.add_assoc]
  have gg : ∀ i, B.get G ⟨A.next + 1, i, some 0⟩ = ([.bool (decide (u.num < 0)), .string (S (nb u.num.natAbs)), .string (S (nb u.den)), .bool (decide (v.num < 0)), .string (S (nb v.num.natAbs)), .string (S (nb v.den)), .bool p.isNone, .bool (decide ((p.getD 0).num < 0)), .string (S (nb (p.getD 0).num.natAbs)), .string (S (nb (p.getD 0).den))] : List Value)[i]? := fun i => by rw [← hB]; simp [Hp.get, Hp.put_blk, Hp.push_blk, Nat.add_assoc]
  have ga : ∀ i, B.get G ⟨A.next + 2, i, some 0⟩ = ([.bool (decide (m.num < 0)), .string (S (nb m.num.natAbs)), .string (S (nb m.den)), .bool (decide (n.num < 0)), .string (S (nb n.num.natAbs)), .string (S (nb n.den))] : List Value)[i]? := fun i => by rw [← hB]; simp [Hp.get, Hp.put_blk, Hp.push_blk, Nat.add_assoc]
  have gh : ∀ i, B.get G ⟨A.next + 3, i, some 0⟩ = ([.bool (decide (hx.num < 0)), .string (S (nb hx.num.natAbs)), .string (S (nb hx.den)), .bool (decide (hy.num < 0)), .string (S (nb hy.num.natAbs)), .string (S (nb hy.den)), .bool ho.isNone, .bool (decide ((ho.getD 0).num < 0)), .string (S (nb (ho.getD 0).num.natAbs)), .string (S (nb (ho.getD 0).den))] : List Value)[i]? := fun i => by rw [← hB]; simp [Hp.get, Hp.put_blk, Hp.push_blk, Nat.add_assoc]
  clear hB
  refine call_of (li _ B (A.next + 4) (by omega) b4) ?_
  generalize hD : Hp.push B _ = D
  have hDx : Xt A.next A D := by rw [← hD]; exact hBx.push _
  have up : ∀ k i, k < 5 → D.get G ⟨A.next + k, i, some 0⟩ = B.get G ⟨A.next + k, i, some 0⟩ := fun k i hk => by
    rw [← hD]; simp only [Hp.get, Hp.push_blk, hBn, Nat.add_left_cancel_iff, Nat.ne_of_lt hk, if_false]
  have df := fun i => (up 0 i (by omega)).trans (gf i)
  have dg := fun i => (up 1 i (by omega)).trans (gg i)
  have da := fun i => (up 2 i (by omega)).trans (ga i)
  have dh := fun i => (up 3 i (by omega)).trans (gh i)
  have dl : ∀ i, D.get G ⟨A.next + 5, i, some 0⟩ = (prC (hx + rx ho m n) (hy + ry ho m n) ++ prC (hx + rx ho x y) (hy + ry ho x y))[i]? := fun i => by
    rw [← hD]; simp only [Hp.get, push_at hBn.symm, if_true]
  rw [Nat.add_zero] at df
  clear hD gf gg ga gh up b4
  have l2 : (0 : Int) < ((2 : Nat) : Int) := by decide
  have l3 : (((2 : Nat) : Int) = 2) = True := eq_true rfl
  simp only [↓R1, R2, R3, R4, TY, reduceIte, Nat.reduceEqDiff, Nat.reduceAdd, Nat.reduceMul, Nat.reduceLT, Nat.reduceLeDiff, reduceCtorEq, decide_true, decide_false, Int.reduceLE, Int.reduceLT, Int.reduceToNat, Int.reduceAdd, Int.reduceSub, Int.reduceMul, Int.reduceEq, df, dg, da, dh, dl, hBn, l2, l3, prC, List.getElem?_cons_zero, List.getElem?_cons_succ, hfl, hfl1, hfl2, hfl3, hfl4, hfl5, hfl6, NE, NE9, Nat.add_assoc, hfl7, hfl8, hfl9, hfl10, hfl11, guard_rat, guard_vec, guard_turn, guard_frame, e1, e2, e3, e4, e5, beq_self_eq_true, Bool.and_true, append_eq, List.cons_append, List.nil_append, zl_len, List.length_set]
  refine call_of (bf _ _) ?_
  simp only [↓R1, R2, R3, R4, TY, reduceIte, Nat.reduceEqDiff, Nat.reduceAdd, Nat.reduceMul, Nat.reduceLT, Nat.reduceLeDiff, reduceCtorEq, decide_true, decide_false, Int.reduceLE, Int.reduceLT, Int.reduceToNat, Int.reduceAdd, Int.reduceSub, Int.reduceMul, Int.reduceEq, df, dg, da, dh, dl, hBn, l2, l3, prC, List.getElem?_cons_zero, List.getElem?_cons_succ, hfl, hfl1, hfl2, hfl3, hfl4, hfl5, hfl6, NE, NE9, Nat.add_assoc, hfl7, hfl8, hfl9, hfl10, hfl11, guard_rat, guard_vec, guard_turn, guard_frame, e1, e2, e3, e4, e5, beq_self_eq_true, Bool.and_true, append_eq, List.cons_append, List.nil_append, zl_len, List.length_set]
  refine call_of (t1 _ _) ?_
  simp only [↓R1, R2, R3, R4, TY, reduceIte, Nat.reduceEqDiff, Nat.reduceAdd, Nat.reduceMul, Nat.reduceLT, Nat.reduceLeDiff, reduceCtorEq, decide_true, decide_false, Int.reduceLE, Int.reduceLT, Int.reduceToNat, Int.reduceAdd, Int.reduceSub, Int.reduceMul, Int.reduceEq, df, dg, da, dh, dl, hBn, l2, l3, prC, List.getElem?_cons_zero, List.getElem?_cons_succ, hfl, hfl1, hfl2, hfl3, hfl4, hfl5, hfl6, NE, NE9, Nat.add_assoc, hfl7, hfl8, hfl9, hfl10, hfl11, guard_rat, guard_vec, guard_turn, guard_frame, e1, e2, e3, e4, e5, beq_self_eq_true, Bool.and_true, append_eq, List.cons_append, List.nil_append, zl_len, List.length_set]
  refine call_of (zz _ _) ?_
  simp only [↓R1, R2, R3, R4, TY, reduceIte, Nat.reduceEqDiff, Nat.reduceAdd, Nat.reduceMul, Nat.reduceLT, Nat.reduceLeDiff, reduceCtorEq, decide_true, decide_false, Int.reduceLE, Int.reduceLT, Int.reduceToNat, Int.reduceAdd, Int.reduceSub, Int.reduceMul, Int.reduceEq, df, dg, da, dh, dl, hBn, l2, l3, prC, List.getElem?_cons_zero, List.getElem?_cons_succ, hfl, hfl1, hfl2, hfl3, hfl4, hfl5, hfl6, NE, NE9, Nat.add_assoc, hfl7, hfl8, hfl9, hfl10, hfl11, guard_rat, guard_vec, guard_turn, guard_frame, e1, e2, e3, e4, e5, beq_self_eq_true, Bool.and_true, append_eq, List.cons_append, List.nil_append, zl_len, List.length_set]
  refine call_of (bf _ _) ?_
  simp only [↓R1, R2, R3, R4, TY, reduceIte, Nat.reduceEqDiff, Nat.reduceAdd, Nat.reduceMul, Nat.reduceLT, Nat.reduceLeDiff, reduceCtorEq, decide_true, decide_false, Int.reduceLE, Int.reduceLT, Int.reduceToNat, Int.reduceAdd, Int.reduceSub, Int.reduceMul, Int.reduceEq, df, dg, da, dh, dl, hBn, l2, l3, prC, List.getElem?_cons_zero, List.getElem?_cons_succ, hfl, hfl1, hfl2, hfl3, hfl4, hfl5, hfl6, NE, NE9, Nat.add_assoc, hfl7, hfl8, hfl9, hfl10, hfl11, guard_rat, guard_vec, guard_turn, guard_frame, e1, e2, e3, e4, e5, beq_self_eq_true, Bool.and_true, append_eq, List.cons_append, List.nil_append, zl_len, List.length_set]
  refine call_of (t2 _ _) ?_
  simp only [↓R1, R2, R3, R4, TY, reduceIte, Nat.reduceEqDiff, Nat.reduceAdd, Nat.reduceMul, Nat.reduceLT, Nat.reduceLeDiff, reduceCtorEq, decide_true, decide_false, Int.reduceLE, Int.reduceLT, Int.reduceToNat, Int.reduceAdd, Int.reduceSub, Int.reduceMul, Int.reduceEq, df, dg, da, dh, dl, hBn, l2, l3, prC, List.getElem?_cons_zero, List.getElem?_cons_succ, hfl, hfl1, hfl2, hfl3, hfl4, hfl5, hfl6, NE, NE9, Nat.add_assoc, hfl7, hfl8, hfl9, hfl10, hfl11, guard_rat, guard_vec, guard_turn, guard_frame, e1, e2, e3, e4, e5, beq_self_eq_true, Bool.and_true, append_eq, List.cons_append, List.nil_append, zl_len, List.length_set]
  refine call_of (zz _ _) ?_
  simp only [↓R1, R2, R3, R4, TY, reduceIte, Nat.reduceEqDiff, Nat.reduceAdd, Nat.reduceMul, Nat.reduceLT, Nat.reduceLeDiff, reduceCtorEq, decide_true, decide_false, Int.reduceLE, Int.reduceLT, Int.reduceToNat, Int.reduceAdd, Int.reduceSub, Int.reduceMul, Int.reduceEq, df, dg, da, dh, dl, hBn, l2, l3, prC, List.getElem?_cons_zero, List.getElem?_cons_succ, hfl, hfl1, hfl2, hfl3, hfl4, hfl5, hfl6, NE, NE9, Nat.add_assoc, hfl7, hfl8, hfl9, hfl10, hfl11, guard_rat, guard_vec, guard_turn, guard_frame, e1, e2, e3, e4, e5, beq_self_eq_true, Bool.and_true, append_eq, List.cons_append, List.nil_append, zl_len, List.length_set]
  refine call_of (zz _ _) ?_
  simp only [↓R1, R2, R3, R4, TY, reduceIte, Nat.reduceEqDiff, Nat.reduceAdd, Nat.reduceMul, Nat.reduceLT, Nat.reduceLeDiff, reduceCtorEq, decide_true, decide_false, Int.reduceLE, Int.reduceLT, Int.reduceToNat, Int.reduceAdd, Int.reduceSub, Int.reduceMul, Int.reduceEq, df, dg, da, dh, dl, hBn, l2, l3, prC, List.getElem?_cons_zero, List.getElem?_cons_succ, hfl, hfl1, hfl2, hfl3, hfl4, hfl5, hfl6, NE, NE9, Nat.add_assoc, hfl7, hfl8, hfl9, hfl10, hfl11, guard_rat, guard_vec, guard_turn, guard_frame, e1, e2, e3, e4, e5, beq_self_eq_true, Bool.and_true, append_eq, List.cons_append, List.nil_append, zl_len, List.length_set]
  refine call_of (t3 _ _) ?_
  simp only [↓R1, R2, R3, R4, TY, reduceIte, Nat.reduceEqDiff, Nat.reduceAdd, Nat.reduceMul, Nat.reduceLT, Nat.reduceLeDiff, reduceCtorEq, decide_true, decide_false, Int.reduceLE, Int.reduceLT, Int.reduceToNat, Int.reduceAdd, Int.reduceSub, Int.reduceMul, Int.reduceEq, df, dg, da, dh, dl, hBn, l2, l3, prC, List.getElem?_cons_zero, List.getElem?_cons_succ, hfl, hfl1, hfl2, hfl3, hfl4, hfl5, hfl6, NE, NE9, Nat.add_assoc, hfl7, hfl8, hfl9, hfl10, hfl11, guard_rat, guard_vec, guard_turn, guard_frame, e1, e2, e3, e4, e5, beq_self_eq_true, Bool.and_true, append_eq, List.cons_append, List.nil_append, zl_len, List.length_set]
  refine call_of (ph _ _) ?_
  simp only [↓R1, R2, R3, R4, TY, reduceIte, Nat.reduceEqDiff, Nat.reduceAdd, Nat.reduceMul, Nat.reduceLT, Nat.reduceLeDiff, reduceCtorEq, decide_true, decide_false, Int.reduceLE, Int.reduceLT, Int.reduceToNat, Int.reduceAdd, Int.reduceSub, Int.reduceMul, Int.reduceEq, df, dg, da, dh, dl, hBn, l2, l3, prC, List.getElem?_cons_zero, List.getElem?_cons_succ, hfl, hfl1, hfl2, hfl3, hfl4, hfl5, hfl6, NE, NE9, Nat.add_assoc, hfl7, hfl8, hfl9, hfl10, hfl11, guard_rat, guard_vec, guard_turn, guard_frame, e1, e2, e3, e4, e5, beq_self_eq_true, Bool.and_true, append_eq, List.cons_append, List.nil_append, zl_len, List.length_set]
  refine call_of (pg _ _) ?_
  simp only [↓R1, R2, R3, R4, TY, reduceIte, Nat.reduceEqDiff, Nat.reduceAdd, Nat.reduceMul, Nat.reduceLT, Nat.reduceLeDiff, reduceCtorEq, decide_true, decide_false, Int.reduceLE, Int.reduceLT, Int.reduceToNat, Int.reduceAdd, Int.reduceSub, Int.reduceMul, Int.reduceEq, df, dg, da, dh, dl, hBn, l2, l3, prC, List.getElem?_cons_zero, List.getElem?_cons_succ, hfl, hfl1, hfl2, hfl3, hfl4, hfl5, hfl6, NE, NE9, Nat.add_assoc, hfl7, hfl8, hfl9, hfl10, hfl11, guard_rat, guard_vec, guard_turn, guard_frame, e1, e2, e3, e4, e5, beq_self_eq_true, Bool.and_true, append_eq, List.cons_append, List.nil_append, zl_len, List.length_set]
  refine call_of (pf _ _) ?_
  simp only [↓R1, R2, R3, R4, TY, reduceIte, Nat.reduceEqDiff, Nat.reduceAdd, Nat.reduceMul, Nat.reduceLT, Nat.reduceLeDiff, reduceCtorEq, decide_true, decide_false, Int.reduceLE, Int.reduceLT, Int.reduceToNat, Int.reduceAdd, Int.reduceSub, Int.reduceMul, Int.reduceEq, df, dg, da, dh, dl, hBn, l2, l3, prC, List.getElem?_cons_zero, List.getElem?_cons_succ, hfl, hfl1, hfl2, hfl3, hfl4, hfl5, hfl6, NE, NE9, Nat.add_assoc, hfl7, hfl8, hfl9, hfl10, hfl11, guard_rat, guard_vec, guard_turn, guard_frame, e1, e2, e3, e4, e5, beq_self_eq_true, Bool.and_true, append_eq, List.cons_append, List.nil_append, zl_len, List.length_set]
  refine call_of (bf _ _) ?_
  simp only [↓R1, R2, R3, R4, TY, reduceIte, Nat.reduceEqDiff, Nat.reduceAdd, Nat.reduceMul, Nat.reduceLT, Nat.reduceLeDiff, reduceCtorEq, decide_true, decide_false, Int.reduceLE, Int.reduceLT, Int.reduceToNat, Int.reduceAdd, Int.reduceSub, Int.reduceMul, Int.reduceEq, df, dg, da, dh, dl, hBn, l2, l3, prC, List.getElem?_cons_zero, List.getElem?_cons_succ, hfl, hfl1, hfl2, hfl3, hfl4, hfl5, hfl6, NE, NE9, Nat.add_assoc, hfl7, hfl8, hfl9, hfl10, hfl11, guard_rat, guard_vec, guard_turn, guard_frame, e1, e2, e3, e4, e5, beq_self_eq_true, Bool.and_true, append_eq, List.cons_append, List.nil_append, zl_len, List.length_set]
  refine call_of (pa _ _) ?_
  simp only [↓R1, R2, R3, R4, TY, reduceIte, Nat.reduceEqDiff, Nat.reduceAdd, Nat.reduceMul, Nat.reduceLT, Nat.reduceLeDiff, reduceCtorEq, decide_true, decide_false, Int.reduceLE, Int.reduceLT, Int.reduceToNat, Int.reduceAdd, Int.reduceSub, Int.reduceMul, Int.reduceEq, df, dg, da, dh, dl, hBn, l2, l3, prC, List.getElem?_cons_zero, List.getElem?_cons_succ, hfl, hfl1, hfl2, hfl3, hfl4, hfl5, hfl6, NE, NE9, Nat.add_assoc, hfl7, hfl8, hfl9, hfl10, hfl11, guard_rat, guard_vec, guard_turn, guard_frame, e1, e2, e3, e4, e5, beq_self_eq_true, Bool.and_true, append_eq, List.cons_append, List.nil_append, zl_len, List.length_set]
  refine call_of (pb _ _) ?_
  simp only [↓R1, R2, R3, R4, TY, reduceIte, Nat.reduceEqDiff, Nat.reduceAdd, Nat.reduceMul, Nat.reduceLT, Nat.reduceLeDiff, reduceCtorEq, decide_true, decide_false, Int.reduceLE, Int.reduceLT, Int.reduceToNat, Int.reduceAdd, Int.reduceSub, Int.reduceMul, Int.reduceEq, df, dg, da, dh, dl, hBn, l2, l3, prC, List.getElem?_cons_zero, List.getElem?_cons_succ, hfl, hfl1, hfl2, hfl3, hfl4, hfl5, hfl6, NE, NE9, Nat.add_assoc, hfl7, hfl8, hfl9, hfl10, hfl11, guard_rat, guard_vec, guard_turn, guard_frame, e1, e2, e3, e4, e5, beq_self_eq_true, Bool.and_true, append_eq, List.cons_append, List.nil_append, zl_len, List.length_set]
  refine call_of (bh _ _) ?_
  simp only [↓R1, R2, R3, R4, TY, reduceIte, Nat.reduceEqDiff, Nat.reduceAdd, Nat.reduceMul, Nat.reduceLT, Nat.reduceLeDiff, reduceCtorEq, decide_true, decide_false, Int.reduceLE, Int.reduceLT, Int.reduceToNat, Int.reduceAdd, Int.reduceSub, Int.reduceMul, Int.reduceEq, df, dg, da, dh, dl, hBn, l2, l3, prC, List.getElem?_cons_zero, List.getElem?_cons_succ, hfl, hfl1, hfl2, hfl3, hfl4, hfl5, hfl6, NE, NE9, Nat.add_assoc, hfl7, hfl8, hfl9, hfl10, hfl11, guard_rat, guard_vec, guard_turn, guard_frame, e1, e2, e3, e4, e5, beq_self_eq_true, Bool.and_true, append_eq, List.cons_append, List.nil_append, zl_len, List.length_set]
  refine call_of (bp _ _) ?_
  simp only [↓R1, R2, R3, R4, TY, reduceIte, Nat.reduceEqDiff, Nat.reduceAdd, Nat.reduceMul, Nat.reduceLT, Nat.reduceLeDiff, reduceCtorEq, decide_true, decide_false, Int.reduceLE, Int.reduceLT, Int.reduceToNat, Int.reduceAdd, Int.reduceSub, Int.reduceMul, Int.reduceEq, df, dg, da, dh, dl, hBn, l2, l3, prC, List.getElem?_cons_zero, List.getElem?_cons_succ, hfl, hfl1, hfl2, hfl3, hfl4, hfl5, hfl6, NE, NE9, Nat.add_assoc, hfl7, hfl8, hfl9, hfl10, hfl11, guard_rat, guard_vec, guard_turn, guard_frame, e1, e2, e3, e4, e5, beq_self_eq_true, Bool.and_true, append_eq, List.cons_append, List.nil_append, zl_len, List.length_set]
  refine call_of (bf _ _) ?_
  simp only [↓R1, R2, R3, R4, TY, reduceIte, Nat.reduceEqDiff, Nat.reduceAdd, Nat.reduceMul, Nat.reduceLT, Nat.reduceLeDiff, reduceCtorEq, decide_true, decide_false, Int.reduceLE, Int.reduceLT, Int.reduceToNat, Int.reduceAdd, Int.reduceSub, Int.reduceMul, Int.reduceEq, df, dg, da, dh, dl, hBn, l2, l3, prC, List.getElem?_cons_zero, List.getElem?_cons_succ, hfl, hfl1, hfl2, hfl3, hfl4, hfl5, hfl6, NE, NE9, Nat.add_assoc, hfl7, hfl8, hfl9, hfl10, hfl11, guard_rat, guard_vec, guard_turn, guard_frame, e1, e2, e3, e4, e5, beq_self_eq_true, Bool.and_true, append_eq, List.cons_append, List.nil_append, zl_len, List.length_set]
  refine call_of (t6 _ _) ?_
  simp only [↓R1, R2, R3, R4, TY, reduceIte, Nat.reduceEqDiff, Nat.reduceAdd, Nat.reduceMul, Nat.reduceLT, Nat.reduceLeDiff, reduceCtorEq, decide_true, decide_false, Int.reduceLE, Int.reduceLT, Int.reduceToNat, Int.reduceAdd, Int.reduceSub, Int.reduceMul, Int.reduceEq, df, dg, da, dh, dl, hBn, l2, l3, prC, List.getElem?_cons_zero, List.getElem?_cons_succ, hfl, hfl1, hfl2, hfl3, hfl4, hfl5, hfl6, NE, NE9, Nat.add_assoc, hfl7, hfl8, hfl9, hfl10, hfl11, guard_rat, guard_vec, guard_turn, guard_frame, e1, e2, e3, e4, e5, beq_self_eq_true, Bool.and_true, append_eq, List.cons_append, List.nil_append, zl_len, List.length_set]
  refine call_of (ph _ _) ?_
  simp only [↓R1, R2, R3, R4, TY, reduceIte, Nat.reduceEqDiff, Nat.reduceAdd, Nat.reduceMul, Nat.reduceLT, Nat.reduceLeDiff, reduceCtorEq, decide_true, decide_false, Int.reduceLE, Int.reduceLT, Int.reduceToNat, Int.reduceAdd, Int.reduceSub, Int.reduceMul, Int.reduceEq, df, dg, da, dh, dl, hBn, l2, l3, prC, List.getElem?_cons_zero, List.getElem?_cons_succ, hfl, hfl1, hfl2, hfl3, hfl4, hfl5, hfl6, NE, NE9, Nat.add_assoc, hfl7, hfl8, hfl9, hfl10, hfl11, guard_rat, guard_vec, guard_turn, guard_frame, e1, e2, e3, e4, e5, beq_self_eq_true, Bool.and_true, append_eq, List.cons_append, List.nil_append, zl_len, List.length_set]
  refine fin _ _ hDx rfl
end
end Go.Proofs.YtincjhklpgfkgaaDoor.Ab
