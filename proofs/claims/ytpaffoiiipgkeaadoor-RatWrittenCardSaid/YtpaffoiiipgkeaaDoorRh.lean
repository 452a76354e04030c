/- Rational numbers: small ones made; the fact about them. -/
import Derived.Test.YtpaffoiiipgkeaaDoorRg
namespace Go.Proofs.YtpaffoiiipgkeaaDoor.Ab
open Go.RowKit
set_option linter.unusedVariables false
set_option linter.unusedSimpArgs false
set_option maxRecDepth 100000

/-- A number's bytes, the least first. -/
def nl (n : Nat) : List UInt8 := (nb n).reverse
theorem nl_zero : nl 0 = [] := by rw [nl, nb_zero]; rfl
theorem nl_pos {n : Nat} (h : n ≠ 0) : nl n = UInt8.ofNat (n % 256) :: nl (n / 256) := by rw [nl, nb_pos h, List.reverse_append]; rfl
theorem tdiv_gcd {n : Int} {d : Nat} : n.tdiv (Nat.gcd n.natAbs d : Nat) = sgn (decide (n < 0)) (n.natAbs / Nat.gcd n.natAbs d) := by
  unfold sgn
  split
  · rename_i h
    have h' : n < 0 := by simpa using h
    have e : n = -(n.natAbs : Int) := by omega
    conv => lhs; lhs; rw [e]
    rw [Int.neg_tdiv, div_n]
  · rename_i h
    have h' : ¬ n < 0 := by simpa using h
    have e : n = (n.natAbs : Int) := by omega
    conv => lhs; lhs; rw [e]
    rw [div_n]

section
variable {G : Gl} {fl : Nat} {A : Hp}

theorem reverse_nil : Sound Tryd.prog G 94 [.slice none 0 0] fl A (.tuple #[]) A := by
  refine Sound.of mixed Tryd.func94 Tryd.ntmps94 Tryd.results94 (by kernel_rfl) rfl (by kernel_rfl) (by simp) fun hA => ?_
  have w0 : IntKind.i64.wrap (((0 : Nat) : Int) - 1) = -1 := wrapI (by omega)
  have c0 : ((0 : Int) < -1) = False := eq_false (by omega)
  simp only [↓R1, R2, R3, R4, TY, reduceIte, Nat.reduceEqDiff, Nat.reduceAdd, Nat.reduceMul, Nat.reduceLT, Nat.reduceLeDiff, reduceCtorEq, decide_true, decide_false, Int.reduceLE, Int.reduceLT, Int.reduceToNat, Int.reduceAdd, Int.reduceSub, Int.reduceMul, Int.reduceEq, w0]
  refine loop_of (fun τ C => C = A ∧ τ 2 = some (.int .i64 0) ∧ τ 3 = some (.int .i64 (-1))) (fun _ _ => 0) ⟨rfl, rfl, rfl⟩ ?_
  rintro τ' C ⟨rfl, r2, r3⟩
  simp only [↓R1, R2, R3, R4, TY, reduceIte, Nat.reduceEqDiff, Nat.reduceAdd, Nat.reduceMul, Nat.reduceLT, Nat.reduceLeDiff, reduceCtorEq, decide_true, decide_false, Int.reduceLE, Int.reduceLT, Int.reduceToNat, Int.reduceAdd, Int.reduceSub, Int.reduceMul, Int.reduceEq, r2, r3, c0]
  exact Ended.back hA (Xt.refl _) rfl (RB.tuple (by simp))

theorem digits_ok {n : Nat} (hn : n ≤ 9223372036854775807) : Sound Tryd.prog G 75 [.int .i64 (n : Nat)] fl A (.string (S (nb n))) A := by
  refine Sound.of mixed Tryd.func75 Tryd.ntmps75 Tryd.results75 (by kernel_rfl) rfl (by kernel_rfl) (by simp) fun hA => ?_
  have hfl : fl ≤ A.next := hA.floor
  have h8 : (nb n).length ≤ 8 := nb8.2 (by omega)
  simp only [↓R1, R2, R3, R4, TY, reduceIte, Nat.reduceEqDiff, Nat.reduceAdd, Nat.reduceMul, Nat.reduceLT, Nat.reduceLeDiff, reduceCtorEq, decide_true, decide_false, Int.reduceLE, Int.reduceLT, Int.reduceToNat, Int.reduceAdd, Int.reduceSub, Int.reduceMul, Int.reduceEq]
  refine loop_of (fun τ B => ∃ (m : Nat) (out : List UInt8) (so : Value), Xt A.next A B ∧ Ac B A.next 1 so (out.map lc) ∧ out ++ nl m = nl n ∧ m ≤ n ∧ τ 0 = some (.int .i64 (m : Nat)) ∧ τ 3 = some so) (fun τ _ => match τ 0 with | some (.int _ x) => x.toNat | _ => 0) ?_ ?_
  · exact ⟨n, [], _, Xt.refl A, Ac.nil _ _ _, rfl, Nat.le_refl _, rfl, rfl⟩
  rintro τ B ⟨m, out, so, hx, hac, hout, hmn, q0, q3⟩
  have hpos : ((0 : Int) < ((m : Nat) : Int)) = (0 < m) := propext (by omega)
  have hol : out.length + (nl m).length = (nl n).length := by rw [← hout, List.length_append]
  have hnl : (nl n).length ≤ 8 := by rw [nl, List.length_reverse]; exact h8
  simp only [↓R1, R2, R3, R4, TY, reduceIte, Nat.reduceEqDiff, Nat.reduceAdd, Nat.reduceMul, Nat.reduceLT, Nat.reduceLeDiff, reduceCtorEq, decide_true, decide_false, Int.reduceLE, Int.reduceLT, Int.reduceToNat, Int.reduceAdd, Int.reduceSub, Int.reduceMul, Int.reduceEq, q0, q3, hpos]
  refine ⟨fun hlt => ?_, fun hlt => ?_⟩
  · have d1 : ((m : Nat) : Int).tdiv 256 = ((m / 256 : Nat) : Int) := by rw [show (256 : Int) = ((256 : Nat) : Int) from rfl, div_n]
    have d2 : ((m : Nat) : Int).tmod 256 = ((m % 256 : Nat) : Int) := by rw [show (256 : Int) = ((256 : Nat) : Int) from rfl, mod_n]
    have d3 : m % 256 % 256 = m % 256 := by omega
    have w1 : IntKind.i64.wrap ((m / 256 : Nat) : Int) = ((m / 256 : Nat) : Int) := wrapI (by omega)
    have hz1 : zl [.int .u8 0] 1 = [.int .u8 0] := rfl
    simp only [↓R1, R2, R3, R4, TY, reduceIte, Nat.reduceEqDiff, Nat.reduceAdd, Nat.reduceMul, Nat.reduceLT, Nat.reduceLeDiff, reduceCtorEq, decide_true, decide_false, Int.reduceLE, Int.reduceLT, Int.reduceToNat, Int.reduceAdd, Int.reduceSub, Int.reduceMul, Int.reduceEq, q0, q3, d1, d2, d3, w1, hz1, u8_n]
    have hbyte : Value.int .u8 ((m % 256 : Nat) : Int) = .int .u8 (((UInt8.ofNat (m % 256)).toNat : Nat) : Int) := by rw [ofNat_toNat8 (Nat.mod_lt _ (by omega))]
    rw [hbyte]
    have hmne : m ≠ 0 := by omega
    have hlen : out.length < 8 := by rw [nl_pos hmne] at hol; simp at hol; omega
    refine apn_of (lo := A.next) (sz := 1) (css := out.map lc) (new := [lc (UInt8.ofNat (m % 256))]) ty58 rfl ty5 ty58 rfl rfl (by omega) rfl (hac.xt ((Xt.refl B).push _)) hfl (by rw [Hp.push_next]; have := hx.next; omega) ⟨by simp [lc], .inr (.inr ⟨_, _, _, 0, _, rfl, rfl, rfl, by rw [Hp.push_blk, if_pos rfl], fun j x hj => by simpa [lc] using hj⟩)⟩ (by simp [lc]; rfl) (by simp; omega) (by simp; omega) ?_
    intro so' D hau hxt hn' hf hsome hid
    simp only [↓R1, R2, R3, R4, TY, reduceIte, Nat.reduceEqDiff, Nat.reduceAdd, Nat.reduceMul, Nat.reduceLT, Nat.reduceLeDiff, reduceCtorEq, decide_true, decide_false, Int.reduceLE, Int.reduceLT, Int.reduceToNat, Int.reduceAdd, Int.reduceSub, Int.reduceMul, Int.reduceEq, q0, q3, d1, w1]
    refine loop_on ⟨m / 256, out ++ [UInt8.ofNat (m % 256)], so', ⟨fun id hid => by rw [hxt.blk id hid, Hp.push_blk, if_neg (by have := hx.next; omega)]; exact hx.blk id hid, hxt.next⟩, by simpa using hau, ?_, by omega, rfl, rfl⟩ ?_
    · rw [List.append_assoc, List.singleton_append, ← nl_pos hmne, hout]
    · simp only [upd, if_true, q0, Int.toNat_natCast]; omega
  · obtain rfl : m = 0 := by omega
    rw [nl_zero, List.append_nil] at hout
    rcases hac.at_ with ⟨h1, h2⟩ | ⟨id, g, k, c, h1, hnc, hid, hidn, hblk, hk⟩
    · subst h1
      rw [List.map_eq_nil_iff] at h2
      subst h2
      have hnb : nb n = [] := by have := congrArg List.reverse hout; rw [nl, List.reverse_reverse] at this; exact this.symm
      refine call_of reverse_nil ?_
      simp only [↓R1, R2, R3, R4, TY, reduceIte, Nat.reduceEqDiff, Nat.reduceAdd, Nat.reduceMul, Nat.reduceLT, Nat.reduceLeDiff, reduceCtorEq, decide_true, decide_false, Int.reduceLE, Int.reduceLT, Int.reduceToNat, Int.reduceAdd, Int.reduceSub, Int.reduceMul, Int.reduceEq, q3]
      unfold cnv
      refine .inr (.inr (.inr ⟨5, _, rfl, rfl, ty5, rfl, .inl ⟨0, 0, rfl, ?_⟩⟩))
      simp only [↓R1, R2, R3, R4, TY, reduceIte, Nat.reduceEqDiff, Nat.reduceAdd, Nat.reduceMul, Nat.reduceLT, Nat.reduceLeDiff, reduceCtorEq, decide_true, decide_false, Int.reduceLE, Int.reduceLT, Int.reduceToNat, Int.reduceAdd, Int.reduceSub, Int.reduceMul, Int.reduceEq]
      exact Ended.back hA hx (by rw [hnb]; rfl) (RB.string _)
    · subst h1
      rw [lc_flat] at hblk
      rw [List.length_map] at hk
      subst hk
      refine call_of (reverse_ok (by omega) hidn hblk (by omega)) ?_
      have hrev : out.reverse = nb n := by rw [hout, nl, List.reverse_reverse]
      rw [hrev]
      generalize hD : Hp.put _ _ _ = D
      have hDb : D.blk id = some (.row (bl (nb n)) g 1) := by rw [← hD]; simp [Hp.put_blk]
      have hDx : Xt A.next A D := by rw [← hD]; exact hx.put hid _
      simp only [↓R1, R2, R3, R4, TY, reduceIte, Nat.reduceEqDiff, Nat.reduceAdd, Nat.reduceMul, Nat.reduceLT, Nat.reduceLeDiff, reduceCtorEq, decide_true, decide_false, Int.reduceLE, Int.reduceLT, Int.reduceToNat, Int.reduceAdd, Int.reduceSub, Int.reduceMul, Int.reduceEq, q3]
      refine cnv_of (nb n) ty5 rfl rfl (by simp) (by rw [← hrev, List.length_reverse]) (fun j u hj => ?_) ?_
      · simp only [Hp.get, aadd, hDb, Nat.zero_add, if_true]
        simp [bl, hj]
      simp only [↓R1, R2, R3, R4, TY, reduceIte, Nat.reduceEqDiff, Nat.reduceAdd, Nat.reduceMul, Nat.reduceLT, Nat.reduceLeDiff, reduceCtorEq, decide_true, decide_false, Int.reduceLE, Int.reduceLT, Int.reduceToNat, Int.reduceAdd, Int.reduceSub, Int.reduceMul, Int.reduceEq]
      exact Ended.back hA hDx rfl (RB.string _)

theorem mof_ok {n : Int} {d : Nat} (hd : 0 < d) (hd2 : d ≤ 1000) (h1 : -1000000 ≤ n) (h2 : n ≤ 1000000) : Sound Tryd.prog G 55 [.int .i64 n, .int .i64 (d : Nat)] fl A (ratV (mkRat n d)) A := by
  refine Sound.of mixed Tryd.func55 Tryd.ntmps55 Tryd.results55 (by kernel_rfl) rfl (by kernel_rfl) (by simp) fun hA => ?_
  have w1 : IntKind.i64.wrap (0 - n) = -n := by rw [wrapI (by omega)]; omega
  have w2 : (if -n > n then -n else n) = ((n.natAbs : Nat) : Int) := by split <;> omega
  have hfl : fl ≤ A.next := hA.floor
  simp only [↓R1, R2, R3, R4, TY, reduceIte, Nat.reduceEqDiff, Nat.reduceAdd, Nat.reduceMul, Nat.reduceLT, Nat.reduceLeDiff, reduceCtorEq, decide_true, decide_false, Int.reduceLE, Int.reduceLT, Int.reduceToNat, Int.reduceAdd, Int.reduceSub, Int.reduceMul, Int.reduceEq, w1, w2]
  refine loop_of (fun τ B => B = A.push (.row [.bool false, .string (S []), .string (S [])] 0 3) ∧ ∃ x y : Nat, x ≤ 1000000 ∧ y ≤ 1000000 ∧ Nat.gcd x y = Nat.gcd n.natAbs d ∧ τ 0 = some (.int .i64 n) ∧ τ 1 = some (.int .i64 (d : Nat)) ∧ τ 4 = some (.pointer (some ⟨A.next, 0, some 0⟩)) ∧ τ 5 = some (.int .i64 (x : Nat)) ∧ τ 6 = some (.int .i64 (y : Nat))) (fun τ _ => match τ 6 with | some (.int _ y) => y.toNat | _ => 0) ⟨rfl, n.natAbs, d, by omega, by omega, rfl, rfl, rfl, rfl, rfl, rfl⟩ ?_
  rintro τ B ⟨rfl, x, y, hx, hy, hg, q0, q1, q4, q5, q6⟩
  have hpos : ((0 : Int) < ((y : Nat) : Int)) = (0 < y) := propext (by omega)
  simp only [↓R1, R2, R3, R4, TY, reduceIte, Nat.reduceEqDiff, Nat.reduceAdd, Nat.reduceMul, Nat.reduceLT, Nat.reduceLeDiff, reduceCtorEq, decide_true, decide_false, Int.reduceLE, Int.reduceLT, Int.reduceToNat, Int.reduceAdd, Int.reduceSub, Int.reduceMul, Int.reduceEq, q0, q1, q4, q5, q6, hpos]
  refine ⟨fun h => ?_, fun h => ?_⟩
  · have hne : ¬ ((y : Nat) : Int) = 0 := by omega
    have hlt : x % y < y := Nat.mod_lt _ h
    have w3 : IntKind.i64.wrap ((x % y : Nat) : Int) = ((x % y : Nat) : Int) := wrapI (by omega)
    simp only [↓R1, R2, R3, R4, TY, reduceIte, Nat.reduceEqDiff, Nat.reduceAdd, Nat.reduceMul, Nat.reduceLT, Nat.reduceLeDiff, reduceCtorEq, decide_true, decide_false, Int.reduceLE, Int.reduceLT, Int.reduceToNat, Int.reduceAdd, Int.reduceSub, Int.reduceMul, Int.reduceEq, q0, q1, q4, q5, q6, hpos, hne, ne_eq, not_false_eq_true, mod_n, w3]
    refine loop_on ⟨rfl, y, x % y, hy, by omega, ?_, q0, q1, q4, rfl, rfl⟩ ?_
    · rw [← hg, Nat.gcd_comm x y, Nat.gcd_rec y x, Nat.gcd_comm]
    · simp only [upd, if_true, q6, Int.toNat_natCast]; exact hlt
  · have : y = 0 := by omega
    subst this
    rw [Nat.gcd_zero_right] at hg
    have hg0 : Nat.gcd n.natAbs d ≠ 0 := fun e => by have := Nat.eq_zero_of_gcd_eq_zero_right e; omega
    subst hg
    have hnum : (mkRat n d).num = n.tdiv (Nat.gcd n.natAbs d : Nat) := by
      conv => lhs; rw [← sgn_num n]
      rw [mk_num (by omega), tdiv_gcd]
    have hden : ((d : Nat) : Int).tdiv (Nat.gcd n.natAbs d : Nat) = (((mkRat n d).den : Nat) : Int) := by
      rw [div_n]
      conv => rhs; rw [← sgn_num n]
      rw [mk_den (by omega)]
    have hsz : Sz (mkRat n d) 1000000 := Sz.mk (by omega) (by omega) (by omega)
    have hxne : ¬ ((Nat.gcd n.natAbs d : Nat) : Int) = 0 := by omega
    have hrb := ratV_rb A.next (mkRat n d)
    rw [ratV] at hrb ⊢
    rw [← hnum] at *
    obtain ⟨z1, z2⟩ := hsz
    generalize mkRat n d = Q at *
    have w3 : IntKind.i64.wrap Q.num = Q.num := wrapI (by omega)
    have w4 : IntKind.i64.wrap ((Q.den : Nat) : Int) = ((Q.den : Nat) : Int) := wrapI (by omega)
    have w5 : IntKind.i64.wrap (0 - Q.num) = -Q.num := by rw [wrapI (by omega)]; omega
    have w6 : (if -Q.num > Q.num then -Q.num else Q.num) = ((Q.num.natAbs : Nat) : Int) := by split <;> omega
    have hnum' := hnum.symm
    simp only [↓R1, R2, R3, R4, TY, reduceIte, Nat.reduceEqDiff, Nat.reduceAdd, Nat.reduceMul, Nat.reduceLT, Nat.reduceLeDiff, reduceCtorEq, decide_true, decide_false, Int.reduceLE, Int.reduceLT, Int.reduceToNat, Int.reduceAdd, Int.reduceSub, Int.reduceMul, Int.reduceEq, q0, q1, q4, q5, q6, hxne, ne_eq, not_false_eq_true, hnum', hden, w3, w4, w5, w6]
    refine call_of (digits_ok (by omega)) ?_
    simp only [↓R1, R2, R3, R4, TY, reduceIte, Nat.reduceEqDiff, Nat.reduceAdd, Nat.reduceMul, Nat.reduceLT, Nat.reduceLeDiff, reduceCtorEq, decide_true, decide_false, Int.reduceLE, Int.reduceLT, Int.reduceToNat, Int.reduceAdd, Int.reduceSub, Int.reduceMul, Int.reduceEq, q0, q1, q4, q5, q6, hnum', hden, w3, w4]
    refine call_of (digits_ok (by omega)) ?_
    simp only [↓R1, R2, R3, R4, TY, reduceIte, Nat.reduceEqDiff, Nat.reduceAdd, Nat.reduceMul, Nat.reduceLT, Nat.reduceLeDiff, reduceCtorEq, decide_true, decide_false, Int.reduceLE, Int.reduceLT, Int.reduceToNat, Int.reduceAdd, Int.reduceSub, Int.reduceMul, Int.reduceEq, q4, hfl]
    exact Ended.back hA (by simp (maxDischargeDepth := 20) only [xt_push, xt_put, xt_refl, Nat.le_refl]) rfl hrb
end
end Go.Proofs.YtpaffoiiipgkeaaDoor.Ab
