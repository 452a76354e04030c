/- Rational numbers: quotients of whole ones, texts; small ones made. -/
import Derived.Test.YthclikeipdplpaaGreatDoorRf
import Derived.Test.YthclikeipdplpaaGreatDoorNk
namespace Go.Proofs.YthclikeipdplpaaGreatDoor.Ab
open Go.RowKit
set_option linter.unusedVariables false
set_option linter.unusedSimpArgs false
set_option maxRecDepth 100000

/-- A number from 0 on below another. -/
def below (x n : Int) : Int := if x.tmod n < 0 then x.tmod n + n else x.tmod n
theorem below_range {x n : Int} (h : 0 < n) : 0 ≤ below x n ∧ below x n < n := by
  have h1 := Int.tmod_lt_of_pos x h
  have h2 : -n < x.tmod n := Int.neg_lt_of_neg_lt (by have := Int.lt_tmod_of_pos x h; omega)
  unfold below; split <;> omega
def mden (x : Int) : Int := ([1, 2, 3, 4, 5, 8] : List Int).getD (below x 6).toNat 0
def mnum (x : Int) : Int := below (x.tdiv 6) (16 * mden x + 1) - 8 * mden x
/-- A small number. -/
def mrat (x : Int) : Rat := mkRat (mnum x) (mden x).toNat
theorem mden_range (x : Int) : 1 ≤ mden x ∧ mden x ≤ 8 := by
  have := below_range (x := x) (n := 6) (by omega)
  unfold mden
  generalize below x 6 = b at this
  have hb : b = 0 ∨ b = 1 ∨ b = 2 ∨ b = 3 ∨ b = 4 ∨ b = 5 := by omega
  rcases hb with rfl | rfl | rfl | rfl | rfl | rfl <;> decide
theorem mnum_range (x : Int) : -64 ≤ mnum x ∧ mnum x ≤ 64 := by
  have h := mden_range x
  have := below_range (x := x.tdiv 6) (n := 16 * mden x + 1) (by omega)
  unfold mnum; omega
theorem mrat_sz (x : Int) : Sz (mrat x) 64 := by
  have h1 := mden_range x
  have h2 := mnum_range x
  exact Sz.mk (by omega) (by omega) (by omega)

section
variable {G : Gl} {fl : Nat} {A : Hp}

theorem below_ok {x n : Int} (h : 0 < n) (hn : n ≤ 1000) (h1 : -9223372036854775808 ≤ x) (h2 : x ≤ 9223372036854775807) : Sound Tryz.prog G 15 [.int .i64 x, .int .i64 n] fl A (.int .i64 (below x n)) A := by
  refine Sound.of mixed Tryz.func15 Tryz.ntmps15 Tryz.results15 (by kernel_rfl) rfl (by kernel_rfl) (by simp) fun hA => ?_
  have hne : (n ≠ 0) = True := eq_true (by omega)
  have hne2 : (n = 0) = False := eq_false (by omega)
  have b1 := Int.tmod_lt_of_pos x h
  have b2 := Int.lt_tmod_of_pos x h
  simp only [↓R1, R2, R3, R4, TY, reduceIte, Nat.reduceEqDiff, Nat.reduceAdd, Nat.reduceMul, Nat.reduceLT, Nat.reduceLeDiff, reduceCtorEq, decide_true, decide_false, Int.reduceLE, Int.reduceLT, Int.reduceToNat, Int.reduceAdd, Int.reduceSub, Int.reduceMul, Int.reduceEq, hne, hne2, ne_eq, not_false_eq_true]
  refine ⟨fun hlt => ?_, fun hlt => ?_⟩
  · have w1 : IntKind.i64.wrap (x.tmod n + n) = x.tmod n + n := wrapI (by omega)
    simp only [↓R1, R2, R3, R4, TY, reduceIte, Nat.reduceEqDiff, Nat.reduceAdd, Nat.reduceMul, Nat.reduceLT, Nat.reduceLeDiff, reduceCtorEq, decide_true, decide_false, Int.reduceLE, Int.reduceLT, Int.reduceToNat, Int.reduceAdd, Int.reduceSub, Int.reduceMul, Int.reduceEq, w1]
    exact Ended.back hA (Xt.refl _) (by rw [below, if_pos hlt]) (RB.int _ _)
  · exact Ended.back hA (Xt.refl _) (by rw [below, if_neg hlt]) (RB.int _ _)

theorem reverse_ok {id g c : Nat} {l : List UInt8} (hid : fl ≤ id) (hidn : id < A.next) (hb : A.blk id = some (.row (bl l) g 1)) (hl : l.length ≤ 1000000) :
    Sound Tryz.prog G 160 [.slice (some ⟨id, 0, some g⟩) l.length c] fl A (.tuple #[]) (A.put id (.row (bl l.reverse) g 1)) := by
  refine Sound.of mixed Tryz.func160 Tryz.ntmps160 Tryz.results160 (by kernel_rfl) rfl (by kernel_rfl) (by simp) fun hA => ?_
  have w0 : IntKind.i64.wrap ((l.length : Int) - 1) = (l.length : Int) - 1 := wrapI (by omega)
  simp only [↓R1, R2, R3, R4, TY, reduceIte, Nat.reduceEqDiff, Nat.reduceAdd, Nat.reduceMul, Nat.reduceLT, Nat.reduceLeDiff, reduceCtorEq, decide_true, decide_false, Int.reduceLE, Int.reduceLT, Int.reduceToNat, Int.reduceAdd, Int.reduceSub, Int.reduceMul, Int.reduceEq, w0]
  refine loop_of (fun τ C => ∃ i : Nat, C.next = A.next ∧ (∀ q, q ≠ id → C.blk q = A.blk q) ∧ C.blk id = some (.row (bl (rv l i)) g 1) ∧ i ≤ l.length ∧ τ 0 = some (.slice (some ⟨id, 0, some g⟩) l.length c) ∧ τ 2 = some (.int .i64 i) ∧ τ 3 = some (.int .i64 ((l.length : Int) - 1 - i))) (fun τ _ => match τ 2 with | some (.int _ x) => (l.length - x).toNat | _ => 0) ?_ ?_
  · exact ⟨0, rfl, fun _ _ => rfl, by rw [rv_zero]; exact hb, Nat.zero_le _, rfl, rfl, by simp [upd]⟩
  rintro τ' C ⟨i, hCn, hCo, hCb, hiL, r4, r7, r8⟩
  simp only [↓R1, R2, R3, R4, TY, reduceIte, Nat.reduceEqDiff, Nat.reduceAdd, Nat.reduceMul, Nat.reduceLT, Nat.reduceLeDiff, reduceCtorEq, decide_true, decide_false, Int.reduceLE, Int.reduceLT, Int.reduceToNat, Int.reduceAdd, Int.reduceSub, Int.reduceMul, Int.reduceEq, r4, r7, r8]
  refine ⟨fun hlt2 => ?_, fun hlt2 => ?_⟩
  · have e8 : ((l.length : Int) - 1 - (i : Int)) = ((l.length - 1 - i : Nat) : Int) := by omega
    rw [e8] at r8
    have hik : i < l.length - 1 - i := by omega
    have hk : l.length - 1 - i < l.length := by omega
    have hi : i < l.length := by omega
    have hblen : (bl (rv l i)).length = l.length := by rw [bl_length, rv_length]
    have hg1 : C.get G ⟨id, l.length - 1 - i, some g⟩ = some (.int .u8 ((l.getD (l.length - 1 - i) 0).toNat : Nat)) := by
      simp only [Hp.get, hCb, if_true]
      rw [bl_get (by rw [rv_length]; exact hk)]
      have := rv_get (i := i) hk
      rw [if_neg (by omega), List.getElem?_eq_getElem (by rw [rv_length]; exact hk)] at this
      rw [Option.some.inj this]
    have hg2 : C.get G ⟨id, i, some g⟩ = some (.int .u8 ((l.getD i 0).toNat : Nat)) := by
      simp only [Hp.get, hCb, if_true]
      rw [bl_get (by rw [rv_length]; exact hi)]
      have := rv_get (i := i) hi
      rw [if_neg (by omega), List.getElem?_eq_getElem (by rw [rv_length]; exact hi)] at this
      rw [Option.some.inj this]
    have w1 : IntKind.i64.wrap ((l.length - 1 - i : Nat) - 1 : Int) = ((l.length - 1 - i : Nat) : Int) - 1 := wrapI (by omega)
    have hi63 : i < 9223372036854775807 := by omega
    have hk1 : l.length - 1 - i + 1 ≤ l.length := by omega
    have hi1 : i + 1 ≤ l.length := by omega
    simp only [↓R1, R2, R3, R4, TY, reduceIte, Nat.reduceEqDiff, Nat.reduceAdd, Nat.reduceMul, Nat.reduceLT, Nat.reduceLeDiff, reduceCtorEq, decide_true, decide_false, Int.reduceLE, Int.reduceLT, Int.reduceToNat, Int.reduceAdd, Int.reduceSub, Int.reduceMul, Int.reduceEq, e8, r4, r7, r8, hk, hi, hg1, hg2, hCb, hblen, hk1, hi1, hid, w1, hi63, List.length_set]
    rw [floOf_wr (by kernel_rfl)]
    simp only [↓R1, R2, R3, R4, TY, reduceIte, Nat.reduceEqDiff, Nat.reduceAdd, Nat.reduceMul, Nat.reduceLT, Nat.reduceLeDiff, reduceCtorEq, decide_true, decide_false, Int.reduceLE, Int.reduceLT, Int.reduceToNat, Int.reduceAdd, Int.reduceSub, Int.reduceMul, Int.reduceEq, e8, r4, r7, r8, hk, hi, hg1, hg2, hCb, hblen, hk1, hi1, hid, w1, hi63, List.length_set]
    rw [floOf_wr (by kernel_rfl)]
    simp only [↓R1, R2, R3, R4, TY, reduceIte, Nat.reduceEqDiff, Nat.reduceAdd, Nat.reduceMul, Nat.reduceLT, Nat.reduceLeDiff, reduceCtorEq, decide_true, decide_false, Int.reduceLE, Int.reduceLT, Int.reduceToNat, Int.reduceAdd, Int.reduceSub, Int.reduceMul, Int.reduceEq, e8, r4, r7, r8, hk, hi, hg1, hg2, hCb, hblen, hk1, hi1, hid, w1, hi63, List.length_set]
    refine loop_on ⟨i + 1, hCn, fun q hq => by simp only [Hp.put_blk]; rw [if_neg hq, if_neg hq]; exact hCo q hq, ?_, by omega, r4, rfl, ?_⟩ ?_
    · simp only [Hp.put_blk, if_true]
      rw [bl_set, bl_set, rv_succ hik]
    · simp only [upd, if_true]
      congr 2; omega
    · simp only [upd, r7]
      simp; omega
  · rw [rv_end (by omega)] at hCb
    refine Ended.put hA hidn (fun i hi => ?_) rfl (RB.tuple (by simp)) (fun u hu => ?_)
    · rw [Hp.put_blk]
      split
      · rename_i h; rw [h]; exact hCb
      · rename_i h; exact hCo i h
    · simp only [bl, List.mem_map] at hu
      obtain ⟨b, _, rfl⟩ := hu
      exact RB.int _ _
end
end Go.Proofs.YthclikeipdplpaaGreatDoor.Ab

/- Rational numbers: small ones made; the fact about them. -/
namespace Go.Proofs.YthclikeipdplpaaGreatDoor.Ab
open Go.RowKit
set_option linter.unusedVariables false
set_option linter.unusedSimpArgs false
set_option maxRecDepth 100000

/-- A number's bytes, the least first. -/
def nl (n : Nat) : List UInt8 := (nb n).reverse
theorem nl_zero : nl 0 = [] := by rw [nl, nb_zero]; rfl
theorem nl_pos {n : Nat} (h : n ≠ 0) : nl n = UInt8.ofNat (n % 256) :: nl (n / 256) := by rw [nl, nb_pos h, List.reverse_append]; rfl
theorem tdiv_gcd {n : Int} {d : Nat} : n.tdiv (Nat.gcd n.natAbs d : Nat) = sgn (decide (n < 0)) (n.natAbs / Nat.gcd n.natAbs d) := by
  unfold sgn
  split
  · rename_i h
    have h' : n < 0 := by simpa using h
    have e : n = -(n.natAbs : Int) := by omega
    conv => lhs; lhs; rw [e]
    rw [Int.neg_tdiv, div_n]
  · rename_i h
    have h' : ¬ n < 0 := by simpa using h
    have e : n = (n.natAbs : Int) := by omega
    conv => lhs; lhs; rw [e]
    rw [div_n]

section
variable {G : Gl} {fl : Nat} {A : Hp}

theorem reverse_nil : Sound Tryz.prog G 160 [.slice none 0 0] fl A (.tuple #[]) A := by
  refine Sound.of mixed Tryz.func160 Tryz.ntmps160 Tryz.results160 (by kernel_rfl) rfl (by kernel_rfl) (by simp) fun hA => ?_
  have w0 : IntKind.i64.wrap (((0 : Nat) : Int) - 1) = -1 := wrapI (by omega)
  have c0 : ((0 : Int) < -1) = False := eq_false (by omega)
  simp only [↓R1, R2, R3, R4, TY, reduceIte, Nat.reduceEqDiff, Nat.reduceAdd, Nat.reduceMul, Nat.reduceLT, Nat.reduceLeDiff, reduceCtorEq, decide_true, decide_false, Int.reduceLE, Int.reduceLT, Int.reduceToNat, Int.reduceAdd, Int.reduceSub, Int.reduceMul, Int.reduceEq, w0]
  refine loop_of (fun τ C => C = A ∧ τ 2 = some (.int .i64 0) ∧ τ 3 = some (.int .i64 (-1))) (fun _ _ => 0) ⟨rfl, rfl, rfl⟩ ?_
  rintro τ' C ⟨rfl, r2, r3⟩
  simp only [↓R1, R2, R3, R4, TY, reduceIte, Nat.reduceEqDiff, Nat.reduceAdd, Nat.reduceMul, Nat.reduceLT, Nat.reduceLeDiff, reduceCtorEq, decide_true, decide_false, Int.reduceLE, Int.reduceLT, Int.reduceToNat, Int.reduceAdd, Int.reduceSub, Int.reduceMul, Int.reduceEq, r2, r3, c0]
  exact Ended.back hA (Xt.refl _) rfl (RB.tuple (by simp))

theorem digits_ok {n : Nat} (hn : n ≤ 9223372036854775807) : Sound Tryz.prog G 133 [.int .i64 (n : Nat)] fl A (.string (S (nb n))) A := by
  refine Sound.of mixed Tryz.func133 Tryz.ntmps133 Tryz.results133 (by kernel_rfl) rfl (by kernel_rfl) (by simp) fun hA => ?_
  have hfl : fl ≤ A.next := hA.floor
  have h8 : (nb n).length ≤ 8 := nb8.2 (by omega)
  simp only [↓R1, R2, R3, R4, TY, reduceIte, Nat.reduceEqDiff, Nat.reduceAdd, Nat.reduceMul, Nat.reduceLT, Nat.reduceLeDiff, reduceCtorEq, decide_true, decide_false, Int.reduceLE, Int.reduceLT, Int.reduceToNat, Int.reduceAdd, Int.reduceSub, Int.reduceMul, Int.reduceEq]
  refine loop_of (fun τ B => ∃ (m : Nat) (out : List UInt8) (so : Value), Xt A.next A B ∧ Ac B A.next 1 so (out.map lc) ∧ out ++ nl m = nl n ∧ m ≤ n ∧ τ 0 = some (.int .i64 (m : Nat)) ∧ τ 3 = some so) (fun τ _ => match τ 0 with | some (.int _ x) => x.toNat | _ => 0) ?_ ?_
  · exact ⟨n, [], _, Xt.refl A, Ac.nil _ _ _, rfl, Nat.le_refl _, rfl, rfl⟩
  rintro τ B ⟨m, out, so, hx, hac, hout, hmn, q0, q3⟩
  have hpos : ((0 : Int) < ((m : Nat) : Int)) = (0 < m) := propext (by omega)
  have hol : out.length + (nl m).length = (nl n).length := by rw [← hout, List.length_append]
  have hnl : (nl n).length ≤ 8 := by rw [nl, List.length_reverse]; exact h8
  simp only [↓R1, R2, R3, R4, TY, reduceIte, Nat.reduceEqDiff, Nat.reduceAdd, Nat.reduceMul, Nat.reduceLT, Nat.reduceLeDiff, reduceCtorEq, decide_true, decide_false, Int.reduceLE, Int.reduceLT, Int.reduceToNat, Int.reduceAdd, Int.reduceSub, Int.reduceMul, Int.reduceEq, q0, q3, hpos]
  refine ⟨fun hlt => ?_, fun hlt => ?_⟩
  · have d1 : ((m : Nat) : Int).tdiv 256 = ((m / 256 : Nat) : Int) := by rw [show (256 : Int) = ((256 : Nat) : Int) from rfl, div_n]
    have d2 : ((m : Nat) : Int).tmod 256 = ((m % 256 : Nat) : Int) := by rw [show (256 : Int) = ((256 : Nat) : Int) from rfl, mod_n]
    have d3 : m % 256 % 256 = m % 256 := by omega
    have w1 : IntKind.i64.wrap ((m / 256 : Nat) : Int) = ((m / 256 : Nat) : Int) := wrapI (by omega)
    have hz1 : zl [.int .u8 0] 1 = [.int .u8 0] := rfl
    simp only [↓R1, R2, R3, R4, TY, reduceIte, Nat.reduceEqDiff, Nat.reduceAdd, Nat.reduceMul, Nat.reduceLT, Nat.reduceLeDiff, reduceCtorEq, decide_true, decide_false, Int.reduceLE, Int.reduceLT, Int.reduceToNat, Int.reduceAdd, Int.reduceSub, Int.reduceMul, Int.reduceEq, q0, q3, d1, d2, d3, w1, hz1, u8_n]
    have hbyte : Value.int .u8 ((m % 256 : Nat) : Int) = .int .u8 (((UInt8.ofNat (m % 256)).toNat : Nat) : Int) := by rw [ofNat_toNat8 (Nat.mod_lt _ (by omega))]
    rw [hbyte]
    have hmne : m ≠ 0 := by omega
    have hlen : out.length < 8 := by rw [nl_pos hmne] at hol; simp at hol; omega
    refine apn_of (lo := A.next) (sz := 1) (css := out.map lc) (new := [lc (UInt8.ofNat (m % 256))]) ty158 rfl ty5 ty158 rfl rfl (by omega) rfl (hac.xt ((Xt.refl B).push _)) hfl (by rw [Hp.push_next]; have := hx.next; omega) ⟨by simp [lc], .inr (.inr ⟨_, _, _, 0, _, rfl, rfl, rfl, by rw [Hp.push_blk, if_pos rfl], fun j x hj => by simpa [lc] using hj⟩)⟩ (by simp [lc]; rfl) (by simp; omega) (by simp; omega) ?_
    intro so' D hau hxt hn' hf hsome hid
    simp only [↓R1, R2, R3, R4, TY, reduceIte, Nat.reduceEqDiff, Nat.reduceAdd, Nat.reduceMul, Nat.reduceLT, Nat.reduceLeDiff, reduceCtorEq, decide_true, decide_false, Int.reduceLE, Int.reduceLT, Int.reduceToNat, Int.reduceAdd, Int.reduceSub, Int.reduceMul, Int.reduceEq, q0, q3, d1, w1]
    refine loop_on ⟨m / 256, out ++ [UInt8.ofNat (m % 256)], so', ⟨fun id hid => by rw [hxt.blk id hid, Hp.push_blk, if_neg (by have := hx.next; omega)]; exact hx.blk id hid, hxt.next⟩, by simpa using hau, ?_, by omega, rfl, rfl⟩ ?_
    · rw [List.append_assoc, List.singleton_append, ← nl_pos hmne, hout]
    · simp only [upd, if_true, q0, Int.toNat_natCast]; omega
  · obtain rfl : m = 0 := by omega
    rw [nl_zero, List.append_nil] at hout
    rcases hac.at_ with ⟨h1, h2⟩ | ⟨id, g, k, c, h1, hnc, hid, hidn, hblk, hk⟩
    · subst h1
      rw [List.map_eq_nil_iff] at h2
      subst h2
      have hnb : nb n = [] := by have := congrArg List.reverse hout; rw [nl, List.reverse_reverse] at this; exact this.symm
      refine call_of reverse_nil ?_
      simp only [↓R1, R2, R3, R4, TY, reduceIte, Nat.reduceEqDiff, Nat.reduceAdd, Nat.reduceMul, Nat.reduceLT, Nat.reduceLeDiff, reduceCtorEq, decide_true, decide_false, Int.reduceLE, Int.reduceLT, Int.reduceToNat, Int.reduceAdd, Int.reduceSub, Int.reduceMul, Int.reduceEq, q3]
      unfold cnv
      refine .inr (.inr (.inr ⟨5, _, rfl, rfl, ty5, rfl, .inl ⟨0, 0, rfl, ?_⟩⟩))
      simp only [↓R1, R2, R3, R4, TY, reduceIte, Nat.reduceEqDiff, Nat.reduceAdd, Nat.reduceMul, Nat.reduceLT, Nat.reduceLeDiff, reduceCtorEq, decide_true, decide_false, Int.reduceLE, Int.reduceLT, Int.reduceToNat, Int.reduceAdd, Int.reduceSub, Int.reduceMul, Int.reduceEq]
      exact Ended.back hA hx (by rw [hnb]; rfl) (RB.string _)
    · subst h1
      rw [lc_flat] at hblk
      rw [List.length_map] at hk
      subst hk
      refine call_of (reverse_ok (by omega) hidn hblk (by omega)) ?_
      have hrev : out.reverse = nb n := by rw [hout, nl, List.reverse_reverse]
      rw [hrev]
      generalize hD : Hp.put _ _ _ = D
      have hDb : D.blk id = some (.row (bl (nb n)) g 1) := by rw [← hD]; simp [Hp.put_blk]
      have hDx : Xt A.next A D := by rw [← hD]; exact hx.put hid _
      simp only [↓R1, R2, R3, R4, TY, reduceIte, Nat.reduceEqDiff, Nat.reduceAdd, Nat.reduceMul, Nat.reduceLT, Nat.reduceLeDiff, reduceCtorEq, decide_true, decide_false, Int.reduceLE, Int.reduceLT, Int.reduceToNat, Int.reduceAdd, Int.reduceSub, Int.reduceMul, Int.reduceEq, q3]
      refine cnv_of (nb n) ty5 rfl rfl (by simp) (by rw [← hrev, List.length_reverse]) (fun j u hj => ?_) ?_
      · simp only [Hp.get, aadd, hDb, Nat.zero_add, if_true]
        simp [bl, hj]
      simp only [↓R1, R2, R3, R4, TY, reduceIte, Nat.reduceEqDiff, Nat.reduceAdd, Nat.reduceMul, Nat.reduceLT, Nat.reduceLeDiff, reduceCtorEq, decide_true, decide_false, Int.reduceLE, Int.reduceLT, Int.reduceToNat, Int.reduceAdd, Int.reduceSub, Int.reduceMul, Int.reduceEq]
      exact Ended.back hA hDx rfl (RB.string _)

theorem mof_ok {n : Int} {d : Nat} (hd : 0 < d) (hd2 : d ≤ 1000) (h1 : -1000000 ≤ n) (h2 : n ≤ 1000000) : Sound Tryz.prog G 110 [.int .i64 n, .int .i64 (d : Nat)] fl A (ratV (mkRat n d)) A := by
  refine Sound.of mixed Tryz.func110 Tryz.ntmps110 Tryz.results110 (by kernel_rfl) rfl (by kernel_rfl) (by simp) fun hA => ?_
  have w1 : IntKind.i64.wrap (0 - n) = -n := by rw [wrapI (by omega)]; omega
  have w2 : (if -n > n then -n else n) = ((n.natAbs : Nat) : Int) := by split <;> omega
  have hfl : fl ≤ A.next := hA.floor
  simp only [↓R1, R2, R3, R4, TY, reduceIte, Nat.reduceEqDiff, Nat.reduceAdd, Nat.reduceMul, Nat.reduceLT, Nat.reduceLeDiff, reduceCtorEq, decide_true, decide_false, Int.reduceLE, Int.reduceLT, Int.reduceToNat, Int.reduceAdd, Int.reduceSub, Int.reduceMul, Int.reduceEq, w1, w2]
  refine loop_of (fun τ B => B = A.push (.row [.bool false, .string (S []), .string (S [])] 0 3) ∧ ∃ x y : Nat, x ≤ 1000000 ∧ y ≤ 1000000 ∧ Nat.gcd x y = Nat.gcd n.natAbs d ∧ τ 0 = some (.int .i64 n) ∧ τ 1 = some (.int .i64 (d : Nat)) ∧ τ 4 = some (.pointer (some ⟨A.next, 0, some 0⟩)) ∧ τ 5 = some (.int .i64 (x : Nat)) ∧ τ 6 = some (.int .i64 (y : Nat))) (fun τ _ => match τ 6 with | some (.int _ y) => y.toNat | _ => 0) ⟨rfl, n.natAbs, d, by omega, by omega, rfl, rfl, rfl, rfl, rfl, rfl⟩ ?_
  rintro τ B ⟨rfl, x, y, hx, hy, hg, q0, q1, q4, q5, q6⟩
  have hpos : ((0 : Int) < ((y : Nat) : Int)) = (0 < y) := propext (by omega)
  simp only [↓R1, R2, R3, R4, TY, reduceIte, Nat.reduceEqDiff, Nat.reduceAdd, Nat.reduceMul, Nat.reduceLT, Nat.reduceLeDiff, reduceCtorEq, decide_true, decide_false, Int.reduceLE, Int.reduceLT, Int.reduceToNat, Int.reduceAdd, Int.reduceSub, Int.reduceMul, Int.reduceEq, q0, q1, q4, q5, q6, hpos]
  refine ⟨fun h => ?_, fun h => ?_⟩
  · have hne : ¬ ((y : Nat) : Int) = 0 := by omega
    have hlt : x % y < y := Nat.mod_lt _ h
    have w3 : IntKind.i64.wrap ((x % y : Nat) : Int) = ((x % y : Nat) : Int) := wrapI (by omega)
    simp only [↓R1, R2, R3, R4, TY, reduceIte, Nat.reduceEqDiff, Nat.reduceAdd, Nat.reduceMul, Nat.reduceLT, Nat.reduceLeDiff, reduceCtorEq, decide_true, decide_false, Int.reduceLE, Int.reduceLT, Int.reduceToNat, Int.reduceAdd, Int.reduceSub, Int.reduceMul, Int.reduceEq, q0, q1, q4, q5, q6, hpos, hne, ne_eq, not_false_eq_true, mod_n, w3]
    refine loop_on ⟨rfl, y, x % y, hy, by omega, ?_, q0, q1, q4, rfl, rfl⟩ ?_
    · rw [← hg, Nat.gcd_comm x y, Nat.gcd_rec y x, Nat.gcd_comm]
    · simp only [upd, if_true, q6, Int.toNat_natCast]; exact hlt
  · have : y = 0 := by omega
    subst this
    rw [Nat.gcd_zero_right] at hg
    have hg0 : Nat.gcd n.natAbs d ≠ 0 := fun e => by have := Nat.eq_zero_of_gcd_eq_zero_right e; omega
    subst hg
    have hnum : (mkRat n d).num = n.tdiv (Nat.gcd n.natAbs d : Nat) := by
      conv => lhs; rw [← sgn_num n]
      rw [mk_num (by omega), tdiv_gcd]
    have hden : ((d : Nat) : Int).tdiv (Nat.gcd n.natAbs d : Nat) = (((mkRat n d).den : Nat) : Int) := by
      rw [div_n]
      conv => rhs; rw [← sgn_num n]
      rw [mk_den (by omega)]
    have hsz : Sz (mkRat n d) 1000000 := Sz.mk (by omega) (by omega) (by omega)
    have hxne : ¬ ((Nat.gcd n.natAbs d : Nat) : Int) = 0 := by omega
    have hrb := ratV_rb A.next (mkRat n d)
    rw [ratV] at hrb ⊢
    rw [← hnum] at *
    obtain ⟨z1, z2⟩ := hsz
    generalize mkRat n d = Q at *
    have w3 : IntKind.i64.wrap Q.num = Q.num := wrapI (by omega)
    have w4 : IntKind.i64.wrap ((Q.den : Nat) : Int) = ((Q.den : Nat) : Int) := wrapI (by omega)
    have w5 : IntKind.i64.wrap (0 - Q.num) = -Q.num := by rw [wrapI (by omega)]; omega
    have w6 : (if -Q.num > Q.num then -Q.num else Q.num) = ((Q.num.natAbs : Nat) : Int) := by split <;> omega
    have hnum' := hnum.symm
    simp only [↓R1, R2, R3, R4, TY, reduceIte, Nat.reduceEqDiff, Nat.reduceAdd, Nat.reduceMul, Nat.reduceLT, Nat.reduceLeDiff, reduceCtorEq, decide_true, decide_false, Int.reduceLE, Int.reduceLT, Int.reduceToNat, Int.reduceAdd, Int.reduceSub, Int.reduceMul, Int.reduceEq, q0, q1, q4, q5, q6, hxne, ne_eq, not_false_eq_true, hnum', hden, w3, w4, w5, w6]
    refine call_of (digits_ok (by omega)) ?_
    simp only [↓R1, R2, R3, R4, TY, reduceIte, Nat.reduceEqDiff, Nat.reduceAdd, Nat.reduceMul, Nat.reduceLT, Nat.reduceLeDiff, reduceCtorEq, decide_true, decide_false, Int.reduceLE, Int.reduceLT, Int.reduceToNat, Int.reduceAdd, Int.reduceSub, Int.reduceMul, Int.reduceEq, q0, q1, q4, q5, q6, hnum', hden, w3, w4]
    refine call_of (digits_ok (by omega)) ?_
    simp only [↓R1, R2, R3, R4, TY, reduceIte, Nat.reduceEqDiff, Nat.reduceAdd, Nat.reduceMul, Nat.reduceLT, Nat.reduceLeDiff, reduceCtorEq, decide_true, decide_false, Int.reduceLE, Int.reduceLT, Int.reduceToNat, Int.reduceAdd, Int.reduceSub, Int.reduceMul, Int.reduceEq, q4, hfl]
    exact Ended.back hA (by simp (maxDischargeDepth := 20) only [xt_push, xt_put, xt_refl, Nat.le_refl]) rfl hrb
end
end Go.Proofs.YthclikeipdplpaaGreatDoor.Ab

/- Rational numbers: small ones by their number; the fact about package rat. -/
namespace Go.Proofs.YthclikeipdplpaaGreatDoor.Ab
open Go.RowKit
set_option linter.unusedVariables false
set_option linter.unusedSimpArgs false
set_option maxRecDepth 100000

theorem ratV_def (q : Rat) : ratV q = .agg #[.bool (decide (q.num < 0)), .string (S (nb q.num.natAbs)), .string (S (nb q.den))] := rfl
theorem dec_len' {n : Nat} (h : n ≠ 0) : (dec n).length = (dl n).length := by rw [dec, if_neg h, List.length_reverse]

section
variable {G : Gl} {fl : Nat} {A : Hp}

theorem mrat_ok {x : Int} (h1 : -9223372036854775808 ≤ x) (h2 : x ≤ 9223372036854775807) : Sound Tryz.prog G 78 [.int .i64 x] fl A (ratV (mrat x)) A := by
  refine Sound.of mixed Tryz.func78 Tryz.ntmps78 Tryz.results78 (by kernel_rfl) rfl (by kernel_rfl) (by simp) fun hA => ?_
  have hfl : fl ≤ A.next := hA.floor
  have hz6 : zl [.int .i64 0] 6 = [.int .i64 0, .int .i64 0, .int .i64 0, .int .i64 0, .int .i64 0, .int .i64 0] := rfl
  simp only [↓R1, R2, R3, R4, TY, reduceIte, Nat.reduceEqDiff, Nat.reduceAdd, Nat.reduceMul, Nat.reduceLT, Nat.reduceLeDiff, reduceCtorEq, decide_true, decide_false, Int.reduceLE, Int.reduceLT, Int.reduceToNat, Int.reduceAdd, Int.reduceSub, Int.reduceMul, Int.reduceEq, hz6]
  refine call_of (below_ok (by omega) (by omega) h1 h2) ?_
  have hb := below_range (x := x) (n := 6) (by omega)
  obtain ⟨b, hbe⟩ : ∃ b : Nat, below x 6 = (b : Int) := ⟨(below x 6).toNat, by omega⟩
  have hb6 : b < 6 := by omega
  have hmd : mden x = ([1, 2, 3, 4, 5, 8] : List Int).getD b 0 := by rw [mden, hbe]; rfl
  have hrow : ([Value.int .i64 1, .int .i64 2, .int .i64 3, .int .i64 4, .int .i64 5, .int .i64 8] : List Value)[b]? = some (.int .i64 (mden x)) := by
    rw [hmd]
    match b, hb6 with
    | 0, _ => rfl
    | 1, _ => rfl
    | 2, _ => rfl
    | 3, _ => rfl
    | 4, _ => rfl
    | 5, _ => rfl
  have c0 : ((0 : Int) ≤ (b : Int)) = True := eq_true (by omega)
  have c6 : ((b : Int) < 6) = True := eq_true (by omega)
  have c6' : (b < 6) = True := eq_true hb6
  have hdr := mden_range x
  have hnr := mnum_range x
  rw [hbe]
  have q1 : -1537228672809129302 ≤ x.tdiv 6 ∧ x.tdiv 6 ≤ 1537228672809129302 := by
    have := Int.mul_tdiv_add_tmod x 6
    have h3 := Int.tmod_lt_of_pos x (show (0 : Int) < 6 by omega)
    have h4 := Int.lt_tmod_of_pos x (show (0 : Int) < 6 by omega)
    omega
  have w1 : IntKind.i64.wrap (x.tdiv 6) = x.tdiv 6 := wrapI (by omega)
  have w2 : IntKind.i64.wrap (16 * mden x) = 16 * mden x := wrapI (by omega)
  have w3 : IntKind.i64.wrap (16 * mden x + 1) = 16 * mden x + 1 := wrapI (by omega)
  have w4 : IntKind.i64.wrap (8 * mden x) = 8 * mden x := wrapI (by omega)
  have h6 : ((6 : Int) ≠ 0) = True := eq_true (by omega)
  simp only [↓R1, R2, R3, R4, TY, reduceIte, Nat.reduceEqDiff, Nat.reduceAdd, Nat.reduceMul, Nat.reduceLT, Nat.reduceLeDiff, reduceCtorEq, decide_true, decide_false, Int.reduceLE, Int.reduceLT, Int.reduceToNat, Int.reduceAdd, Int.reduceSub, Int.reduceMul, Int.reduceEq, c0, c6, c6', hrow, w1, w2, w3, h6, Hp.get, Hp.push_blk]
  refine call_of (below_ok (by omega) (by omega) (by omega) (by omega)) ?_
  have w5 : IntKind.i64.wrap (below (x.tdiv 6) (16 * mden x + 1) - 8 * mden x) = mnum x := by rw [wrapI (by unfold mnum at hnr; omega)]; rfl
  obtain ⟨d, hde⟩ : ∃ d : Nat, mden x = (d : Int) := ⟨(mden x).toNat, by omega⟩
  simp only [↓R1, R2, R3, R4, TY, reduceIte, Nat.reduceEqDiff, Nat.reduceAdd, Nat.reduceMul, Nat.reduceLT, Nat.reduceLeDiff, reduceCtorEq, decide_true, decide_false, Int.reduceLE, Int.reduceLT, Int.reduceToNat, Int.reduceAdd, Int.reduceSub, Int.reduceMul, Int.reduceEq, w4, w5]
  have hm := fun A => mof_ok (G := G) (fl := fl) (A := A) (n := mnum x) (d := (mden x).toNat) (by omega) (by omega) (by omega) (by omega)
  rw [show (((mden x).toNat : Nat) : Int) = mden x by omega] at hm
  have hrb := ratV_rb A.next (mrat x)
  refine call_of (hm _) ?_
  have e : mkRat (mnum x) (mden x).toNat = mrat x := rfl
  rw [e]
  rw [ratV] at hrb ⊢
  simp only [↓R1, R2, R3, R4, TY, reduceIte, Nat.reduceEqDiff, Nat.reduceAdd, Nat.reduceMul, Nat.reduceLT, Nat.reduceLeDiff, reduceCtorEq, decide_true, decide_false, Int.reduceLE, Int.reduceLT, Int.reduceToNat, Int.reduceAdd, Int.reduceSub, Int.reduceMul, Int.reduceEq, hfl, NE]
  exact Ended.back hA ((((Xt.refl A).push _).push _).put (Nat.le_refl _) _) rfl hrb

theorem rmake_ok {m n : Int} (h1 : -1000000 ≤ m) (h2 : m ≤ 1000000) (h3 : -1000000 ≤ n) (h4 : n ≤ 1000000) (h0 : n ≠ 0) : Sound Tryz.prog G 50 [.int .i64 m, .int .i64 n] fl A (.tuple [ratV (rOf m / rOf n), Value.int .i64 0].toArray) A := by
  refine Sound.of mixed Tryz.func50 Tryz.ntmps50 Tryz.results50 (by kernel_rfl) rfl (by kernel_rfl) (by simp) fun hA => ?_
  have hfl : fl ≤ A.next := hA.floor
  have hrb := ratV_rb A.next (rOf m / rOf n)
  simp only [↓R1, R2, R3, R4, TY, reduceIte, Nat.reduceEqDiff, Nat.reduceAdd, Nat.reduceMul, Nat.reduceLT, Nat.reduceLeDiff, reduceCtorEq, decide_true, decide_false, Int.reduceLE, Int.reduceLT, Int.reduceToNat, Int.reduceAdd, Int.reduceSub, Int.reduceMul, Int.reduceEq]
  refine call_of (rof_ok (by omega) (by omega)) ?_
  simp only [↓R1, R2, R3, R4, TY, reduceIte, Nat.reduceEqDiff, Nat.reduceAdd, Nat.reduceMul, Nat.reduceLT, Nat.reduceLeDiff, reduceCtorEq, decide_true, decide_false, Int.reduceLE, Int.reduceLT, Int.reduceToNat, Int.reduceAdd, Int.reduceSub, Int.reduceMul, Int.reduceEq]
  refine call_of (rof_ok (by omega) (by omega)) ?_
  simp only [↓R1, R2, R3, R4, TY, reduceIte, Nat.reduceEqDiff, Nat.reduceAdd, Nat.reduceMul, Nat.reduceLT, Nat.reduceLeDiff, reduceCtorEq, decide_true, decide_false, Int.reduceLE, Int.reduceLT, Int.reduceToNat, Int.reduceAdd, Int.reduceSub, Int.reduceMul, Int.reduceEq]
  refine call_of (rdiv_ok (sz_of (k := 1000000) (by omega) (by omega)) (sz_of (k := 1000000) (by omega) (by omega)) (by omega) (by rw [rOf_num]; exact h0)) ?_
  rw [ratV_def (rOf m / rOf n)] at hrb ⊢
  simp only [↓R1, R2, R3, R4, TY, reduceIte, Nat.reduceEqDiff, Nat.reduceAdd, Nat.reduceMul, Nat.reduceLT, Nat.reduceLeDiff, reduceCtorEq, decide_true, decide_false, Int.reduceLE, Int.reduceLT, Int.reduceToNat, Int.reduceAdd, Int.reduceSub, Int.reduceMul, Int.reduceEq, hfl]
  refine Ended.back hA (((Xt.refl A).push _).put (Nat.le_refl _) _) rfl (RB.tuple fun w hw => ?_)
  simp only [List.mem_cons, List.not_mem_nil, or_false] at hw
  rcases hw with rfl | rfl
  · exact hrb
  · exact RB.int _ _

theorem rtext_ok {q : Rat} {k : Nat} (hq : Sz q k) (hb : k < 18446744073709551616) : Sound Tryz.prog G 148 [ratV q] fl A (.string (S (rtext q))) A := by
  refine Sound.of mixed Tryz.func148 Tryz.ntmps148 Tryz.results148 (by kernel_rfl) rfl (by kernel_rfl) (by simp) fun hA => ?_
  have hfl : fl ≤ A.next := hA.floor
  have fq := fun fl A => fit_ok (G := G) (fl := fl) (A := A) (q := q) (by have := hq.1; omega) (by have := hq.2; omega)
  have l1 : (nb q.num.natAbs).length ≤ 8 := nb8.2 (by have := hq.1; omega)
  have l2 : (nb q.den).length ≤ 8 := nb8.2 (by have := hq.2; omega)
  have hone : (nb q.den = [1]) = (q.den = 1) := by rw [← nb_one]; exact propext ⟨nb_inj, fun h => by rw [h]⟩
  have t1 : (dec q.num.natAbs).length ≤ 24 := by
    by_cases h : q.num.natAbs = 0
    · rw [h]; decide
    · rw [dec_len' h]; have := nb_dec_len l1; omega
  have t2 : (dec q.den).length ≤ 24 := by rw [dec_len' (rat_den_pos q)]; have := nb_dec_len l2; omega
  rw [ratV] at fq ⊢
  simp only [↓R1, R2, R3, R4, TY, reduceIte, Nat.reduceEqDiff, Nat.reduceAdd, Nat.reduceMul, Nat.reduceLT, Nat.reduceLeDiff, reduceCtorEq, decide_true, decide_false, Int.reduceLE, Int.reduceLT, Int.reduceToNat, Int.reduceAdd, Int.reduceSub, Int.reduceMul, Int.reduceEq, hfl]
  refine call_of (fq _ _) ?_
  simp only [↓R1, R2, R3, R4, TY, reduceIte, Nat.reduceEqDiff, Nat.reduceAdd, Nat.reduceMul, Nat.reduceLT, Nat.reduceLeDiff, reduceCtorEq, decide_true, decide_false, Int.reduceLE, Int.reduceLT, Int.reduceToNat, Int.reduceAdd, Int.reduceSub, Int.reduceMul, Int.reduceEq, hfl]
  refine call_of (textN (by omega)) ?_
  have fin : ∀ (x : List UInt8), x = rtext q → Ended A (.string (S x)) ((A.push (.row [.bool (decide (q.num < 0)), .string (S (nb q.num.natAbs)), .string (S (nb q.den))] 0 3)).put A.next (.row [.bool (decide (q.num < 0)), .string (S (nb q.num.natAbs)), .string (S (nb q.den))] 0 3)) (.string (S (rtext q))) A := by
    rintro x rfl
    exact Ended.back hA (((Xt.refl A).push _).put (Nat.le_refl _) _) rfl (RB.string _)
  have s1 : 1 + (dec q.num.natAbs).length ≤ 9223372036854775807 := by omega
  have s2 : 1 + (dec q.den).length ≤ 9223372036854775807 := by omega
  have s3 : (dec q.num.natAbs).length + ((dec q.den).length + 1) ≤ 9223372036854775807 := by omega
  have s4 : (dec q.num.natAbs).length + 1 + ((dec q.den).length + 1) ≤ 9223372036854775807 := by omega
  simp only [↓R1, R2, R3, R4, TY, reduceIte, Nat.reduceEqDiff, Nat.reduceAdd, Nat.reduceMul, Nat.reduceLT, Nat.reduceLeDiff, reduceCtorEq, decide_true, decide_false, Int.reduceLE, Int.reduceLT, Int.reduceToNat, Int.reduceAdd, Int.reduceSub, Int.reduceMul, Int.reduceEq, S_inj, hone, S_append, S_size, List.length_cons, List.length_nil, List.length_append, List.cons_append, List.nil_append, List.append_assoc, Nat.zero_add, s1, s2, s3, s4]
  refine ⟨fun hn => ⟨fun hd => fin _ (by rw [rtext, if_pos hn, if_pos hd]; simp), fun hd => ?_⟩, fun hn => ⟨fun hd => fin _ (by rw [rtext, if_neg hn, if_pos hd]; simp), fun hd => ?_⟩⟩
  · refine call_of (textN (by omega)) ?_
    simp only [↓R1, R2, R3, R4, TY, reduceIte, Nat.reduceEqDiff, Nat.reduceAdd, Nat.reduceMul, Nat.reduceLT, Nat.reduceLeDiff, reduceCtorEq, decide_true, decide_false, Int.reduceLE, Int.reduceLT, Int.reduceToNat, Int.reduceAdd, Int.reduceSub, Int.reduceMul, Int.reduceEq, S_inj, hone, S_append, S_size, List.length_cons, List.length_nil, List.length_append, List.cons_append, List.nil_append, List.append_assoc, Nat.zero_add, s1, s2, s3, s4]
    exact fin _ (by rw [rtext, if_pos hn, if_neg hd]; simp)
  · refine call_of (textN (by omega)) ?_
    simp only [↓R1, R2, R3, R4, TY, reduceIte, Nat.reduceEqDiff, Nat.reduceAdd, Nat.reduceMul, Nat.reduceLT, Nat.reduceLeDiff, reduceCtorEq, decide_true, decide_false, Int.reduceLE, Int.reduceLT, Int.reduceToNat, Int.reduceAdd, Int.reduceSub, Int.reduceMul, Int.reduceEq, S_inj, hone, S_append, S_size, List.length_cons, List.length_nil, List.length_append, List.cons_append, List.nil_append, List.append_assoc, Nat.zero_add, s1, s2, s3, s4]
    exact fin _ (by rw [rtext, if_neg hn, if_neg hd]; simp)

theorem ratBegun_ok : Sound Tryz.prog G 118 [] fl A (.bool true) A := by
  refine Sound.of mixed Tryz.func118 Tryz.ntmps118 Tryz.results118 (by kernel_rfl) rfl (by kernel_rfl) (by simp) fun hA => ?_
  have hfl : fl ≤ A.next := hA.floor
  have hQ : rOf 2 / rOf (-4) = mkRat (-1) 2 := by decide +kernel
  have hn : (mkRat (-1) 2).num = -1 := by decide +kernel
  have hd : (mkRat (-1) 2).den = 2 := by decide +kernel
  have ht : rtext (mkRat (-1) 2) = [45, 49, 47, 50] := by
    have d1 : dec 1 = [49] := by rw [dec, if_neg (by omega), dl_pos (by omega), show 1 / 10 = 0 from rfl, dl_zero]; rfl
    have d2 : dec 2 = [50] := by rw [dec, if_neg (by omega), dl_pos (by omega), show 2 / 10 = 0 from rfl, dl_zero]; rfl
    rw [rtext, hn, hd, if_pos (by omega), if_neg (by omega), show ((-1 : Int).natAbs) = 1 from rfl, d1, d2]; rfl
  have hsz : Sz (mkRat (-1) 2) 2 := ⟨by rw [hn]; decide, by rw [hd]; omega⟩
  have htx := fun fl A => rtext_ok (G := G) (fl := fl) (A := A) hsz (by omega)
  have hgd := fun fl A => good_ok (G := G) (fl := fl) (A := A) (q := mkRat (-1) 2) (by rw [hn]; decide) (by rw [hd]; omega)
  simp only [↓R1, R2, R3, R4, TY, reduceIte, Nat.reduceEqDiff, Nat.reduceAdd, Nat.reduceMul, Nat.reduceLT, Nat.reduceLeDiff, reduceCtorEq, decide_true, decide_false, Int.reduceLE, Int.reduceLT, Int.reduceToNat, Int.reduceAdd, Int.reduceSub, Int.reduceMul, Int.reduceEq]
  refine call_of (rmake_ok (by omega) (by omega) (by omega) (by omega) (by omega)) ?_
  rw [hQ]
  rw [ht] at htx
  rw [ratV_def] at htx hgd ⊢
  simp only [↓R1, R2, R3, R4, TY, reduceIte, Nat.reduceEqDiff, Nat.reduceAdd, Nat.reduceMul, Nat.reduceLT, Nat.reduceLeDiff, reduceCtorEq, decide_true, decide_false, Int.reduceLE, Int.reduceLT, Int.reduceToNat, Int.reduceAdd, Int.reduceSub, Int.reduceMul, Int.reduceEq, hfl, append_eq, List.cons_append, List.nil_append]
  refine call_of (htx _ _) ?_
  simp only [↓R1, R2, R3, R4, TY, reduceIte, Nat.reduceEqDiff, Nat.reduceAdd, Nat.reduceMul, Nat.reduceLT, Nat.reduceLeDiff, reduceCtorEq, decide_true, decide_false, Int.reduceLE, Int.reduceLT, Int.reduceToNat, Int.reduceAdd, Int.reduceSub, Int.reduceMul, Int.reduceEq, hfl, append_eq, List.cons_append, List.nil_append]
  refine call_of (hgd _ _) ?_
  simp only [↓R1, R2, R3, R4, TY, reduceIte, Nat.reduceEqDiff, Nat.reduceAdd, Nat.reduceMul, Nat.reduceLT, Nat.reduceLeDiff, reduceCtorEq, decide_true, decide_false, Int.reduceLE, Int.reduceLT, Int.reduceToNat, Int.reduceAdd, Int.reduceSub, Int.reduceMul, Int.reduceEq, hfl, append_eq, List.cons_append, List.nil_append]
  exact Ended.back hA (((Xt.refl A).push _).put (Nat.le_refl _) _) rfl (RB.bool _)
end
end Go.Proofs.YthclikeipdplpaaGreatDoor.Ab
