/- Rational numbers: quotients of whole ones, texts; small ones made. -/
import Derived.Test.YtpaffoiiipgkeaaDoorRf
import Derived.Test.YtpaffoiiipgkeaaDoorNj
namespace Go.Proofs.YtpaffoiiipgkeaaDoor.Ab
open Go.RowKit
set_option linter.unusedVariables false
set_option linter.unusedSimpArgs false
set_option maxRecDepth 100000

/-- A number from 0 on below another. -/
def below (x n : Int) : Int := if x.tmod n < 0 then x.tmod n + n else x.tmod n
theorem below_range {x n : Int} (h : 0 < n) : 0 ≤ below x n ∧ below x n < n := by
  have h1 := Int.tmod_lt_of_pos x h
  have h2 : -n < x.tmod n := Int.neg_lt_of_neg_lt (by have := Int.lt_tmod_of_pos x h; omega)
  unfold below; split <;> omega
def mden (x : Int) : Int := ([1, 2, 3, 4, 5, 8] : List Int).getD (below x 6).toNat 0
def mnum (x : Int) : Int := below (x.tdiv 6) (16 * mden x + 1) - 8 * mden x
/-- A small number. -/
def mrat (x : Int) : Rat := mkRat (mnum x) (mden x).toNat
theorem mden_range (x : Int) : 1 ≤ mden x ∧ mden x ≤ 8 := by
  have := below_range (x := x) (n := 6) (by omega)
  unfold mden
  generalize below x 6 = b at this
  have hb : b = 0 ∨ b = 1 ∨ b = 2 ∨ b = 3 ∨ b = 4 ∨ b = 5 := by omega
  rcases hb with rfl | rfl | rfl | rfl | rfl | rfl <;> decide
theorem mnum_range (x : Int) : -64 ≤ mnum x ∧ mnum x ≤ 64 := by
  have h := mden_range x
  have := below_range (x := x.tdiv 6) (n := 16 * mden x + 1) (by omega)
  unfold mnum; omega
theorem mrat_sz (x : Int) : Sz (mrat x) 64 := by
  have h1 := mden_range x
  have h2 := mnum_range x
  exact Sz.mk (by omega) (by omega) (by omega)

section
variable {G : Gl} {fl : Nat} {A : Hp}

theorem below_ok {x n : Int} (h : 0 < n) (hn : n ≤ 1000) (h1 : -9223372036854775808 ≤ x) (h2 : x ≤ 9223372036854775807) : Sound Tryd.prog G 36 [.int .i64 x, .int .i64 n] fl A (.int .i64 (below x n)) A := by
  refine Sound.of mixed Tryd.func36 Tryd.ntmps36 Tryd.results36 (by kernel_rfl) rfl (by kernel_rfl) (by simp) fun hA => ?_
  have hne : (n ≠ 0) = True := eq_true (by omega)
  have hne2 : (n = 0) = False := eq_false (by omega)
  have b1 := Int.tmod_lt_of_pos x h
  have b2 := Int.lt_tmod_of_pos x h
  simp only [↓R1, R2, R3, R4, TY, reduceIte, Nat.reduceEqDiff, Nat.reduceAdd, Nat.reduceMul, Nat.reduceLT, Nat.reduceLeDiff, reduceCtorEq, decide_true, decide_false, Int.reduceLE, Int.reduceLT, Int.reduceToNat, Int.reduceAdd, Int.reduceSub, Int.reduceMul, Int.reduceEq, hne, hne2, ne_eq, not_false_eq_true]
  refine ⟨fun hlt => ?_, fun hlt => ?_⟩
  · have w1 : IntKind.i64.wrap (x.tmod n + n) = x.tmod n + n := wrapI (by omega)
    simp only [↓R1, R2, R3, R4, TY, reduceIte, Nat.reduceEqDiff, Nat.reduceAdd, Nat.reduceMul, Nat.reduceLT, Nat.reduceLeDiff, reduceCtorEq, decide_true, decide_false, Int.reduceLE, Int.reduceLT, Int.reduceToNat, Int.reduceAdd, Int.reduceSub, Int.reduceMul, Int.reduceEq, w1]
    exact Ended.back hA (Xt.refl _) (by rw [below, if_pos hlt]) (RB.int _ _)
  · exact Ended.back hA (Xt.refl _) (by rw [below, if_neg hlt]) (RB.int _ _)

theorem reverse_ok {id g c : Nat} {l : List UInt8} (hid : fl ≤ id) (hidn : id < A.next) (hb : A.blk id = some (.row (bl l) g 1)) (hl : l.length ≤ 1000000) :
    Sound Tryd.prog G 94 [.slice (some ⟨id, 0, some g⟩) l.length c] fl A (.tuple #[]) (A.put id (.row (bl l.reverse) g 1)) := by
  refine Sound.of mixed Tryd.func94 Tryd.ntmps94 Tryd.results94 (by kernel_rfl) rfl (by kernel_rfl) (by simp) fun hA => ?_
  have w0 : IntKind.i64.wrap ((l.length : Int) - 1) = (l.length : Int) - 1 := wrapI (by omega)
  simp only [↓R1, R2, R3, R4, TY, reduceIte, Nat.reduceEqDiff, Nat.reduceAdd, Nat.reduceMul, Nat.reduceLT, Nat.reduceLeDiff, reduceCtorEq, decide_true, decide_false, Int.reduceLE, Int.reduceLT, Int.reduceToNat, Int.reduceAdd, Int.reduceSub, Int.reduceMul, Int.reduceEq, w0]
  refine loop_of (fun τ C => ∃ i : Nat, C.next = A.next ∧ (∀ q, q ≠ id → C.blk q = A.blk q) ∧ C.blk id = some (.row (bl (rv l i)) g 1) ∧ i ≤ l.length ∧ τ 0 = some (.slice (some ⟨id, 0, some g⟩) l.length c) ∧ τ 2 = some (.int .i64 i) ∧ τ 3 = some (.int .i64 ((l.length : Int) - 1 - i))) (fun τ _ => match τ 2 with | some (.int _ x) => (l.length - x).toNat | _ => 0) ?_ ?_
  · exact ⟨0, rfl, fun _ _ => rfl, by rw [rv_zero]; exact hb, Nat.zero_le _, rfl, rfl, by simp [upd]⟩
  rintro τ' C ⟨i, hCn, hCo, hCb, hiL, r4, r7, r8⟩
  simp only [↓R1, R2, R3, R4, TY, reduceIte, Nat.reduceEqDiff, Nat.reduceAdd, Nat.reduceMul, Nat.reduceLT, Nat.reduceLeDiff, reduceCtorEq, decide_true, decide_false, Int.reduceLE, Int.reduceLT, Int.reduceToNat, Int.reduceAdd, Int.reduceSub, Int.reduceMul, Int.reduceEq, r4, r7, r8]
  refine ⟨fun hlt2 => ?_, fun hlt2 => ?_⟩
  · have e8 : ((l.length : Int) - 1 - (i : Int)) = ((l.length - 1 - i : Nat) : Int) := by omega
    rw [e8] at r8
    have hik : i < l.length - 1 - i := by omega
    have hk : l.length - 1 - i < l.length := by omega
    have hi : i < l.length := by omega
    have hblen : (bl (rv l i)).length = l.length := by rw [bl_length, rv_length]
    have hg1 : C.get G ⟨id, l.length - 1 - i, some g⟩ = some (.int .u8 ((l.getD (l.length - 1 - i) 0).toNat : Nat)) := by
      simp only [Hp.get, hCb, if_true]
      rw [bl_get (by rw [rv_length]; exact hk)]
      have := rv_get (i := i) hk
      rw [if_neg (by omega), List.getElem?_eq_getElem (by rw [rv_length]; exact hk)] at this
      rw [Option.some.inj this]
    have hg2 : C.get G ⟨id, i, some g⟩ = some (.int .u8 ((l.getD i 0).toNat : Nat)) := by
      simp only [Hp.get, hCb, if_true]
      rw [bl_get (by rw [rv_length]; exact hi)]
      have := rv_get (i := i) hi
      rw [if_neg (by omega), List.getElem?_eq_getElem (by rw [rv_length]; exact hi)] at this
      rw [Option.some.inj this]
    have w1 : IntKind.i64.wrap ((l.length - 1 - i : Nat) - 1 : Int) = ((l.length - 1 - i : Nat) : Int) - 1 := wrapI (by omega)
    have hi63 : i < 9223372036854775807 := by omega
    have hk1 : l.length - 1 - i + 1 ≤ l.length := by omega
    have hi1 : i + 1 ≤ l.length := by omega
    simp only [↓R1, R2, R3, R4, TY, reduceIte, Nat.reduceEqDiff, Nat.reduceAdd, Nat.reduceMul, Nat.reduceLT, Nat.reduceLeDiff, reduceCtorEq, decide_true, decide_false, Int.reduceLE, Int.reduceLT, Int.reduceToNat, Int.reduceAdd, Int.reduceSub, Int.reduceMul, Int.reduceEq, e8, r4, r7, r8, hk, hi, hg1, hg2, hCb, hblen, hk1, hi1, hid, w1, hi63, List.length_set]
    rw [floOf_wr (by kernel_rfl)]
    simp only [↓R1, R2, R3, R4, TY, reduceIte, Nat.reduceEqDiff, Nat.reduceAdd, Nat.reduceMul, Nat.reduceLT, Nat.reduceLeDiff, reduceCtorEq, decide_true, decide_false, Int.reduceLE, Int.reduceLT, Int.reduceToNat, Int.reduceAdd, Int.reduceSub, Int.reduceMul, Int.reduceEq, e8, r4, r7, r8, hk, hi, hg1, hg2, hCb, hblen, hk1, hi1, hid, w1, hi63, List.length_set]
    rw [floOf_wr (by kernel_rfl)]
    simp only [↓R1, R2, R3, R4, TY, reduceIte, Nat.reduceEqDiff, Nat.reduceAdd, Nat.reduceMul, Nat.reduceLT, Nat.reduceLeDiff, reduceCtorEq, decide_true, decide_false, Int.reduceLE, Int.reduceLT, Int.reduceToNat, Int.reduceAdd, Int.reduceSub, Int.reduceMul, Int.reduceEq, e8, r4, r7, r8, hk, hi, hg1, hg2, hCb, hblen, hk1, hi1, hid, w1, hi63, List.length_set]
    refine loop_on ⟨i + 1, hCn, fun q hq => by simp only [Hp.put_blk]; rw [if_neg hq, if_neg hq]; exact hCo q hq, ?_, by omega, r4, rfl, ?_⟩ ?_
    · simp only [Hp.put_blk, if_true]
      rw [bl_set, bl_set, rv_succ hik]
    · simp only [upd, if_true]
      congr 2; omega
    · simp only [upd, r7]
      simp; omega
  · rw [rv_end (by omega)] at hCb
    refine Ended.put hA hidn (fun i hi => ?_) rfl (RB.tuple (by simp)) (fun u hu => ?_)
    · rw [Hp.put_blk]
      split
      · rename_i h; rw [h]; exact hCb
      · rename_i h; exact hCo i h
    · simp only [bl, List.mem_map] at hu
      obtain ⟨b, _, rfl⟩ := hu
      exact RB.int _ _
end
end Go.Proofs.YtpaffoiiipgkeaaDoor.Ab
