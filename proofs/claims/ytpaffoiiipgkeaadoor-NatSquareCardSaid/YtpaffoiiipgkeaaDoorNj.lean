/- Numbers: their decimal notation. -/
import Derived.Test.YtpaffoiiipgkeaaDoorNi
namespace Go.Proofs.YtpaffoiiipgkeaaDoor.Ab
open Go.RowKit
set_option linter.unusedVariables false
set_option linter.unusedSimpArgs false
set_option maxRecDepth 100000

/-- A number's decimal digits, the least first, as letters. -/
def dl (n : Nat) : List UInt8 := if h : n = 0 then [] else UInt8.ofNat (48 + n % 10) :: dl (n / 10)
termination_by n
decreasing_by omega
theorem dl_zero : dl 0 = [] := by rw [dl]; simp
theorem dl_pos {n : Nat} (h : n ≠ 0) : dl n = UInt8.ofNat (48 + n % 10) :: dl (n / 10) := by rw [dl, dif_neg h]
/-- A number's decimal notation. -/
def dec (n : Nat) : List UInt8 := if n = 0 then [48] else (dl n).reverse
theorem dl_len {n k : Nat} (h : n < 10 ^ k) : (dl n).length ≤ k := by
  induction k generalizing n with
  | zero => rw [show n = 0 by omega, dl_zero]; simp
  | succ k ih =>
    by_cases h0 : n = 0
    · rw [h0, dl_zero]; simp
    · rw [dl_pos h0, List.length_cons]
      have := ih (n := n / 10) (by rw [Nat.pow_succ] at h; omega)
      omega
theorem nb_dec_len {n k : Nat} (h : (nb n).length ≤ k) : (dl n).length ≤ 3 * k := by
  refine dl_len (Nat.lt_of_lt_of_le (nb_len_le.1 h) ?_)
  rw [Nat.pow_mul]; exact Nat.pow_le_pow_left (by omega) _

/-- One step of the division of digits by 10. -/
theorem div_step {w r B q V : Nat} (hB : B = 4294967296) (h : q * 10 + r = V) : ((r * B + w) / 10 + B * q) * 10 + (r * B + w) % 10 = w + B * V := by
  have := Nat.div_add_mod (r * B + w) 10
  rw [Nat.add_mul, ← h, Nat.mul_add, Nat.mul_assoc, Nat.mul_comm r B]
  rw [Nat.mul_comm r B] at this
  omega
theorem wv_drop {l : List Nat} {j : Nat} (h : j < l.length) : wv (l.drop j) = l[j] + 4294967296 * wv (l.drop (j + 1)) := by
  rw [List.drop_eq_getElem_cons h, wv]

/-- The first and the last letters have changed their places. -/
def rv (l : List UInt8) (i : Nat) : List UInt8 := (List.range l.length).map fun q => if q < i ∨ l.length - i ≤ q then l.getD (l.length - 1 - q) 0 else l.getD q 0
theorem rv_length (l : List UInt8) (i : Nat) : (rv l i).length = l.length := by simp [rv]
theorem rv_get {l : List UInt8} {i q : Nat} (h : q < l.length) : (rv l i)[q]? = some (if q < i ∨ l.length - i ≤ q then l.getD (l.length - 1 - q) 0 else l.getD q 0) := by simp [rv, h]
theorem rv_zero (l : List UInt8) : rv l 0 = l := by
  apply List.ext_getElem?
  intro q
  by_cases h : q < l.length
  · rw [rv_get h, if_neg (by omega), List.getD_eq_getElem?_getD, List.getElem?_eq_getElem h]; rfl
  · rw [List.getElem?_eq_none (by rw [rv_length]; omega), List.getElem?_eq_none (by omega)]
theorem rv_end {l : List UInt8} {i : Nat} (h : l.length - 1 - i ≤ i) : rv l i = l.reverse := by
  apply List.ext_getElem?
  intro q
  by_cases hq : q < l.length
  · rw [rv_get hq, List.getElem?_reverse hq]
    by_cases hc : q < i ∨ l.length - i ≤ q
    · rw [if_pos hc, List.getD_eq_getElem?_getD, List.getElem?_eq_getElem (show l.length - 1 - q < l.length by omega)]; rfl
    · rw [if_neg hc, List.getD_eq_getElem?_getD, show l.length - 1 - q = q by omega, List.getElem?_eq_getElem hq]; rfl
  · rw [List.getElem?_eq_none (by rw [rv_length]; omega), List.getElem?_eq_none (by rw [List.length_reverse]; omega)]
theorem rv_succ {l : List UInt8} {i : Nat} (h : i < l.length - 1 - i) : ((rv l i).set i (l.getD (l.length - 1 - i) 0)).set (l.length - 1 - i) (l.getD i 0) = rv l (i + 1) := by
  apply List.ext_getElem?
  intro q
  rw [List.getElem?_set, List.getElem?_set, List.length_set, rv_length]
  by_cases hq : q < l.length
  · rw [rv_get hq, rv_get hq]
    by_cases h1 : l.length - 1 - i = q
    · rw [if_pos h1, if_pos (by omega), if_pos (by omega), show l.length - 1 - q = i by omega]
    · rw [if_neg h1]
      by_cases h2 : i = q
      · rw [if_pos h2, if_pos (by omega), if_pos (by omega), h2]
      · rw [if_neg h2]
        congr 1
        by_cases hc : q < i ∨ l.length - i ≤ q
        · rw [if_pos hc, if_pos (by omega)]
        · rw [if_neg hc, if_neg (by omega)]
  · rw [List.getElem?_eq_none (l := rv l i) (by rw [rv_length]; omega), List.getElem?_eq_none (l := rv l (i + 1)) (by rw [rv_length]; omega)]
    split
    · omega
    · split
      · omega
      · rfl

section
variable {G : Gl} {fl : Nat} {A : Hp}

/-- Letters that a body has appended. -/
def lc (b : UInt8) : List Value := [.int .u8 (b.toNat : Nat)]
theorem lc_flat (l : List UInt8) : (l.map lc).flatten = bl l := by
  induction l with
  | nil => rfl
  | cons w l ih => simp only [List.map_cons, List.flatten_cons, ih]; rfl

theorem decText_ok {l : List UInt8} (hl : (nb (nv l)).length ≤ 900000) : Sound Tryd.prog G 14 [.string (S l)] fl A (.string (S (dec (nv l)))) A := by
  refine Sound.of mixed Tryd.func14 Tryd.ntmps14 Tryd.results14 (by kernel_rfl) rfl (by kernel_rfl) (by simp) fun hA => ?_
  have xa : (wds (nv l)).length ≤ 250000 := wds_len_le (by omega)
  simp only [↓R1, R2, R3, R4, TY, reduceIte, Nat.reduceEqDiff, Nat.reduceAdd, Nat.reduceMul, Nat.reduceLT, Nat.reduceLeDiff, reduceCtorEq, decide_true, decide_false, Int.reduceLE, Int.reduceLT, Int.reduceToNat, Int.reduceAdd, Int.reduceSub, Int.reduceMul, Int.reduceEq]
  refine call_of (words_ok (l := l) (by omega)) ?_
  simp only [↓R1, R2, R3, R4, TY, reduceIte, Nat.reduceEqDiff, Nat.reduceAdd, Nat.reduceMul, Nat.reduceLT, Nat.reduceLeDiff, reduceCtorEq, decide_true, decide_false, Int.reduceLE, Int.reduceLT, Int.reduceToNat, Int.reduceAdd, Int.reduceSub, Int.reduceMul, Int.reduceEq]
  have hdl := nb_dec_len hl
  have kx := wds_w32 (nv l)
  have va := wv_wds (nv l)
  have hz0 : nv l = 0 → wds (nv l) = [] := fun h => by rw [h, wds_zero]
  generalize nv l = N at *
  generalize wds N = ws0 at xa kx va hz0 ⊢
  have hfl : fl ≤ A.next := hA.floor
  have htop : wv ws0 = 0 → ws0 = [] := fun h => hz0 (by omega)
  refine loop_of (fun τ B => ∃ (ws : List Nat) (out : List UInt8) (so : Value), Xt A.next A B ∧ A.next < B.next ∧ B.blk A.next = some (.row (wc (ws ++ List.replicate (ws0.length - ws.length) 0)) 0 1) ∧ ws.length ≤ ws0.length ∧ W32 ws ∧ Ac B (A.next + 1) 1 so (out.map lc) ∧ out ++ dl (wv ws) = dl N ∧ (wv ws = 0 → ws = []) ∧
      τ 3 = some (.slice (some ⟨A.next, 0, some 0⟩) ws.length ws0.length) ∧ τ 4 = some so) (fun τ _ => match τ 4 with | some (.slice _ n _) => (dl N).length - n | _ => 0) ?_ ?_
  · exact ⟨ws0, [], _, (Xt.refl A).push _, by simp, by simp [Hp.push_blk], Nat.le_refl _, kx, Ac.nil _ _ _, by rw [va]; rfl, htop, rfl, rfl⟩
  rintro τ B ⟨ws, out, so, hx, hBn, hb, hwl, hww, hac, hdl2, htop, q3, q4⟩
  have hpos : ((0 : Int) < (ws.length : Nat)) = (0 < ws.length) := propext (by omega)
  have hsl := hac.sl
  obtain ⟨oo, co, hso⟩ := hsl.len
  rw [List.length_map] at hso
  have hol : out.length + (dl (wv ws)).length = (dl N).length := by rw [← hdl2, List.length_append]
  simp only [↓R1, R2, R3, R4, TY, reduceIte, Nat.reduceEqDiff, Nat.reduceAdd, Nat.reduceMul, Nat.reduceLT, Nat.reduceLeDiff, reduceCtorEq, decide_true, decide_false, Int.reduceLE, Int.reduceLT, Int.reduceToNat, Int.reduceAdd, Int.reduceSub, Int.reduceMul, Int.reduceEq, q3, q4, hpos]
  refine ⟨fun hlt => ?_, fun hlt => ?_⟩
  rotate_left
  · obtain rfl : ws = [] := List.length_eq_zero_iff.1 (by omega)
    have hout : out = dl N := by rw [← hdl2]; simp [wv, dl_zero]
    subst hso
    simp only [↓R1, R2, R3, R4, TY, reduceIte, Nat.reduceEqDiff, Nat.reduceAdd, Nat.reduceMul, Nat.reduceLT, Nat.reduceLeDiff, reduceCtorEq, decide_true, decide_false, Int.reduceLE, Int.reduceLT, Int.reduceToNat, Int.reduceAdd, Int.reduceSub, Int.reduceMul, Int.reduceEq, q3, q4]
    have hol2 : out.length = (dl N).length := by rw [hout]
    have hlen' : (dl N).length ≤ 2700000 := by omega
    refine ⟨fun h0 => ?_, fun h0 => ?_⟩
    · have h0' : N = 0 := by
        rcases Nat.eq_zero_or_pos N with h | h
        · exact h
        · rw [dl_pos (by omega)] at hol2; simp at hol2; omega
      exact Ended.back hA hx (by rw [dec, if_pos h0']) (RB.string _)
    have hN0 : N ≠ 0 := by intro h; rw [h, dl_zero] at hol2; simp at hol2; rw [hol2] at h0; exact absurd rfl h0
    rcases hac.at_ with ⟨h1, h2⟩ | ⟨id, g, n, c, h1, hnc, hid, hidn, hblk, hn⟩
    · rw [List.map_eq_nil_iff] at h2; rw [h2] at h0; exact absurd rfl h0
    cases h1
    rw [lc_flat] at hblk
    rw [← hout] at hlen'
    generalize hL : out = L at *
    refine loop_of (fun τ C => ∃ i : Nat, C.next = B.next ∧ Xt (A.next + 1) B C ∧ C.blk id = some (.row (bl (rv L i)) g 1) ∧ i ≤ L.length ∧ τ 4 = some (.slice (some ⟨id, 0, some g⟩) L.length co) ∧ τ 7 = some (.int .i64 i) ∧ τ 8 = some (.int .i64 ((L.length : Int) - 1 - i))) (fun τ _ => match τ 7 with | some (.int _ x) => (L.length - x).toNat | _ => 0) ?_ ?_
    · refine ⟨0, rfl, ⟨fun _ _ => rfl, by omega⟩, by rw [rv_zero]; exact hblk, Nat.zero_le _, q4, rfl, ?_⟩
      have : IntKind.i64.wrap ((L.length : Int) - 1) = (L.length : Int) - 1 := wrapI (by omega)
      simp [upd, this]
    rintro τ' C ⟨i, hCn, hCx, hCb, hiL, r4, r7, r8⟩
    simp only [↓R1, R2, R3, R4, TY, reduceIte, Nat.reduceEqDiff, Nat.reduceAdd, Nat.reduceMul, Nat.reduceLT, Nat.reduceLeDiff, reduceCtorEq, decide_true, decide_false, Int.reduceLE, Int.reduceLT, Int.reduceToNat, Int.reduceAdd, Int.reduceSub, Int.reduceMul, Int.reduceEq, r4, r7, r8]
    refine ⟨fun hlt2 => ?_, fun hlt2 => ?_⟩
    · have e8 : ((L.length : Int) - 1 - (i : Int)) = ((L.length - 1 - i : Nat) : Int) := by omega
      rw [e8] at r8
      have hik : i < L.length - 1 - i := by omega
      have hk : L.length - 1 - i < L.length := by omega
      have hi : i < L.length := by omega
      have hblen : (bl (rv L i)).length = L.length := by rw [bl_length, rv_length]
      have hg1 : C.get G ⟨id, L.length - 1 - i, some g⟩ = some (.int .u8 ((L.getD (L.length - 1 - i) 0).toNat : Nat)) := by
        simp only [Hp.get, hCb, if_true]
        rw [bl_get (by rw [rv_length]; exact hk)]
        have := rv_get (i := i) hk
        rw [if_neg (by omega), List.getElem?_eq_getElem (by rw [rv_length]; exact hk)] at this
        rw [Option.some.inj this]
      have hg2 : C.get G ⟨id, i, some g⟩ = some (.int .u8 ((L.getD i 0).toNat : Nat)) := by
        simp only [Hp.get, hCb, if_true]
        rw [bl_get (by rw [rv_length]; exact hi)]
        have := rv_get (i := i) hi
        rw [if_neg (by omega), List.getElem?_eq_getElem (by rw [rv_length]; exact hi)] at this
        rw [Option.some.inj this]
      have w1 : IntKind.i64.wrap ((L.length - 1 - i : Nat) - 1 : Int) = ((L.length - 1 - i : Nat) : Int) - 1 := wrapI (by omega)
      have hfl2 : fl ≤ id := by omega
      have hi63 : i < 9223372036854775807 := by omega
      have hk1 : L.length - 1 - i + 1 ≤ L.length := by omega
      have hi1 : i + 1 ≤ L.length := by omega
      simp only [↓R1, R2, R3, R4, TY, reduceIte, Nat.reduceEqDiff, Nat.reduceAdd, Nat.reduceMul, Nat.reduceLT, Nat.reduceLeDiff, reduceCtorEq, decide_true, decide_false, Int.reduceLE, Int.reduceLT, Int.reduceToNat, Int.reduceAdd, Int.reduceSub, Int.reduceMul, Int.reduceEq, e8, r4, r7, r8, hk, hi, hg1, hg2, hCb, hblen, hk1, hi1, hfl2, w1, hi63, List.length_set]
      rw [floOf_wr (by kernel_rfl)]
      simp only [↓R1, R2, R3, R4, TY, reduceIte, Nat.reduceEqDiff, Nat.reduceAdd, Nat.reduceMul, Nat.reduceLT, Nat.reduceLeDiff, reduceCtorEq, decide_true, decide_false, Int.reduceLE, Int.reduceLT, Int.reduceToNat, Int.reduceAdd, Int.reduceSub, Int.reduceMul, Int.reduceEq, e8, r4, r7, r8, hk, hi, hg1, hg2, hCb, hblen, hk1, hi1, hfl2, w1, hi63, List.length_set]
      rw [floOf_wr (by kernel_rfl)]
      simp only [↓R1, R2, R3, R4, TY, reduceIte, Nat.reduceEqDiff, Nat.reduceAdd, Nat.reduceMul, Nat.reduceLT, Nat.reduceLeDiff, reduceCtorEq, decide_true, decide_false, Int.reduceLE, Int.reduceLT, Int.reduceToNat, Int.reduceAdd, Int.reduceSub, Int.reduceMul, Int.reduceEq, e8, r4, r7, r8, hk, hi, hg1, hg2, hCb, hblen, hk1, hi1, hfl2, w1, hi63, List.length_set]
      refine loop_on ⟨i + 1, hCn, ⟨fun q hq => by simp only [Hp.put_blk]; rw [if_neg (by omega), if_neg (by omega)]; exact hCx.blk q hq, hCx.next⟩, ?_, by omega, r4, rfl, ?_⟩ ?_
      · simp only [Hp.put_blk, if_true]
        rw [bl_set, bl_set, rv_succ hik]
      · simp only [upd, if_true]
        congr 2; omega
      · simp only [upd, r7]
        simp; omega
    · refine cnv_of (rv L i) ty5 rfl rfl (by simp) (rv_length L i) (fun j u hj => ?_) ?_
      · simp only [Hp.get, aadd, hCb, Nat.zero_add, if_true]
        simp [bl, hj]
      simp only [↓R1, R2, R3, R4, TY, reduceIte, Nat.reduceEqDiff, Nat.reduceAdd, Nat.reduceMul, Nat.reduceLT, Nat.reduceLeDiff, reduceCtorEq, decide_true, decide_false, Int.reduceLE, Int.reduceLT, Int.reduceToNat, Int.reduceAdd, Int.reduceSub, Int.reduceMul, Int.reduceEq]
      refine Ended.back hA (⟨fun i hi => (hCx.blk i (by omega)).trans (hx.blk i hi), by omega⟩) ?_ (RB.string _)
      rw [dec, if_neg hN0, hout, rv_end (by omega)]
  have w1 : IntKind.i64.wrap ((ws.length : Int) - 1) = (ws.length : Int) - 1 := wrapI (by omega)
  simp only [↓R1, R2, R3, R4, TY, reduceIte, Nat.reduceEqDiff, Nat.reduceAdd, Nat.reduceMul, Nat.reduceLT, Nat.reduceLeDiff, reduceCtorEq, decide_true, decide_false, Int.reduceLE, Int.reduceLT, Int.reduceToNat, Int.reduceAdd, Int.reduceSub, Int.reduceMul, Int.reduceEq, q3, q4, w1]
  refine loop_of (fun τ C => ∃ (j rest : Nat) (qs : List Nat), C.next = B.next ∧ (∀ id, id ≠ A.next → C.blk id = B.blk id) ∧ C.blk A.next = some (.row (wc (ws.take j ++ qs ++ List.replicate (ws0.length - ws.length) 0)) 0 1) ∧ j + qs.length = ws.length ∧ W32 qs ∧ rest < 10 ∧ wv qs * 10 + rest = wv (ws.drop j) ∧
      τ 3 = some (.slice (some ⟨A.next, 0, some 0⟩) ws.length ws0.length) ∧ τ 4 = some so ∧ τ 5 = some (.int .u64 (rest : Nat)) ∧ τ 6 = some (.int .i64 ((j : Int) - 1))) (fun τ _ => match τ 6 with | some (.int _ x) => (x + 1).toNat | _ => 0) ?_ ?_
  · exact ⟨ws.length, 0, [], rfl, fun _ _ => rfl, by simpa using hb, rfl, by intro w hw; simp at hw, by omega, by simp [wv], q3, q4, rfl, rfl⟩
  rintro τ' C ⟨j, rest, qs, hCn, hCo, hCb, hjl, hqw, hr10, hval, r3, r4, r5, r6⟩
  simp only [↓R1, R2, R3, R4, TY, reduceIte, Nat.reduceEqDiff, Nat.reduceAdd, Nat.reduceMul, Nat.reduceLT, Nat.reduceLeDiff, reduceCtorEq, decide_true, decide_false, Int.reduceLE, Int.reduceLT, Int.reduceToNat, Int.reduceAdd, Int.reduceSub, Int.reduceMul, Int.reduceEq, r3, r4, r5, r6]
  refine ⟨fun hj0 => ?_, fun hj0 => ?_⟩
  · obtain ⟨k, rfl⟩ : ∃ k, j = k + 1 := ⟨j - 1, by omega⟩
    have e6 : (((k + 1 : Nat) : Int) - 1) = (k : Int) := by omega
    rw [e6] at r6
    have hkl : k < ws.length := by omega
    have hcell : (ws.take (k + 1) ++ qs ++ List.replicate (ws0.length - ws.length) 0)[k]? = some ws[k] := by
      rw [List.append_assoc, List.getElem?_append_left (by rw [List.length_take]; omega), List.getElem?_take_of_lt (by omega), List.getElem?_eq_getElem hkl]
    have hg : C.get G ⟨A.next, k, some 0⟩ = some (.int .u32 (ws[k] : Nat)) := by
      simp only [Hp.get, hCb, if_true]; exact wc_getq hcell
    have hw32 : ws[k] < 4294967296 := hww _ (List.getElem_mem hkl)
    have hclen : (wc (ws.take (k + 1) ++ qs ++ List.replicate (ws0.length - ws.length) 0)).length = ws0.length := by
      rw [wc_length, List.length_append, List.length_append, List.length_take, List.length_replicate]; omega
    have hk1 : k + 1 ≤ ws0.length := by omega
    have m1 : rest * 2 ^ 32 % 18446744073709551616 = rest * 2 ^ 32 := Nat.mod_eq_of_lt (by omega)
    have m2 : ws[k] % 18446744073709551616 = ws[k] := Nat.mod_eq_of_lt (by omega)
    have m3 : rest * 2 ^ 32 % 2 ^ 64 = rest * 2 ^ 32 := Nat.mod_eq_of_lt (by omega)
    have m4 : ws[k] % 2 ^ 64 = ws[k] := Nat.mod_eq_of_lt (by omega)
    have m5 : (rest * 2 ^ 32 ||| ws[k]) = rest * 4294967296 + ws[k] := by rw [or_add (by omega)]
    have hV1 : rest * 4294967296 + ws[k] < 42949672960 := by omega
    generalize hV : rest * 4294967296 + ws[k] = V at m5 hV1
    have m6 : V % 18446744073709551616 = V := Nat.mod_eq_of_lt (by omega)
    have d1 : ((V : Nat) : Int).tdiv 10 = ((V / 10 : Nat) : Int) := by rw [show (10 : Int) = ((10 : Nat) : Int) from rfl, div_n]
    have d2 : ((V : Nat) : Int).tmod 10 = ((V % 10 : Nat) : Int) := by rw [show (10 : Int) = ((10 : Nat) : Int) from rfl, mod_n]
    have m7 : V / 10 % 18446744073709551616 = V / 10 := Nat.mod_eq_of_lt (by omega)
    have m8 : V / 10 % 4294967296 = V / 10 := Nat.mod_eq_of_lt (by omega)
    have w2 : IntKind.i64.wrap ((k : Int) - 1) = (k : Int) - 1 := wrapI (by omega)
    simp only [↓R1, R2, R3, R4, TY, reduceIte, Nat.reduceEqDiff, Nat.reduceAdd, Nat.reduceMul, Nat.reduceLT, Nat.reduceLeDiff, reduceCtorEq, decide_true, decide_false, Int.reduceLE, Int.reduceLT, Int.reduceToNat, Int.reduceAdd, Int.reduceSub, Int.reduceMul, Int.reduceEq, e6, r3, r4, r5, r6, hkl, hg, hCb, hclen, hk1, hfl, m1, m2, m3, m4, m5, m6, d1, d2, m7, m8, w2, UN]
    refine loop_on ⟨k, V % 10, (V / 10) :: qs, hCn, fun id hid => by rw [Hp.put_blk, if_neg hid]; exact hCo id hid, ?_, by simp; omega, ?_, Nat.mod_lt _ (by omega), ?_, r3, r4, rfl, rfl⟩ ?_
    · simp only [Hp.put_blk, if_true]
      rw [wc_set, List.take_succ_eq_append_getElem hkl]
      congr 3
      simp only [List.append_assoc, List.singleton_append, List.cons_append]
      rw [List.set_append_right _ _ (by rw [List.length_take]; omega), List.length_take, show k - min k ws.length = 0 by omega]
      rfl
    · intro w hw
      rcases List.mem_cons.1 hw with h | h
      · rw [h]; omega
      · exact hqw w h
    · rw [wv, wv_drop hkl, ← hV]
      exact div_step rfl hval
    · simp only [upd, r6]
      simp
  · obtain rfl : j = 0 := by omega
    rw [List.drop_zero] at hval
    rw [List.take_zero, List.nil_append] at hCb
    have hz1 : zl [.int .u8 0] 1 = [.int .u8 0] := rfl
    have a1 : (48 : Int) + (rest : Int) = ((48 + rest : Nat) : Int) := by omega
    have m1 : (48 + rest) % 18446744073709551616 = 48 + rest := Nat.mod_eq_of_lt (by omega)
    have m2 : (48 + rest) % 256 = 48 + rest := Nat.mod_eq_of_lt (by omega)
    simp only [↓R1, R2, R3, R4, TY, reduceIte, Nat.reduceEqDiff, Nat.reduceAdd, Nat.reduceMul, Nat.reduceLT, Nat.reduceLeDiff, reduceCtorEq, decide_true, decide_false, Int.reduceLE, Int.reduceLT, Int.reduceToNat, Int.reduceAdd, Int.reduceSub, Int.reduceMul, Int.reduceEq, r3, r4, r5, r6, hz1, a1, m1, m2, UN]
    have hacC : Ac C (A.next + 1) 1 so (out.map lc) := hac.keep (by omega) fun id g n c e => hCo id (by
      rcases hac.at_ with ⟨h1, _⟩ | ⟨id', g', n', c', h1, h2, h3, _⟩
      · rw [e] at h1; cases h1
      · rw [e] at h1; cases h1; omega)
    have hwv : wv ws ≠ 0 := fun h => by rw [htop h] at hlt; simp at hlt
    have hdig : wv ws % 10 = rest := by omega
    have hquo : wv ws / 10 = wv qs := by omega
    have hdlw := dl_pos hwv
    rw [hdig, hquo] at hdlw
    have hol3 : out.length < (dl N).length := by rw [← hol, hdlw]; simp
    have hxC : Xt A.next A C := ⟨fun id hid => by rw [hCo id (by omega)]; exact hx.blk id hid, by rw [hCn]; exact hx.next⟩
    have hbyte : Value.int .u8 ((48 + rest : Nat) : Int) = .int .u8 (((UInt8.ofNat (48 + rest)).toNat : Nat) : Int) := by rw [ofNat_toNat8 (by omega)]
    rw [hbyte]
    refine apn_of (lo := A.next + 1) (sz := 1) (css := out.map lc) (new := [lc (UInt8.ofNat (48 + rest))]) ty58 rfl ty5 ty58 rfl rfl (by omega) rfl (hacC.xt ((Xt.refl C).push _)) (by omega) (by rw [Hp.push_next]; omega) ⟨by simp [lc], .inr (.inr ⟨_, _, _, 0, _, rfl, rfl, rfl, by rw [Hp.push_blk, if_pos rfl], fun j x hj => by simpa [lc] using hj⟩)⟩ (by simp [lc]; rfl) (by simp; omega) (by simp; omega) ?_
    intro so' D hau hxt hn' hf hsome hid
    have hau' : Ac D (A.next + 1) 1 so' ((out ++ [UInt8.ofNat (48 + rest)]).map lc) := by simpa using hau
    have hDb : D.blk A.next = some (.row (wc (qs ++ List.replicate (ws0.length - ws.length) 0)) 0 1) := by
      rw [hxt.blk _ (by omega), Hp.push_blk, if_neg (by omega)]; exact hCb
    have hDn : A.next < D.next := by rw [Hp.push_next] at hn'; omega
    have hDx : Xt A.next A D := ⟨fun id hid => by rw [hxt.blk id (by omega), Hp.push_blk, if_neg (by omega)]; exact hxC.blk id hid, by omega⟩
    simp only [↓R1, R2, R3, R4, TY, reduceIte, Nat.reduceEqDiff, Nat.reduceAdd, Nat.reduceMul, Nat.reduceLT, Nat.reduceLeDiff, reduceCtorEq, decide_true, decide_false, Int.reduceLE, Int.reduceLT, Int.reduceToNat, Int.reduceAdd, Int.reduceSub, Int.reduceMul, Int.reduceEq, r3, r4, r5, r6]
    refine loop_of (fun τ E => E = D ∧ ∃ zs : List Nat, zs.length ≤ ws.length ∧ wv zs = wv qs ∧ W32 zs ∧ qs = zs ++ List.replicate (ws.length - zs.length) 0 ∧ τ 3 = some (.slice (some ⟨A.next, 0, some 0⟩) zs.length ws0.length) ∧ τ 4 = some so') (fun τ _ => match τ 3 with | some (.slice _ n _) => n | _ => 0) ?_ ?_
    · have hql : qs.length = ws.length := by omega
      exact ⟨rfl, qs, by omega, rfl, hqw, by simp [hql], by rw [hql]; exact r3, rfl⟩
    rintro τ2 E ⟨rfl, zs, hzl, hzv, hzw, hzq, p3, p4⟩
    have hpos2 : ((0 : Int) < (zs.length : Nat)) = (0 < zs.length) := propext (by omega)
    by_cases hz0' : zs.length = 0
    · have hzn : zs = [] := List.length_eq_zero_iff.1 hz0'
      have hf : (0 < zs.length) = False := eq_false (by omega)
      simp only [↓R1, R2, R3, R4, TY, reduceIte, Nat.reduceEqDiff, Nat.reduceAdd, Nat.reduceMul, Nat.reduceLT, Nat.reduceLeDiff, reduceCtorEq, decide_true, decide_false, Int.reduceLE, Int.reduceLT, Int.reduceToNat, Int.reduceAdd, Int.reduceSub, Int.reduceMul, Int.reduceEq, p3, p4, hpos2, hf]
      refine loop_on ⟨zs, out ++ [UInt8.ofNat (48 + rest)], so', hDx, hDn, ?_, by omega, hzw, hau', ?_, fun _ => hzn, p3, p4⟩ ?_
      · rw [hDb, hzq, List.append_assoc, List.replicate_append_replicate, show ws.length - zs.length + (ws0.length - ws.length) = ws0.length - zs.length by omega]
      · rw [hzv, List.append_assoc, List.singleton_append, ← hdlw, hdl2]
      · obtain ⟨os, cs, hso2⟩ := hau'.sl.len
        simp only [upd, Nat.reduceEqDiff, reduceIte, p4, q4, hso2, hso, List.length_map, List.length_append, List.length_singleton]
        omega
    have hzp : 0 < zs.length := by omega
    have w1 : IntKind.i64.wrap ((zs.length : Int) - 1) = ((zs.length - 1 : Nat) : Int) := by rw [wrapI (by omega)]; omega
    have hz1 : zs.length - 1 < zs.length := by omega
    have hg : E.get G ⟨A.next, zs.length - 1, some 0⟩ = some (.int .u32 (zs[zs.length - 1] : Nat)) := by
      simp only [Hp.get, hDb, if_true]
      refine wc_getq ?_
      rw [hzq, List.append_assoc, List.getElem?_append_left hz1, List.getElem?_eq_getElem hz1]
    have hzeq : (((zs[zs.length - 1] : Nat) : Int) = 0) = (zs[zs.length - 1] = 0) := propext (by omega)
    have hE : eszOK E A.next 1 = True := eq_true fun cs g e hb => by rw [hDb] at hb; cases hb; rfl
    have hz2 : zs.length - 1 ≤ zs.length := by omega
    simp only [↓R1, R2, R3, R4, TY, reduceIte, Nat.reduceEqDiff, Nat.reduceAdd, Nat.reduceMul, Nat.reduceLT, Nat.reduceLeDiff, reduceCtorEq, decide_true, decide_false, Int.reduceLE, Int.reduceLT, Int.reduceToNat, Int.reduceAdd, Int.reduceSub, Int.reduceMul, Int.reduceEq, p3, p4, hpos2, hzp, w1, hz1, hz2, hg, hzeq, hE]
    refine ⟨fun ht => ?_, fun ht => ?_⟩
    · have hsp : zs = zs.take (zs.length - 1) ++ [0] := by
        have := List.take_succ_eq_append_getElem hz1
        rw [List.take_of_length_le (by omega), ht] at this; exact this
      have htl : (zs.take (zs.length - 1)).length = zs.length - 1 := by rw [List.length_take]; omega
      refine loop_on ⟨rfl, zs.take (zs.length - 1), by omega, ?_, fun w hw => hzw w (List.mem_of_mem_take hw), ?_, ?_, p4⟩ ?_
      · rw [← hzv]; conv => rhs; rw [hsp]
        rw [wv_snoc, Nat.mul_zero, Nat.add_zero]
      · have e : ws.length - (zs.length - 1) = ws.length - zs.length + 1 := by omega
        rw [htl, e, List.replicate_succ, hzq]
        generalize ws.length - zs.length = d
        conv => lhs; rw [hsp]
        rw [List.append_assoc]; rfl
      · simp only [upd, if_true, htl]
      · simp only [upd, Nat.reduceEqDiff, reduceIte, p3]; omega
    · have htop2 : wv zs = 0 → zs = [] := fun h => by
        exfalso
        have h1 : wv (zs.take (zs.length - 1 + 1)) = wv zs := by rw [List.take_of_length_le (by omega)]
        rw [wv_take_succ hz1] at h1
        have h2 : 0 < 4294967296 ^ (zs.length - 1) * zs[zs.length - 1] := Nat.mul_pos (Nat.pow_pos (by omega)) (by omega)
        omega
      refine loop_on ⟨zs, out ++ [UInt8.ofNat (48 + rest)], so', hDx, hDn, ?_, by omega, hzw, hau', ?_, htop2, p3, p4⟩ ?_
      · rw [hDb, hzq, List.append_assoc, List.replicate_append_replicate, show ws.length - zs.length + (ws0.length - ws.length) = ws0.length - zs.length by omega]
      · rw [hzv, List.append_assoc, List.singleton_append, ← hdlw, hdl2]
      · obtain ⟨os, cs, hso2⟩ := hau'.sl.len
        simp only [upd, Nat.reduceEqDiff, reduceIte, p4, q4, hso2, hso, List.length_map, List.length_append, List.length_singleton]
        omega
end
end Go.Proofs.YtpaffoiiipgkeaaDoor.Ab
