/- Numbers: Sub. -/
import Derived.Test.YthclikeipdplpaaGreatDoorNg
namespace Go.Proofs.YthclikeipdplpaaGreatDoor.Ab
open Go.RowKit
set_option linter.unusedVariables false
set_option linter.unusedSimpArgs false
set_option maxRecDepth 100000

theorem u64_sub {a b : Nat} (h : b ≤ 18446744073709551616) : IntKind.u64.wrap ((a : Int) - (b : Int)) = (((a + 18446744073709551616 - b) % 18446744073709551616 : Nat) : Int) := by
  rw [wrap_u64]; omega

theorem wc_getq {l : List Nat} {j w : Nat} (h : l[j]? = some w) : (wc l)[j]? = some (.int .u32 (w : Nat)) := by simp [wc, h]
theorem cmpN_neg {m n : Nat} : (cmpN m n < 0) = (m < n) :=
  propext ⟨fun h => by
    unfold cmpN at h
    split at h
    · assumption
    · split at h <;> omega, fun h => by unfold cmpN; rw [if_pos h]; decide⟩

section
variable {G : Gl} {fl : Nat} {A : Hp}

/-- A body that ends with one old block put anew. -/
theorem Ended.put {B : Hp} {r v : Value} {id g sz : Nat} {cells : List Value} (hA : Hok fl A) (hid : id < A.next) (hB : ∀ i, i < A.next → B.blk i = (A.put id (.row cells g sz)).blk i) (hv : r = v) (hr : RB A.next v) (hc : ∀ u ∈ cells, RB A.next u) :
    Ended A r B v (A.put id (.row cells g sz)) := by
  subst hv
  refine ⟨fun _ => none, ⟨Nat.le_refl _, fun i hi => (hB i hi).symm, fun i hi cs g' e hb => ?_, fun i hi => ?_, fun k h1 h2 => ?_, fun k p h => (by cases h), fun k k' i sh sh' h => (by cases h)⟩, .same hr⟩
  · rw [hB i hi, Hp.put_blk] at hb
    split at hb
    · cases hb; exact .inr hc
    · exact .inl hb
  · rw [Hp.put_blk]
    have hi' : A.next ≤ i := hi
    rw [if_neg (by omega)]; exact hA.wf i hi'
  · have : k < A.next := h2; omega

theorem less_ok {id id' n' c' : Nat} {xs ys : List Nat} (hid : fl ≤ id) (hidn : id < A.next) (hne : id' ≠ id) (hbx : A.blk id = some (.row (wc xs) 0 1)) (hby : A.blk id' = some (.row (wc ys) 0 1)) (hxl : xs.length ≤ 1000000) (hyl : ys.length ≤ xs.length) (kx : W32 xs) (ky : W32 ys) (hle : wv ys ≤ wv xs) :
    Sound Tryz.prog G 135 [.slice (some ⟨id, 0, some 0⟩) xs.length xs.length, .slice (some ⟨id', 0, some 0⟩) ys.length ys.length] fl A (.tuple #[]) (A.put id (.row (wc (wl (wv xs - wv ys) xs.length)) 0 1)) := by
  refine Sound.of mixed Tryz.func135 Tryz.ntmps135 Tryz.results135 (by kernel_rfl) rfl (by kernel_rfl) (by simp) fun hA => ?_
  simp only [↓R1, R2, R3, R4, TY, reduceIte, Nat.reduceEqDiff, Nat.reduceAdd, Nat.reduceMul, Nat.reduceLT, Nat.reduceLeDiff, reduceCtorEq, decide_true, decide_false, Int.reduceLE, Int.reduceLT, Int.reduceToNat, Int.reduceAdd, Int.reduceSub, Int.reduceMul, Int.reduceEq]
  have hidn' : id' < A.next := hA.lt hby
  refine range_of 10 xs.length (fun j τ B => ∃ (zs : List Nat) (bw : Nat), B.next = A.next ∧ B.blk id = some (.row (wc (zs ++ xs.drop j)) 0 1) ∧ (∀ i, i < A.next → i ≠ id → B.blk i = A.blk i) ∧ zs.length = j ∧ W32 zs ∧ bw ≤ 1 ∧ wv zs + wv (ys.take j) = wv (xs.take j) + 4294967296 ^ j * bw ∧
    τ 0 = some (.slice (some ⟨id, 0, some 0⟩) xs.length xs.length) ∧ τ 1 = some (.slice (some ⟨id', 0, some 0⟩) ys.length ys.length) ∧ τ 4 = some (.int .u64 (bw : Nat)) ∧ τ 8 = some (.slice (some ⟨id, 0, some 0⟩) xs.length xs.length) ∧ τ 9 = some (.int .i64 xs.length) ∧ τ 10 = some (.int .i64 j)) ?_ ?_
  · exact ⟨[], 0, rfl, by simpa using hbx, fun _ _ _ => rfl, rfl, by intro w hw; simp at hw, by omega, by simp [wv], rfl, rfl, rfl, rfl, rfl, rfl⟩
  rintro j τ B hj ⟨zs, bw, hn, hb, hold, hzl, hzw, hbw, hsum, q0, q1, q4, q8, q9, q10⟩
  simp only [↓R1, R2, R3, R4, TY, reduceIte, Nat.reduceEqDiff, Nat.reduceAdd, Nat.reduceMul, Nat.reduceLT, Nat.reduceLeDiff, reduceCtorEq, decide_true, decide_false, Int.reduceLE, Int.reduceLT, Int.reduceToNat, Int.reduceAdd, Int.reduceSub, Int.reduceMul, Int.reduceEq, q0, q1, q4, q8, q9, q10]
  refine ⟨fun hlt => ?_, fun hlt => ?_⟩
  rotate_left
  · obtain rfl : j = xs.length := by omega
    rw [List.drop_length, List.append_nil] at hb
    rw [List.take_length, List.take_of_length_le hyl] at hsum
    have hz := wv_lt hzw
    rw [hzl] at hz
    have hb0 : bw = 0 := by
      rcases Nat.lt_or_ge 0 bw with h | h
      · have : bw = 1 := by omega
        rw [this] at hsum; omega
      · omega
    rw [hb0] at hsum
    have hzv : wl (wv xs - wv ys) xs.length = zs := by
      rw [show wv xs - wv ys = wv zs by omega, ← hzl, wl_wv hzw]
    rw [hzv]
    refine Ended.put hA hidn (fun i hi => ?_) rfl (RB.tuple (by simp)) (wc_rb _ _)
    rw [Hp.put_blk]
    split
    · rename_i h; rw [h]; exact hb
    · rename_i h; exact hold i hi h
  have hj63 : j < 9223372036854775807 := by omega
  have hget : (zs ++ xs.drop j)[j]? = some xs[j] := by
    rw [List.getElem?_append_right (by omega), hzl, Nat.sub_self, List.getElem?_drop, Nat.add_zero, List.getElem?_eq_getElem hlt]
  have hgx : B.get G ⟨id, j, some 0⟩ = some (.int .u32 (xs[j] : Nat)) := by
    simp only [Hp.get, hb, if_true]; exact wc_getq hget
  have hx32 : xs[j] < 4294967296 := kx _ (List.getElem_mem hlt)
  have hlen : (wc (zs ++ xs.drop j)).length = xs.length := by rw [wc_length, List.length_append, List.length_drop, hzl]; omega
  have hj1 : j + 1 ≤ xs.length := by omega
  have m1 : xs[j] % 18446744073709551616 = xs[j] := Nat.mod_eq_of_lt (by omega)
  have s1 := u64_sub (a := xs[j]) (b := bw) (by omega)
  have hset : ∀ z : Nat, (wc (zs ++ xs.drop j)).set j (.int .u32 (z : Nat)) = wc ((zs ++ [z]) ++ xs.drop (j + 1)) := fun z => by
    rw [wc_set, List.drop_eq_getElem_cons hlt, set_snoc hzl]
  have fin : ∀ (z bw' y : Nat) (hz : z < 4294967296) (hb' : bw' ≤ 1) (τ' : Tm), z + y + bw = xs[j] + 4294967296 * bw' → wv (ys.take (j + 1)) = wv (ys.take j) + 4294967296 ^ j * y → 
      wv (zs ++ [z]) + wv (ys.take (j + 1)) = wv (xs.take (j + 1)) + 4294967296 ^ (j + 1) * bw' := fun z bw' y hz hb' τ' h1 h2 => by
    rw [wv_snoc, hzl, wv_take_succ hlt, h2, Nat.pow_succ]
    generalize (4294967296 : Nat) ^ j = p at hsum ⊢
    have : p * z + p * y + p * bw = p * xs[j] + p * 4294967296 * bw' := by
      rw [← Nat.mul_add, ← Nat.mul_add, h1, Nat.mul_add, Nat.mul_assoc]
    omega
  by_cases hy : j < ys.length
  · have hby' : B.blk id' = some (.row (wc ys) 0 1) := by rw [hold id' hidn' hne]; exact hby
    have hgy : B.get G ⟨id', j, some 0⟩ = some (.int .u32 (ys[j] : Nat)) := by simp only [Hp.get, hby', if_true]; exact wc_get hy
    have hy32 : ys[j] < 4294967296 := ky _ (List.getElem_mem hy)
    have m2 : ys[j] % 18446744073709551616 = ys[j] := Nat.mod_eq_of_lt (by omega)
    have s2 := u64_sub (a := (xs[j] + 18446744073709551616 - bw) % 18446744073709551616) (b := ys[j]) (by omega)
    simp only [↓R1, R2, R3, R4, TY, reduceIte, Nat.reduceEqDiff, Nat.reduceAdd, Nat.reduceMul, Nat.reduceLT, Nat.reduceLeDiff, reduceCtorEq, decide_true, decide_false, Int.reduceLE, Int.reduceLT, Int.reduceToNat, Int.reduceAdd, Int.reduceSub, Int.reduceMul, Int.reduceEq, q0, q1, q4, q8, q9, q10, hlt, hj63, hgx, hgy, hy, hb, hlen, hj1, hid, m1, m2, s1, s2, UN]
    refine range_on q10 hlt rfl ⟨zs ++ [((xs[j] + 18446744073709551616 - bw) % 18446744073709551616 + 18446744073709551616 - ys[j]) % 18446744073709551616 % 4294967296],
      ((xs[j] + 18446744073709551616 - bw) % 18446744073709551616 + 18446744073709551616 - ys[j]) % 18446744073709551616 / 2 ^ 63, hn, ?_, fun i hi hne => ?_, by simp [hzl], ?_, by omega, ?_, q0, q1, rfl, q8, q9, rfl⟩
    · simp only [Hp.put_blk, if_true]; rw [hset]
    · rw [Hp.put_blk, if_neg hne]; exact hold i hi hne
    · intro w hw
      rcases List.mem_append.1 hw with h | h
      · exact hzw w h
      · rw [List.mem_singleton.1 h]; exact Nat.mod_lt _ (by omega)
    · exact fin _ _ ys[j] (Nat.mod_lt _ (by omega)) (by omega) τ (by omega) (wv_take_succ hy)
  · simp only [↓R1, R2, R3, R4, TY, reduceIte, Nat.reduceEqDiff, Nat.reduceAdd, Nat.reduceMul, Nat.reduceLT, Nat.reduceLeDiff, reduceCtorEq, decide_true, decide_false, Int.reduceLE, Int.reduceLT, Int.reduceToNat, Int.reduceAdd, Int.reduceSub, Int.reduceMul, Int.reduceEq, q0, q1, q4, q8, q9, q10, hlt, hj63, hgx, hy, hb, hlen, hj1, hid, m1, s1, UN]
    refine range_on q10 hlt rfl ⟨zs ++ [(xs[j] + 18446744073709551616 - bw) % 18446744073709551616 % 4294967296],
      (xs[j] + 18446744073709551616 - bw) % 18446744073709551616 / 2 ^ 63, hn, ?_, fun i hi hne => ?_, by simp [hzl], ?_, by omega, ?_, q0, q1, rfl, q8, q9, rfl⟩
    · simp only [Hp.put_blk, if_true]; rw [hset]
    · rw [Hp.put_blk, if_neg hne]; exact hold i hi hne
    · intro w hw
      rcases List.mem_append.1 hw with h | h
      · exact hzw w h
      · rw [List.mem_singleton.1 h]; exact Nat.mod_lt _ (by omega)
    · exact fin _ _ 0 (Nat.mod_lt _ (by omega)) (by omega) τ (by omega) (by rw [List.take_of_length_le (show ys.length ≤ j by omega), List.take_of_length_le (show ys.length ≤ j + 1 by omega)]; simp)

/-- What Sub answers. -/
def subR (m n : Nat) : Nat × Int := if m < n then (0, 1) else (m - n, 0)
theorem sub_ok {a b : List UInt8} (ha : (nb (nv a)).length ≤ 900000) (hb : (nb (nv b)).length ≤ 900000) :
    Sound Tryz.prog G 113 [.string (S a), .string (S b)] fl A (.tuple [Value.string (S (nb (subR (nv a) (nv b)).1)), .int .i64 (subR (nv a) (nv b)).2].toArray) A := by
  refine Sound.of mixed Tryz.func113 Tryz.ntmps113 Tryz.results113 (by kernel_rfl) rfl (by kernel_rfl) (by simp) fun hA => ?_
  have hres : ∀ (x y : Value) (B : Hp), Xt A.next A B → x = .string (S (nb (subR (nv a) (nv b)).1)) → y = .int .i64 (subR (nv a) (nv b)).2 → Ended A (.tuple [x, y].toArray) B (.tuple [Value.string (S (nb (subR (nv a) (nv b)).1)), .int .i64 (subR (nv a) (nv b)).2].toArray) A := by
    rintro x y B hx rfl rfl
    refine Ended.back hA hx rfl (RB.tuple fun w hw => ?_)
    simp only [List.mem_cons, List.not_mem_nil, or_false] at hw
    rcases hw with rfl | rfl
    · exact RB.string _
    · exact RB.int _ _
  simp only [↓R1, R2, R3, R4, TY, reduceIte, Nat.reduceEqDiff, Nat.reduceAdd, Nat.reduceMul, Nat.reduceLT, Nat.reduceLeDiff, reduceCtorEq, decide_true, decide_false, Int.reduceLE, Int.reduceLT, Int.reduceToNat, Int.reduceAdd, Int.reduceSub, Int.reduceMul, Int.reduceEq]
  refine call_of (cmp_ok a b) ?_
  have hc := cmpN_neg (m := nv a) (n := nv b)
  simp only [↓R1, R2, R3, R4, TY, reduceIte, Nat.reduceEqDiff, Nat.reduceAdd, Nat.reduceMul, Nat.reduceLT, Nat.reduceLeDiff, reduceCtorEq, decide_true, decide_false, Int.reduceLE, Int.reduceLT, Int.reduceToNat, Int.reduceAdd, Int.reduceSub, Int.reduceMul, Int.reduceEq, hc]
  refine ⟨fun h => hres _ _ _ (Xt.refl _) (by rw [subR, if_pos h, nb_zero]) (by rw [subR, if_pos h]), fun h => ?_⟩
  have xa : (wds (nv a)).length ≤ 250000 := wds_len_le (by omega)
  have xb : (wds (nv b)).length ≤ (wds (nv a)).length := by
    have := nb_len_mono (show nv b ≤ nv a by omega)
    rw [wds_length, wds_length]; omega
  refine call_of (words_ok (l := a) (by omega)) ?_
  simp only [↓R1, R2, R3, R4, TY, reduceIte, Nat.reduceEqDiff, Nat.reduceAdd, Nat.reduceMul, Nat.reduceLT, Nat.reduceLeDiff, reduceCtorEq, decide_true, decide_false, Int.reduceLE, Int.reduceLT, Int.reduceToNat, Int.reduceAdd, Int.reduceSub, Int.reduceMul, Int.reduceEq]
  refine call_of (words_ok (l := b) (by omega)) ?_
  simp only [↓R1, R2, R3, R4, TY, reduceIte, Nat.reduceEqDiff, Nat.reduceAdd, Nat.reduceMul, Nat.reduceLT, Nat.reduceLeDiff, reduceCtorEq, decide_true, decide_false, Int.reduceLE, Int.reduceLT, Int.reduceToNat, Int.reduceAdd, Int.reduceSub, Int.reduceMul, Int.reduceEq]
  have kx := wds_w32 (nv a)
  have ky := wds_w32 (nv b)
  have va := wv_wds (nv a)
  have vb := wv_wds (nv b)
  generalize wds (nv a) = xs at xa xb kx va ⊢
  generalize wds (nv b) = ys at xb ky vb ⊢
  generalize hH : Hp.push _ (Blk.row (wc ys) 0 1) = H
  have hHn : H.next = A.next + 2 := by rw [← hH]; rfl
  have hHa : H.blk A.next = some (.row (wc xs) 0 1) := by rw [← hH]; simp [Hp.push_blk]
  have hHb : H.blk (A.next + 1) = some (.row (wc ys) 0 1) := by rw [← hH]; simp [Hp.push_blk]
  have hHx : Xt A.next A H := by rw [← hH]; exact ((Xt.refl A).push _).push _
  have hfl : fl ≤ A.next := hA.floor
  refine call_of (less_ok (id := A.next) (id' := A.next + 1) (n' := 0) (c' := 0) hfl (by omega) (by omega) hHa hHb (by omega) xb kx ky (by omega)) ?_
  simp only [↓R1, R2, R3, R4, TY, reduceIte, Nat.reduceEqDiff, Nat.reduceAdd, Nat.reduceMul, Nat.reduceLT, Nat.reduceLeDiff, reduceCtorEq, decide_true, decide_false, Int.reduceLE, Int.reduceLT, Int.reduceToNat, Int.reduceAdd, Int.reduceSub, Int.reduceMul, Int.reduceEq]
  generalize hD : Hp.put _ _ _ = D
  have hDb : D.blk A.next = some (.row (wc (wl (wv xs - wv ys) xs.length)) 0 1) := by rw [← hD]; simp [Hp.put_blk]
  have hDx : Xt A.next A D := by rw [← hD]; exact hHx.put (Nat.le_refl _) _
  refine call_of (text_ok (ws := wl (wv xs - wv ys) xs.length) (by rw [wl_length]; omega) (wl_w32 _ _) (sl_row hDb (wl_length _ _))) ?_
  simp only [↓R1, R2, R3, R4, TY, reduceIte, Nat.reduceEqDiff, Nat.reduceAdd, Nat.reduceMul, Nat.reduceLT, Nat.reduceLeDiff, reduceCtorEq, decide_true, decide_false, Int.reduceLE, Int.reduceLT, Int.reduceToNat, Int.reduceAdd, Int.reduceSub, Int.reduceMul, Int.reduceEq]
  refine hres _ _ _ hDx ?_ (by rw [subR, if_neg h])
  rw [subR, if_neg h, wv_wl', va, vb]
  have := wv_lt kx
  omega
end
end Go.Proofs.YthclikeipdplpaaGreatDoor.Ab

/- Numbers: what a law begins with. -/
namespace Go.Proofs.YthclikeipdplpaaGreatDoor.Ab
open Go.RowKit
set_option linter.unusedVariables false
set_option linter.unusedSimpArgs false
set_option maxRecDepth 100000

section
variable {G : Gl} {fl : Nat} {A : Hp}

/-- What a law reads of a string. -/
def bare (l : List UInt8) : Nat := nv (l.take 60)
theorem bare_len (l : List UInt8) : (nb (bare l)).length ≤ 60 := Nat.le_trans (nb_len_nv _) (by rw [List.length_take]; omega)
end
end Go.Proofs.YthclikeipdplpaaGreatDoor.Ab

/- Numbers: their decimal notation. -/
namespace Go.Proofs.YthclikeipdplpaaGreatDoor.Ab
open Go.RowKit
set_option linter.unusedVariables false
set_option linter.unusedSimpArgs false
set_option maxRecDepth 100000

/-- A number's decimal digits, the least first, as letters. -/
def dl (n : Nat) : List UInt8 := if h : n = 0 then [] else UInt8.ofNat (48 + n % 10) :: dl (n / 10)
termination_by n
decreasing_by omega
theorem dl_zero : dl 0 = [] := by rw [dl]; simp
theorem dl_pos {n : Nat} (h : n ≠ 0) : dl n = UInt8.ofNat (48 + n % 10) :: dl (n / 10) := by rw [dl, dif_neg h]
/-- A number's decimal notation. -/
def dec (n : Nat) : List UInt8 := if n = 0 then [48] else (dl n).reverse
theorem dl_len {n k : Nat} (h : n < 10 ^ k) : (dl n).length ≤ k := by
  induction k generalizing n with
  | zero => rw [show n = 0 by omega, dl_zero]; simp
  | succ k ih =>
    by_cases h0 : n = 0
    · rw [h0, dl_zero]; simp
    · rw [dl_pos h0, List.length_cons]
      have := ih (n := n / 10) (by rw [Nat.pow_succ] at h; omega)
      omega
theorem nb_dec_len {n k : Nat} (h : (nb n).length ≤ k) : (dl n).length ≤ 3 * k := by
  refine dl_len (Nat.lt_of_lt_of_le (nb_len_le.1 h) ?_)
  rw [Nat.pow_mul]; exact Nat.pow_le_pow_left (by omega) _

/-- One step of the division of digits by 10. -/
theorem div_step {w r B q V : Nat} (hB : B = 4294967296) (h : q * 10 + r = V) : ((r * B + w) / 10 + B * q) * 10 + (r * B + w) % 10 = w + B * V := by
  have := Nat.div_add_mod (r * B + w) 10
  rw [Nat.add_mul, ← h, Nat.mul_add, Nat.mul_assoc, Nat.mul_comm r B]
  rw [Nat.mul_comm r B] at this
  omega
theorem wv_drop {l : List Nat} {j : Nat} (h : j < l.length) : wv (l.drop j) = l[j] + 4294967296 * wv (l.drop (j + 1)) := by
  rw [List.drop_eq_getElem_cons h, wv]

/-- The first and the last letters have changed their places. -/
def rv (l : List UInt8) (i : Nat) : List UInt8 := (List.range l.length).map fun q => if q < i ∨ l.length - i ≤ q then l.getD (l.length - 1 - q) 0 else l.getD q 0
theorem rv_length (l : List UInt8) (i : Nat) : (rv l i).length = l.length := by simp [rv]
theorem rv_get {l : List UInt8} {i q : Nat} (h : q < l.length) : (rv l i)[q]? = some (if q < i ∨ l.length - i ≤ q then l.getD (l.length - 1 - q) 0 else l.getD q 0) := by simp [rv, h]
theorem rv_zero (l : List UInt8) : rv l 0 = l := by
  apply List.ext_getElem?
  intro q
  by_cases h : q < l.length
  · rw [rv_get h, if_neg (by omega), List.getD_eq_getElem?_getD, List.getElem?_eq_getElem h]; rfl
  · rw [List.getElem?_eq_none (by rw [rv_length]; omega), List.getElem?_eq_none (by omega)]
theorem rv_end {l : List UInt8} {i : Nat} (h : l.length - 1 - i ≤ i) : rv l i = l.reverse := by
  apply List.ext_getElem?
  intro q
  by_cases hq : q < l.length
  · rw [rv_get hq, List.getElem?_reverse hq]
    by_cases hc : q < i ∨ l.length - i ≤ q
    · rw [if_pos hc, List.getD_eq_getElem?_getD, List.getElem?_eq_getElem (show l.length - 1 - q < l.length by omega)]; rfl
    · rw [if_neg hc, List.getD_eq_getElem?_getD, show l.length - 1 - q = q by omega, List.getElem?_eq_getElem hq]; rfl
  · rw [List.getElem?_eq_none (by rw [rv_length]; omega), List.getElem?_eq_none (by rw [List.length_reverse]; omega)]
theorem rv_succ {l : List UInt8} {i : Nat} (h : i < l.length - 1 - i) : ((rv l i).set i (l.getD (l.length - 1 - i) 0)).set (l.length - 1 - i) (l.getD i 0) = rv l (i + 1) := by
  apply List.ext_getElem?
  intro q
  rw [List.getElem?_set, List.getElem?_set, List.length_set, rv_length]
  by_cases hq : q < l.length
  · rw [rv_get hq, rv_get hq]
    by_cases h1 : l.length - 1 - i = q
    · rw [if_pos h1, if_pos (by omega), if_pos (by omega), show l.length - 1 - q = i by omega]
    · rw [if_neg h1]
      by_cases h2 : i = q
      · rw [if_pos h2, if_pos (by omega), if_pos (by omega), h2]
      · rw [if_neg h2]
        congr 1
        by_cases hc : q < i ∨ l.length - i ≤ q
        · rw [if_pos hc, if_pos (by omega)]
        · rw [if_neg hc, if_neg (by omega)]
  · rw [List.getElem?_eq_none (l := rv l i) (by rw [rv_length]; omega), List.getElem?_eq_none (l := rv l (i + 1)) (by rw [rv_length]; omega)]
    split
    · omega
    · split
      · omega
      · rfl

section
variable {G : Gl} {fl : Nat} {A : Hp}

/-- Letters that a body has appended. -/
def lc (b : UInt8) : List Value := [.int .u8 (b.toNat : Nat)]
theorem lc_flat (l : List UInt8) : (l.map lc).flatten = bl l := by
  induction l with
  | nil => rfl
  | cons w l ih => simp only [List.map_cons, List.flatten_cons, ih]; rfl

theorem decText_ok {l : List UInt8} (hl : (nb (nv l)).length ≤ 900000) : Sound Tryz.prog G 165 [.string (S l)] fl A (.string (S (dec (nv l)))) A := by
  refine Sound.of mixed Tryz.func165 Tryz.ntmps165 Tryz.results165 (by kernel_rfl) rfl (by kernel_rfl) (by simp) fun hA => ?_
  have xa : (wds (nv l)).length ≤ 250000 := wds_len_le (by omega)
  simp only [↓R1, R2, R3, R4, TY, reduceIte, Nat.reduceEqDiff, Nat.reduceAdd, Nat.reduceMul, Nat.reduceLT, Nat.reduceLeDiff, reduceCtorEq, decide_true, decide_false, Int.reduceLE, Int.reduceLT, Int.reduceToNat, Int.reduceAdd, Int.reduceSub, Int.reduceMul, Int.reduceEq]
  refine call_of (words_ok (l := l) (by omega)) ?_
  simp only [↓R1, R2, R3, R4, TY, reduceIte, Nat.reduceEqDiff, Nat.reduceAdd, Nat.reduceMul, Nat.reduceLT, Nat.reduceLeDiff, reduceCtorEq, decide_true, decide_false, Int.reduceLE, Int.reduceLT, Int.reduceToNat, Int.reduceAdd, Int.reduceSub, Int.reduceMul, Int.reduceEq]
  have hdl := nb_dec_len hl
  have kx := wds_w32 (nv l)
  have va := wv_wds (nv l)
  have hz0 : nv l = 0 → wds (nv l) = [] := fun h => by rw [h, wds_zero]
  generalize nv l = N at *
  generalize wds N = ws0 at xa kx va hz0 ⊢
  have hfl : fl ≤ A.next := hA.floor
  have htop : wv ws0 = 0 → ws0 = [] := fun h => hz0 (by omega)
  refine loop_of (fun τ B => ∃ (ws : List Nat) (out : List UInt8) (so : Value), Xt A.next A B ∧ A.next < B.next ∧ B.blk A.next = some (.row (wc (ws ++ List.replicate (ws0.length - ws.length) 0)) 0 1) ∧ ws.length ≤ ws0.length ∧ W32 ws ∧ Ac B (A.next + 1) 1 so (out.map lc) ∧ out ++ dl (wv ws) = dl N ∧ (wv ws = 0 → ws = []) ∧
      τ 3 = some (.slice (some ⟨A.next, 0, some 0⟩) ws.length ws0.length) ∧ τ 4 = some so) (fun τ _ => match τ 4 with | some (.slice _ n _) => (dl N).length - n | _ => 0) ?_ ?_
  · exact ⟨ws0, [], _, (Xt.refl A).push _, by simp, by simp [Hp.push_blk], Nat.le_refl _, kx, Ac.nil _ _ _, by rw [va]; rfl, htop, rfl, rfl⟩
  rintro τ B ⟨ws, out, so, hx, hBn, hb, hwl, hww, hac, hdl2, htop, q3, q4⟩
  have hpos : ((0 : Int) < (ws.length : Nat)) = (0 < ws.length) := propext (by omega)
  have hsl := hac.sl
  obtain ⟨oo, co, hso⟩ := hsl.len
  rw [List.length_map] at hso
  have hol : out.length + (dl (wv ws)).length = (dl N).length := by rw [← hdl2, List.length_append]
  simp only [↓R1, R2, R3, R4, TY, reduceIte, Nat.reduceEqDiff, Nat.reduceAdd, Nat.reduceMul, Nat.reduceLT, Nat.reduceLeDiff, reduceCtorEq, decide_true, decide_false, Int.reduceLE, Int.reduceLT, Int.reduceToNat, Int.reduceAdd, Int.reduceSub, Int.reduceMul, Int.reduceEq, q3, q4, hpos]
  refine ⟨fun hlt => ?_, fun hlt => ?_⟩
  rotate_left
  · obtain rfl : ws = [] := List.length_eq_zero_iff.1 (by omega)
    have hout : out = dl N := by rw [← hdl2]; simp [wv, dl_zero]
    subst hso
    simp only [↓R1, R2, R3, R4, TY, reduceIte, Nat.reduceEqDiff, Nat.reduceAdd, Nat.reduceMul, Nat.reduceLT, Nat.reduceLeDiff, reduceCtorEq, decide_true, decide_false, Int.reduceLE, Int.reduceLT, Int.reduceToNat, Int.reduceAdd, Int.reduceSub, Int.reduceMul, Int.reduceEq, q3, q4]
    have hol2 : out.length = (dl N).length := by rw [hout]
    have hlen' : (dl N).length ≤ 2700000 := by omega
    refine ⟨fun h0 => ?_, fun h0 => ?_⟩
    · have h0' : N = 0 := by
        rcases Nat.eq_zero_or_pos N with h | h
        · exact h
        · rw [dl_pos (by omega)] at hol2; simp at hol2; omega
      exact Ended.back hA hx (by rw [dec, if_pos h0']) (RB.string _)
    have hN0 : N ≠ 0 := by intro h; rw [h, dl_zero] at hol2; simp at hol2; rw [hol2] at h0; exact absurd rfl h0
    rcases hac.at_ with ⟨h1, h2⟩ | ⟨id, g, n, c, h1, hnc, hid, hidn, hblk, hn⟩
    · rw [List.map_eq_nil_iff] at h2; rw [h2] at h0; exact absurd rfl h0
    cases h1
    rw [lc_flat] at hblk
    rw [← hout] at hlen'
    generalize hL : out = L at *
    refine loop_of (fun τ C => ∃ i : Nat, C.next = B.next ∧ Xt (A.next + 1) B C ∧ C.blk id = some (.row (bl (rv L i)) g 1) ∧ i ≤ L.length ∧ τ 4 = some (.slice (some ⟨id, 0, some g⟩) L.length co) ∧ τ 7 = some (.int .i64 i) ∧ τ 8 = some (.int .i64 ((L.length : Int) - 1 - i))) (fun τ _ => match τ 7 with | some (.int _ x) => (L.length - x).toNat | _ => 0) ?_ ?_
    · refine ⟨0, rfl, ⟨fun _ _ => rfl, by omega⟩, by rw [rv_zero]; exact hblk, Nat.zero_le _, q4, rfl, ?_⟩
      have : IntKind.i64.wrap ((L.length : Int) - 1) = (L.length : Int) - 1 := wrapI (by omega)
      simp [upd, this]
    rintro τ' C ⟨i, hCn, hCx, hCb, hiL, r4, r7, r8⟩
    simp only [↓R1, R2, R3, R4, TY, reduceIte, Nat.reduceEqDiff, Nat.reduceAdd, Nat.reduceMul, Nat.reduceLT, Nat.reduceLeDiff, reduceCtorEq, decide_true, decide_false, Int.reduceLE, Int.reduceLT, Int.reduceToNat, Int.reduceAdd, Int.reduceSub, Int.reduceMul, Int.reduceEq, r4, r7, r8]
    refine ⟨fun hlt2 => ?_, fun hlt2 => ?_⟩
    · have e8 : ((L.length : Int) - 1 - (i : Int)) = ((L.length - 1 - i : Nat) : Int) := by omega
      rw [e8] at r8
      have hik : i < L.length - 1 - i := by omega
      have hk : L.length - 1 - i < L.length := by omega
      have hi : i < L.length := by omega
      have hblen : (bl (rv L i)).length = L.length := by rw [bl_length, rv_length]
      have hg1 : C.get G ⟨id, L.length - 1 - i, some g⟩ = some (.int .u8 ((L.getD (L.length - 1 - i) 0).toNat : Nat)) := by
        simp only [Hp.get, hCb, if_true]
        rw [bl_get (by rw [rv_length]; exact hk)]
        have := rv_get (i := i) hk
        rw [if_neg (by omega), List.getElem?_eq_getElem (by rw [rv_length]; exact hk)] at this
        rw [Option.some.inj this]
      have hg2 : C.get G ⟨id, i, some g⟩ = some (.int .u8 ((L.getD i 0).toNat : Nat)) := by
        simp only [Hp.get, hCb, if_true]
        rw [bl_get (by rw [rv_length]; exact hi)]
        have := rv_get (i := i) hi
        rw [if_neg (by omega), List.getElem?_eq_getElem (by rw [rv_length]; exact hi)] at this
        rw [Option.some.inj this]
      have w1 : IntKind.i64.wrap ((L.length - 1 - i : Nat) - 1 : Int) = ((L.length - 1 - i : Nat) : Int) - 1 := wrapI (by omega)
      have hfl2 : fl ≤ id := by omega
      have hi63 : i < 9223372036854775807 := by omega
      have hk1 : L.length - 1 - i + 1 ≤ L.length := by omega
      have hi1 : i + 1 ≤ L.length := by omega
      simp only [↓R1, R2, R3, R4, TY, reduceIte, Nat.reduceEqDiff, Nat.reduceAdd, Nat.reduceMul, Nat.reduceLT, Nat.reduceLeDiff, reduceCtorEq, decide_true, decide_false, Int.reduceLE, Int.reduceLT, Int.reduceToNat, Int.reduceAdd, Int.reduceSub, Int.reduceMul, Int.reduceEq, e8, r4, r7, r8, hk, hi, hg1, hg2, hCb, hblen, hk1, hi1, hfl2, w1, hi63, List.length_set]
      rw [floOf_wr (by kernel_rfl)]
      simp only [↓R1, R2, R3, R4, TY, reduceIte, Nat.reduceEqDiff, Nat.reduceAdd, Nat.reduceMul, Nat.reduceLT, Nat.reduceLeDiff, reduceCtorEq, decide_true, decide_false, Int.reduceLE, Int.reduceLT, Int.reduceToNat, Int.reduceAdd, Int.reduceSub, Int.reduceMul, Int.reduceEq, e8, r4, r7, r8, hk, hi, hg1, hg2, hCb, hblen, hk1, hi1, hfl2, w1, hi63, List.length_set]
      rw [floOf_wr (by kernel_rfl)]
      simp only [↓R1, R2, R3, R4, TY, reduceIte, Nat.reduceEqDiff, Nat.reduceAdd, Nat.reduceMul, Nat.reduceLT, Nat.reduceLeDiff, reduceCtorEq, decide_true, decide_false, Int.reduceLE, Int.reduceLT, Int.reduceToNat, Int.reduceAdd, Int.reduceSub, Int.reduceMul, Int.reduceEq, e8, r4, r7, r8, hk, hi, hg1, hg2, hCb, hblen, hk1, hi1, hfl2, w1, hi63, List.length_set]
      refine loop_on ⟨i + 1, hCn, ⟨fun q hq => by simp only [Hp.put_blk]; rw [if_neg (by omega), if_neg (by omega)]; exact hCx.blk q hq, hCx.next⟩, ?_, by omega, r4, rfl, ?_⟩ ?_
      · simp only [Hp.put_blk, if_true]
        rw [bl_set, bl_set, rv_succ hik]
      · simp only [upd, if_true]
        congr 2; omega
      · simp only [upd, r7]
        simp; omega
    · refine cnv_of (rv L i) ty5 rfl rfl (by simp) (rv_length L i) (fun j u hj => ?_) ?_
      · simp only [Hp.get, aadd, hCb, Nat.zero_add, if_true]
        simp [bl, hj]
      simp only [↓R1, R2, R3, R4, TY, reduceIte, Nat.reduceEqDiff, Nat.reduceAdd, Nat.reduceMul, Nat.reduceLT, Nat.reduceLeDiff, reduceCtorEq, decide_true, decide_false, Int.reduceLE, Int.reduceLT, Int.reduceToNat, Int.reduceAdd, Int.reduceSub, Int.reduceMul, Int.reduceEq]
      refine Ended.back hA (⟨fun i hi => (hCx.blk i (by omega)).trans (hx.blk i hi), by omega⟩) ?_ (RB.string _)
      rw [dec, if_neg hN0, hout, rv_end (by omega)]
  have w1 : IntKind.i64.wrap ((ws.length : Int) - 1) = (ws.length : Int) - 1 := wrapI (by omega)
  simp only [↓R1, R2, R3, R4, TY, reduceIte, Nat.reduceEqDiff, Nat.reduceAdd, Nat.reduceMul, Nat.reduceLT, Nat.reduceLeDiff, reduceCtorEq, decide_true, decide_false, Int.reduceLE, Int.reduceLT, Int.reduceToNat, Int.reduceAdd, Int.reduceSub, Int.reduceMul, Int.reduceEq, q3, q4, w1]
  refine loop_of (fun τ C => ∃ (j rest : Nat) (qs : List Nat), C.next = B.next ∧ (∀ id, id ≠ A.next → C.blk id = B.blk id) ∧ C.blk A.next = some (.row (wc (ws.take j ++ qs ++ List.replicate (ws0.length - ws.length) 0)) 0 1) ∧ j + qs.length = ws.length ∧ W32 qs ∧ rest < 10 ∧ wv qs * 10 + rest = wv (ws.drop j) ∧
      τ 3 = some (.slice (some ⟨A.next, 0, some 0⟩) ws.length ws0.length) ∧ τ 4 = some so ∧ τ 5 = some (.int .u64 (rest : Nat)) ∧ τ 6 = some (.int .i64 ((j : Int) - 1))) (fun τ _ => match τ 6 with | some (.int _ x) => (x + 1).toNat | _ => 0) ?_ ?_
  · exact ⟨ws.length, 0, [], rfl, fun _ _ => rfl, by simpa using hb, rfl, by intro w hw; simp at hw, by omega, by simp [wv], q3, q4, rfl, rfl⟩
  rintro τ' C ⟨j, rest, qs, hCn, hCo, hCb, hjl, hqw, hr10, hval, r3, r4, r5, r6⟩
  simp only [↓R1, R2, R3, R4, TY, reduceIte, Nat.reduceEqDiff, Nat.reduceAdd, Nat.reduceMul, Nat.reduceLT, Nat.reduceLeDiff, reduceCtorEq, decide_true, decide_false, Int.reduceLE, Int.reduceLT, Int.reduceToNat, Int.reduceAdd, Int.reduceSub, Int.reduceMul, Int.reduceEq, r3, r4, r5, r6]
  refine ⟨fun hj0 => ?_, fun hj0 => ?_⟩
  · obtain ⟨k, rfl⟩ : ∃ k, j = k + 1 := ⟨j - 1, by omega⟩
    have e6 : (((k + 1 : Nat) : Int) - 1) = (k : Int) := by omega
    rw [e6] at r6
    have hkl : k < ws.length := by omega
    have hcell : (ws.take (k + 1) ++ qs ++ List.replicate (ws0.length - ws.length) 0)[k]? = some ws[k] := by
      rw [List.append_assoc, List.getElem?_append_left (by rw [List.length_take]; omega), List.getElem?_take_of_lt (by omega), List.getElem?_eq_getElem hkl]
    have hg : C.get G ⟨A.next, k, some 0⟩ = some (.int .u32 (ws[k] : Nat)) := by
      simp only [Hp.get, hCb, if_true]; exact wc_getq hcell
    have hw32 : ws[k] < 4294967296 := hww _ (List.getElem_mem hkl)
    have hclen : (wc (ws.take (k + 1) ++ qs ++ List.replicate (ws0.length - ws.length) 0)).length = ws0.length := by
      rw [wc_length, List.length_append, List.length_append, List.length_take, List.length_replicate]; omega
    have hk1 : k + 1 ≤ ws0.length := by omega
    have m1 : rest * 2 ^ 32 % 18446744073709551616 = rest * 2 ^ 32 := Nat.mod_eq_of_lt (by omega)
    have m2 : ws[k] % 18446744073709551616 = ws[k] := Nat.mod_eq_of_lt (by omega)
    have m3 : rest * 2 ^ 32 % 2 ^ 64 = rest * 2 ^ 32 := Nat.mod_eq_of_lt (by omega)
    have m4 : ws[k] % 2 ^ 64 = ws[k] := Nat.mod_eq_of_lt (by omega)
    have m5 : (rest * 2 ^ 32 ||| ws[k]) = rest * 4294967296 + ws[k] := by rw [or_add (by omega)]
    have hV1 : rest * 4294967296 + ws[k] < 42949672960 := by omega
    generalize hV : rest * 4294967296 + ws[k] = V at m5 hV1
    have m6 : V % 18446744073709551616 = V := Nat.mod_eq_of_lt (by omega)
    have d1 : ((V : Nat) : Int).tdiv 10 = ((V / 10 : Nat) : Int) := by rw [show (10 : Int) = ((10 : Nat) : Int) from rfl, div_n]
    have d2 : ((V : Nat) : Int).tmod 10 = ((V % 10 : Nat) : Int) := by rw [show (10 : Int) = ((10 : Nat) : Int) from rfl, mod_n]
    have m7 : V / 10 % 18446744073709551616 = V / 10 := Nat.mod_eq_of_lt (by omega)
    have m8 : V / 10 % 4294967296 = V / 10 := Nat.mod_eq_of_lt (by omega)
    have w2 : IntKind.i64.wrap ((k : Int) - 1) = (k : Int) - 1 := wrapI (by omega)
    simp only [↓R1, R2, R3, R4, TY, reduceIte, Nat.reduceEqDiff, Nat.reduceAdd, Nat.reduceMul, Nat.reduceLT, Nat.reduceLeDiff, reduceCtorEq, decide_true, decide_false, Int.reduceLE, Int.reduceLT, Int.reduceToNat, Int.reduceAdd, Int.reduceSub, Int.reduceMul, Int.reduceEq, e6, r3, r4, r5, r6, hkl, hg, hCb, hclen, hk1, hfl, m1, m2, m3, m4, m5, m6, d1, d2, m7, m8, w2, UN]
    refine loop_on ⟨k, V % 10, (V / 10) :: qs, hCn, fun id hid => by rw [Hp.put_blk, if_neg hid]; exact hCo id hid, ?_, by simp; omega, ?_, Nat.mod_lt _ (by omega), ?_, r3, r4, rfl, rfl⟩ ?_
    · simp only [Hp.put_blk, if_true]
      rw [wc_set, List.take_succ_eq_append_getElem hkl]
      congr 3
      simp only [List.append_assoc, List.singleton_append, List.cons_append]
      rw [List.set_append_right _ _ (by rw [List.length_take]; omega), List.length_take, show k - min k ws.length = 0 by omega]
      rfl
    · intro w hw
      rcases List.mem_cons.1 hw with h | h
      · rw [h]; omega
      · exact hqw w h
    · rw [wv, wv_drop hkl, ← hV]
      exact div_step rfl hval
    · simp only [upd, r6]
      simp
  · obtain rfl : j = 0 := by omega
    rw [List.drop_zero] at hval
    rw [List.take_zero, List.nil_append] at hCb
    have hz1 : zl [.int .u8 0] 1 = [.int .u8 0] := rfl
    have a1 : (48 : Int) + (rest : Int) = ((48 + rest : Nat) : Int) := by omega
    have m1 : (48 + rest) % 18446744073709551616 = 48 + rest := Nat.mod_eq_of_lt (by omega)
    have m2 : (48 + rest) % 256 = 48 + rest := Nat.mod_eq_of_lt (by omega)
    simp only [↓R1, R2, R3, R4, TY, reduceIte, Nat.reduceEqDiff, Nat.reduceAdd, Nat.reduceMul, Nat.reduceLT, Nat.reduceLeDiff, reduceCtorEq, decide_true, decide_false, Int.reduceLE, Int.reduceLT, Int.reduceToNat, Int.reduceAdd, Int.reduceSub, Int.reduceMul, Int.reduceEq, r3, r4, r5, r6, hz1, a1, m1, m2, UN]
    have hacC : Ac C (A.next + 1) 1 so (out.map lc) := hac.keep (by omega) fun id g n c e => hCo id (by
      rcases hac.at_ with ⟨h1, _⟩ | ⟨id', g', n', c', h1, h2, h3, _⟩
      · rw [e] at h1; cases h1
      · rw [e] at h1; cases h1; omega)
    have hwv : wv ws ≠ 0 := fun h => by rw [htop h] at hlt; simp at hlt
    have hdig : wv ws % 10 = rest := by omega
    have hquo : wv ws / 10 = wv qs := by omega
    have hdlw := dl_pos hwv
    rw [hdig, hquo] at hdlw
    have hol3 : out.length < (dl N).length := by rw [← hol, hdlw]; simp
    have hxC : Xt A.next A C := ⟨fun id hid => by rw [hCo id (by omega)]; exact hx.blk id hid, by rw [hCn]; exact hx.next⟩
    have hbyte : Value.int .u8 ((48 + rest : Nat) : Int) = .int .u8 (((UInt8.ofNat (48 + rest)).toNat : Nat) : Int) := by rw [ofNat_toNat8 (by omega)]
    rw [hbyte]
    refine apn_of (lo := A.next + 1) (sz := 1) (css := out.map lc) (new := [lc (UInt8.ofNat (48 + rest))]) ty158 rfl ty5 ty158 rfl rfl (by omega) rfl (hacC.xt ((Xt.refl C).push _)) (by omega) (by rw [Hp.push_next]; omega) ⟨by simp [lc], .inr (.inr ⟨_, _, _, 0, _, rfl, rfl, rfl, by rw [Hp.push_blk, if_pos rfl], fun j x hj => by simpa [lc] using hj⟩)⟩ (by simp [lc]; rfl) (by simp; omega) (by simp; omega) ?_
    intro so' D hau hxt hn' hf hsome hid
    have hau' : Ac D (A.next + 1) 1 so' ((out ++ [UInt8.ofNat (48 + rest)]).map lc) := by simpa using hau
    have hDb : D.blk A.next = some (.row (wc (qs ++ List.replicate (ws0.length - ws.length) 0)) 0 1) := by
      rw [hxt.blk _ (by omega), Hp.push_blk, if_neg (by omega)]; exact hCb
    have hDn : A.next < D.next := by rw [Hp.push_next] at hn'; omega
    have hDx : Xt A.next A D := ⟨fun id hid => by rw [hxt.blk id (by omega), Hp.push_blk, if_neg (by omega)]; exact hxC.blk id hid, by omega⟩
    simp only [↓R1, R2, R3, R4, TY, reduceIte, Nat.reduceEqDiff, Nat.reduceAdd, Nat.reduceMul, Nat.reduceLT, Nat.reduceLeDiff, reduceCtorEq, decide_true, decide_false, Int.reduceLE, Int.reduceLT, Int.reduceToNat, Int.reduceAdd, Int.reduceSub, Int.reduceMul, Int.reduceEq, r3, r4, r5, r6]
    refine loop_of (fun τ E => E = D ∧ ∃ zs : List Nat, zs.length ≤ ws.length ∧ wv zs = wv qs ∧ W32 zs ∧ qs = zs ++ List.replicate (ws.length - zs.length) 0 ∧ τ 3 = some (.slice (some ⟨A.next, 0, some 0⟩) zs.length ws0.length) ∧ τ 4 = some so') (fun τ _ => match τ 3 with | some (.slice _ n _) => n | _ => 0) ?_ ?_
    · have hql : qs.length = ws.length := by omega
      exact ⟨rfl, qs, by omega, rfl, hqw, by simp [hql], by rw [hql]; exact r3, rfl⟩
    rintro τ2 E ⟨rfl, zs, hzl, hzv, hzw, hzq, p3, p4⟩
    have hpos2 : ((0 : Int) < (zs.length : Nat)) = (0 < zs.length) := propext (by omega)
    by_cases hz0' : zs.length = 0
    · have hzn : zs = [] := List.length_eq_zero_iff.1 hz0'
      have hf : (0 < zs.length) = False := eq_false (by omega)
      simp only [↓R1, R2, R3, R4, TY, reduceIte, Nat.reduceEqDiff, Nat.reduceAdd, Nat.reduceMul, Nat.reduceLT, Nat.reduceLeDiff, reduceCtorEq, decide_true, decide_false, Int.reduceLE, Int.reduceLT, Int.reduceToNat, Int.reduceAdd, Int.reduceSub, Int.reduceMul, Int.reduceEq, p3, p4, hpos2, hf]
      refine loop_on ⟨zs, out ++ [UInt8.ofNat (48 + rest)], so', hDx, hDn, ?_, by omega, hzw, hau', ?_, fun _ => hzn, p3, p4⟩ ?_
      · rw [hDb, hzq, List.append_assoc, List.replicate_append_replicate, show ws.length - zs.length + (ws0.length - ws.length) = ws0.length - zs.length by omega]
      · rw [hzv, List.append_assoc, List.singleton_append, ← hdlw, hdl2]
      · obtain ⟨os, cs, hso2⟩ := hau'.sl.len
        simp only [upd, Nat.reduceEqDiff, reduceIte, p4, q4, hso2, hso, List.length_map, List.length_append, List.length_singleton]
        omega
    have hzp : 0 < zs.length := by omega
    have w1 : IntKind.i64.wrap ((zs.length : Int) - 1) = ((zs.length - 1 : Nat) : Int) := by rw [wrapI (by omega)]; omega
    have hz1 : zs.length - 1 < zs.length := by omega
    have hg : E.get G ⟨A.next, zs.length - 1, some 0⟩ = some (.int .u32 (zs[zs.length - 1] : Nat)) := by
      simp only [Hp.get, hDb, if_true]
      refine wc_getq ?_
      rw [hzq, List.append_assoc, List.getElem?_append_left hz1, List.getElem?_eq_getElem hz1]
    have hzeq : (((zs[zs.length - 1] : Nat) : Int) = 0) = (zs[zs.length - 1] = 0) := propext (by omega)
    have hE : eszOK E A.next 1 = True := eq_true fun cs g e hb => by rw [hDb] at hb; cases hb; rfl
    have hz2 : zs.length - 1 ≤ zs.length := by omega
    simp only [↓R1, R2, R3, R4, TY, reduceIte, Nat.reduceEqDiff, Nat.reduceAdd, Nat.reduceMul, Nat.reduceLT, Nat.reduceLeDiff, reduceCtorEq, decide_true, decide_false, Int.reduceLE, Int.reduceLT, Int.reduceToNat, Int.reduceAdd, Int.reduceSub, Int.reduceMul, Int.reduceEq, p3, p4, hpos2, hzp, w1, hz1, hz2, hg, hzeq, hE]
    refine ⟨fun ht => ?_, fun ht => ?_⟩
    · have hsp : zs = zs.take (zs.length - 1) ++ [0] := by
        have := List.take_succ_eq_append_getElem hz1
        rw [List.take_of_length_le (by omega), ht] at this; exact this
      have htl : (zs.take (zs.length - 1)).length = zs.length - 1 := by rw [List.length_take]; omega
      refine loop_on ⟨rfl, zs.take (zs.length - 1), by omega, ?_, fun w hw => hzw w (List.mem_of_mem_take hw), ?_, ?_, p4⟩ ?_
      · rw [← hzv]; conv => rhs; rw [hsp]
        rw [wv_snoc, Nat.mul_zero, Nat.add_zero]
      · have e : ws.length - (zs.length - 1) = ws.length - zs.length + 1 := by omega
        rw [htl, e, List.replicate_succ, hzq]
        generalize ws.length - zs.length = d
        conv => lhs; rw [hsp]
        rw [List.append_assoc]; rfl
      · simp only [upd, if_true, htl]
      · simp only [upd, Nat.reduceEqDiff, reduceIte, p3]; omega
    · have htop2 : wv zs = 0 → zs = [] := fun h => by
        exfalso
        have h1 : wv (zs.take (zs.length - 1 + 1)) = wv zs := by rw [List.take_of_length_le (by omega)]
        rw [wv_take_succ hz1] at h1
        have h2 : 0 < 4294967296 ^ (zs.length - 1) * zs[zs.length - 1] := Nat.mul_pos (Nat.pow_pos (by omega)) (by omega)
        omega
      refine loop_on ⟨zs, out ++ [UInt8.ofNat (48 + rest)], so', hDx, hDn, ?_, by omega, hzw, hau', ?_, htop2, p3, p4⟩ ?_
      · rw [hDb, hzq, List.append_assoc, List.replicate_append_replicate, show ws.length - zs.length + (ws0.length - ws.length) = ws0.length - zs.length by omega]
      · rw [hzv, List.append_assoc, List.singleton_append, ← hdlw, hdl2]
      · obtain ⟨os, cs, hso2⟩ := hau'.sl.len
        simp only [upd, Nat.reduceEqDiff, reduceIte, p4, q4, hso2, hso, List.length_map, List.length_append, List.length_singleton]
        omega
end
end Go.Proofs.YthclikeipdplpaaGreatDoor.Ab

/- Numbers: the laws of arithmetic. -/
namespace Go.Proofs.YthclikeipdplpaaGreatDoor.Ab
open Go.RowKit
set_option linter.unusedVariables false
set_option linter.unusedSimpArgs false
set_option maxRecDepth 100000

theorem append_eq {α : Type} (a b : List α) : List.append a b = a ++ b := rfl
theorem nb_len_add {m n k : Nat} (hm : (nb m).length ≤ k) (hn : (nb n).length ≤ k) : (nb (m + n)).length ≤ k + 1 := by
  rw [nb_len_le] at hm hn ⊢
  rw [Nat.pow_succ]; omega
theorem nb_len_mul {m n j k : Nat} (hm : (nb m).length ≤ j) (hn : (nb n).length ≤ k) : (nb (m * n)).length ≤ j + k := by
  rw [nb_len_le] at hm hn ⊢
  rw [Nat.pow_add]
  exact Nat.mul_lt_mul'' hm hn
theorem nb_len_le' {m n k : Nat} (h : m ≤ n) (hn : (nb n).length ≤ k) : (nb m).length ≤ k := Nat.le_trans (nb_len_mono h) hn
theorem S_nb {m n : Nat} : (S (nb m) = S (nb n)) = (m = n) := by rw [S_inj]; exact propext ⟨nb_inj, fun h => by rw [h]⟩

section
variable {G : Gl} {fl : Nat} {A : Hp}

theorem addN {m n : Nat} (hm : (nb m).length ≤ 900000) (hn : (nb n).length ≤ 900000) : Sound Tryz.prog G 75 [.string (S (nb m)), .string (S (nb n))] fl A (.string (S (nb (m + n)))) A := by
  have := add_ok (G := G) (fl := fl) (A := A) (a := nb m) (b := nb n) (by rw [nv_nb]; exact hm) (by rw [nv_nb]; exact hn)
  rwa [nv_nb, nv_nb] at this
theorem mulN {m n : Nat} (hm : (nb m).length ≤ 400000) (hn : (nb n).length ≤ 400000) : Sound Tryz.prog G 80 [.string (S (nb m)), .string (S (nb n))] fl A (.string (S (nb (m * n)))) A := by
  have := mul_ok (G := G) (fl := fl) (A := A) (a := nb m) (b := nb n) (by rw [nv_nb]; exact hm) (by rw [nv_nb]; exact hn)
  rwa [nv_nb, nv_nb] at this
theorem subN {m n : Nat} (hm : (nb m).length ≤ 900000) (hn : (nb n).length ≤ 900000) : Sound Tryz.prog G 113 [.string (S (nb m)), .string (S (nb n))] fl A (.tuple [Value.string (S (nb (subR m n).1)), .int .i64 (subR m n).2].toArray) A := by
  have := sub_ok (G := G) (fl := fl) (A := A) (a := nb m) (b := nb n) (by rw [nv_nb]; exact hm) (by rw [nv_nb]; exact hn)
  rwa [nv_nb, nv_nb] at this
theorem cmpN_ok (m n : Nat) : Sound Tryz.prog G 79 [.string (S (nb m)), .string (S (nb n))] fl A (.int .i64 (cmpN m n)) A := by
  have := cmp_ok (G := G) (fl := fl) (A := A) (nb m) (nb n)
  rwa [nv_nb, nv_nb] at this
theorem textN {m : Nat} (hm : (nb m).length ≤ 900000) : Sound Tryz.prog G 165 [.string (S (nb m))] fl A (.string (S (dec m))) A := by
  have := decText_ok (G := G) (fl := fl) (A := A) (l := nb m) (by rw [nv_nb]; exact hm)
  rwa [nv_nb] at this

theorem nb_small {n : Nat} (h0 : 0 < n) (h : n < 256) : nb n = [UInt8.ofNat n] := by
  rw [nb_pos (by omega), Nat.div_eq_of_lt h, nb_zero, Nat.mod_eq_of_lt h]; rfl

end
end Go.Proofs.YthclikeipdplpaaGreatDoor.Ab
