/- Numbers: Sub. -/
import Derived.Test.YtjkimjmocfjjnaaDoorNg
namespace Go.Proofs.YtjkimjmocfjjnaaDoor.Ab
open Go.RowKit
set_option linter.unusedVariables false
set_option linter.unusedSimpArgs false
set_option maxRecDepth 100000

theorem u64_sub {a b : Nat} (h : b ≤ 18446744073709551616) : IntKind.u64.wrap ((a : Int) - (b : Int)) = (((a + 18446744073709551616 - b) % 18446744073709551616 : Nat) : Int) := by
  rw [wrap_u64]; omega

theorem wc_getq {l : List Nat} {j w : Nat} (h : l[j]? = some w) : (wc l)[j]? = some (.int .u32 (w : Nat)) := by simp [wc, h]
theorem cmpN_neg {m n : Nat} : (cmpN m n < 0) = (m < n) :=
  propext ⟨fun h => by
    unfold cmpN at h
    split at h
    · assumption
    · split at h <;> omega, fun h => by unfold cmpN; rw [if_pos h]; decide⟩

section
variable {G : Gl} {fl : Nat} {A : Hp}

/-- A body that ends with one old block put anew. -/
theorem Ended.put {B : Hp} {r v : Value} {id g sz : Nat} {cells : List Value} (hA : Hok fl A) (hid : id < A.next) (hB : ∀ i, i < A.next → B.blk i = (A.put id (.row cells g sz)).blk i) (hv : r = v) (hr : RB A.next v) (hc : ∀ u ∈ cells, RB A.next u) :
    Ended A r B v (A.put id (.row cells g sz)) := by
  subst hv
  refine ⟨fun _ => none, ⟨Nat.le_refl _, fun i hi => (hB i hi).symm, fun i hi cs g' e hb => ?_, fun i hi => ?_, fun k h1 h2 => ?_, fun k p h => (by cases h), fun k k' i sh sh' h => (by cases h)⟩, .same hr⟩
  · rw [hB i hi, Hp.put_blk] at hb
    split at hb
    · cases hb; exact .inr hc
    · exact .inl hb
  · rw [Hp.put_blk]
    have hi' : A.next ≤ i := hi
    rw [if_neg (by omega)]; exact hA.wf i hi'
  · have : k < A.next := h2; omega

theorem less_ok {id id' n' c' : Nat} {xs ys : List Nat} (hid : fl ≤ id) (hidn : id < A.next) (hne : id' ≠ id) (hbx : A.blk id = some (.row (wc xs) 0 1)) (hby : A.blk id' = some (.row (wc ys) 0 1)) (hxl : xs.length ≤ 100000000000) (hyl : ys.length ≤ xs.length) (kx : W32 xs) (ky : W32 ys) (hle : wv ys ≤ wv xs) :
    Sound Tryd.prog G 113 [.slice (some ⟨id, 0, some 0⟩) xs.length xs.length, .slice (some ⟨id', 0, some 0⟩) ys.length ys.length] fl A (.tuple #[]) (A.put id (.row (wc (wl (wv xs - wv ys) xs.length)) 0 1)) := by
  refine Sound.of mixed Tryd.func113 Tryd.ntmps113 Tryd.results113 (by kernel_rfl) rfl (by kernel_rfl) (by kernel_rfl) fun hA => ?_
  simp only [↓R1, R2, R3, R4, TY, reduceIte, Nat.reduceEqDiff, Nat.reduceAdd, Nat.reduceMul, Nat.reduceLT, Nat.reduceLeDiff, reduceCtorEq, decide_true, decide_false, Int.reduceLE, Int.reduceLT, Int.reduceToNat, Int.reduceAdd, Int.reduceSub, Int.reduceMul, Int.reduceEq]
  have hidn' : id' < A.next := hA.lt hby
  refine range_of 10 xs.length (fun j τ B => ∃ (zs : List Nat) (bw : Nat), B.next = A.next ∧ B.blk id = some (.row (wc (zs ++ xs.drop j)) 0 1) ∧ (∀ i, i < A.next → i ≠ id → B.blk i = A.blk i) ∧ zs.length = j ∧ W32 zs ∧ bw ≤ 1 ∧ wv zs + wv (ys.take j) = wv (xs.take j) + 4294967296 ^ j * bw ∧
    τ 0 = some (.slice (some ⟨id, 0, some 0⟩) xs.length xs.length) ∧ τ 1 = some (.slice (some ⟨id', 0, some 0⟩) ys.length ys.length) ∧ τ 4 = some (.int .u64 (bw : Nat)) ∧ τ 8 = some (.slice (some ⟨id, 0, some 0⟩) xs.length xs.length) ∧ τ 9 = some (.int .i64 xs.length) ∧ τ 10 = some (.int .i64 j)) ?_ ?_
  · exact ⟨[], 0, rfl, by simpa using hbx, fun _ _ _ => rfl, rfl, by intro w hw; simp at hw, by omega, by simp [wv], rfl, rfl, rfl, rfl, rfl, rfl⟩
  rintro j τ B hj ⟨zs, bw, hn, hb, hold, hzl, hzw, hbw, hsum, q0, q1, q4, q8, q9, q10⟩
  simp only [↓R1, R2, R3, R4, TY, reduceIte, Nat.reduceEqDiff, Nat.reduceAdd, Nat.reduceMul, Nat.reduceLT, Nat.reduceLeDiff, reduceCtorEq, decide_true, decide_false, Int.reduceLE, Int.reduceLT, Int.reduceToNat, Int.reduceAdd, Int.reduceSub, Int.reduceMul, Int.reduceEq, q0, q1, q4, q8, q9, q10]
  refine ⟨fun hlt => ?_, fun hlt => ?_⟩
  rotate_left
  · obtain rfl : j = xs.length := by omega
    rw [List.drop_length, List.append_nil] at hb
    rw [List.take_length, List.take_of_length_le hyl] at hsum
    have hz := wv_lt hzw
    rw [hzl] at hz
    have hb0 : bw = 0 := by
      rcases Nat.lt_or_ge 0 bw with h | h
      · have : bw = 1 := by omega
        rw [this] at hsum; omega
      · omega
    rw [hb0] at hsum
    have hzv : wl (wv xs - wv ys) xs.length = zs := by
      rw [show wv xs - wv ys = wv zs by omega, ← hzl, wl_wv hzw]
    rw [hzv]
    refine Ended.put hA hidn (fun i hi => ?_) rfl (RB.tuple (by simp)) (wc_rb _ _)
    rw [Hp.put_blk]
    split
    · rename_i h; rw [h]; exact hb
    · rename_i h; exact hold i hi h
  have hj63 : j < 9223372036854775807 := by omega
  have hget : (zs ++ xs.drop j)[j]? = some xs[j] := by
    rw [List.getElem?_append_right (by omega), hzl, Nat.sub_self, List.getElem?_drop, Nat.add_zero, List.getElem?_eq_getElem hlt]
  have hgx : B.get G ⟨id, j, some 0⟩ = some (.int .u32 (xs[j] : Nat)) := by
    simp only [Hp.get, hb, if_true]; exact wc_getq hget
  have hx32 : xs[j] < 4294967296 := kx _ (List.getElem_mem hlt)
  have hlen : (wc (zs ++ xs.drop j)).length = xs.length := by rw [wc_length, List.length_append, List.length_drop, hzl]; omega
  have hj1 : j + 1 ≤ xs.length := by omega
  have m1 : xs[j] % 18446744073709551616 = xs[j] := Nat.mod_eq_of_lt (by omega)
  have s1 := u64_sub (a := xs[j]) (b := bw) (by omega)
  have hset : ∀ z : Nat, (wc (zs ++ xs.drop j)).set j (.int .u32 (z : Nat)) = wc ((zs ++ [z]) ++ xs.drop (j + 1)) := fun z => by
    rw [wc_set, List.drop_eq_getElem_cons hlt, set_snoc hzl]
  have fin : ∀ (z bw' y : Nat) (hz : z < 4294967296) (hb' : bw' ≤ 1) (τ' : Tm), z + y + bw = xs[j] + 4294967296 * bw' → wv (ys.take (j + 1)) = wv (ys.take j) + 4294967296 ^ j * y → 
      wv (zs ++ [z]) + wv (ys.take (j + 1)) = wv (xs.take (j + 1)) + 4294967296 ^ (j + 1) * bw' := fun z bw' y hz hb' τ' h1 h2 => by
    rw [wv_snoc, hzl, wv_take_succ hlt, h2, Nat.pow_succ]
    generalize (4294967296 : Nat) ^ j = p at hsum ⊢
    have : p * z + p * y + p * bw = p * xs[j] + p * 4294967296 * bw' := by
      rw [← Nat.mul_add, ← Nat.mul_add, h1, Nat.mul_add, Nat.mul_assoc]
    omega
  by_cases hy : j < ys.length
  · have hby' : B.blk id' = some (.row (wc ys) 0 1) := by rw [hold id' hidn' hne]; exact hby
    have hgy : B.get G ⟨id', j, some 0⟩ = some (.int .u32 (ys[j] : Nat)) := by simp only [Hp.get, hby', if_true]; exact wc_get hy
    have hy32 : ys[j] < 4294967296 := ky _ (List.getElem_mem hy)
    have m2 : ys[j] % 18446744073709551616 = ys[j] := Nat.mod_eq_of_lt (by omega)
    have s2 := u64_sub (a := (xs[j] + 18446744073709551616 - bw) % 18446744073709551616) (b := ys[j]) (by omega)
    simp only [↓R1, R2, R3, R4, TY, reduceIte, Nat.reduceEqDiff, Nat.reduceAdd, Nat.reduceMul, Nat.reduceLT, Nat.reduceLeDiff, reduceCtorEq, decide_true, decide_false, Int.reduceLE, Int.reduceLT, Int.reduceToNat, Int.reduceAdd, Int.reduceSub, Int.reduceMul, Int.reduceEq, q0, q1, q4, q8, q9, q10, hlt, hj63, hgx, hgy, hy, hb, hlen, hj1, hid, m1, m2, s1, s2, UN]
    refine range_on q10 hlt rfl ⟨zs ++ [((xs[j] + 18446744073709551616 - bw) % 18446744073709551616 + 18446744073709551616 - ys[j]) % 18446744073709551616 % 4294967296],
      ((xs[j] + 18446744073709551616 - bw) % 18446744073709551616 + 18446744073709551616 - ys[j]) % 18446744073709551616 / 2 ^ 63, hn, ?_, fun i hi hne => ?_, by simp [hzl], ?_, by omega, ?_, q0, q1, rfl, q8, q9, rfl⟩
    · simp only [Hp.put_blk, if_true]; rw [hset]
    · rw [Hp.put_blk, if_neg hne]; exact hold i hi hne
    · intro w hw
      rcases List.mem_append.1 hw with h | h
      · exact hzw w h
      · rw [List.mem_singleton.1 h]; exact Nat.mod_lt _ (by omega)
    · exact fin _ _ ys[j] (Nat.mod_lt _ (by omega)) (by omega) τ (by omega) (wv_take_succ hy)
  · simp only [↓R1, R2, R3, R4, TY, reduceIte, Nat.reduceEqDiff, Nat.reduceAdd, Nat.reduceMul, Nat.reduceLT, Nat.reduceLeDiff, reduceCtorEq, decide_true, decide_false, Int.reduceLE, Int.reduceLT, Int.reduceToNat, Int.reduceAdd, Int.reduceSub, Int.reduceMul, Int.reduceEq, q0, q1, q4, q8, q9, q10, hlt, hj63, hgx, hy, hb, hlen, hj1, hid, m1, s1, UN]
    refine range_on q10 hlt rfl ⟨zs ++ [(xs[j] + 18446744073709551616 - bw) % 18446744073709551616 % 4294967296],
      (xs[j] + 18446744073709551616 - bw) % 18446744073709551616 / 2 ^ 63, hn, ?_, fun i hi hne => ?_, by simp [hzl], ?_, by omega, ?_, q0, q1, rfl, q8, q9, rfl⟩
    · simp only [Hp.put_blk, if_true]; rw [hset]
    · rw [Hp.put_blk, if_neg hne]; exact hold i hi hne
    · intro w hw
      rcases List.mem_append.1 hw with h | h
      · exact hzw w h
      · rw [List.mem_singleton.1 h]; exact Nat.mod_lt _ (by omega)
    · exact fin _ _ 0 (Nat.mod_lt _ (by omega)) (by omega) τ (by omega) (by rw [List.take_of_length_le (show ys.length ≤ j by omega), List.take_of_length_le (show ys.length ≤ j + 1 by omega)]; simp)

/-- What Sub answers. -/
def subR (m n : Nat) : Nat × Int := if m < n then (0, 1) else (m - n, 0)
theorem sub_ok {a b : List UInt8} (ha : (nb (nv a)).length ≤ 90000000000) (hb : (nb (nv b)).length ≤ 90000000000) :
    Sound Tryd.prog G 97 [.string (S a), .string (S b)] fl A (.tuple [Value.string (S (nb (subR (nv a) (nv b)).1)), .int .i64 (subR (nv a) (nv b)).2].toArray) A := by
  refine Sound.of mixed Tryd.func97 Tryd.ntmps97 Tryd.results97 (by kernel_rfl) rfl (by kernel_rfl) (by kernel_rfl) fun hA => ?_
  have hres : ∀ (x y : Value) (B : Hp), Xt A.next A B → x = .string (S (nb (subR (nv a) (nv b)).1)) → y = .int .i64 (subR (nv a) (nv b)).2 → Ended A (.tuple [x, y].toArray) B (.tuple [Value.string (S (nb (subR (nv a) (nv b)).1)), .int .i64 (subR (nv a) (nv b)).2].toArray) A := by
    rintro x y B hx rfl rfl
    refine Ended.back hA hx rfl (RB.tuple fun w hw => ?_)
    simp only [List.mem_cons, List.not_mem_nil, or_false] at hw
    rcases hw with rfl | rfl
    · exact RB.string _
    · exact RB.int _ _
  simp only [↓R1, R2, R3, R4, TY, reduceIte, Nat.reduceEqDiff, Nat.reduceAdd, Nat.reduceMul, Nat.reduceLT, Nat.reduceLeDiff, reduceCtorEq, decide_true, decide_false, Int.reduceLE, Int.reduceLT, Int.reduceToNat, Int.reduceAdd, Int.reduceSub, Int.reduceMul, Int.reduceEq]
  refine call_of (cmp_ok a b) ?_
  have hc := cmpN_neg (m := nv a) (n := nv b)
  simp only [↓R1, R2, R3, R4, TY, reduceIte, Nat.reduceEqDiff, Nat.reduceAdd, Nat.reduceMul, Nat.reduceLT, Nat.reduceLeDiff, reduceCtorEq, decide_true, decide_false, Int.reduceLE, Int.reduceLT, Int.reduceToNat, Int.reduceAdd, Int.reduceSub, Int.reduceMul, Int.reduceEq, hc]
  refine ⟨fun h => hres _ _ _ (Xt.refl _) (by rw [subR, if_pos h, nb_zero]) (by rw [subR, if_pos h]), fun h => ?_⟩
  have xa : (wds (nv a)).length ≤ 25000000000 := wds_len_le (by omega)
  have xb : (wds (nv b)).length ≤ (wds (nv a)).length := by
    have := nb_len_mono (show nv b ≤ nv a by omega)
    rw [wds_length, wds_length]; omega
  refine call_of (words_ok (l := a) (by omega)) ?_
  simp only [↓R1, R2, R3, R4, TY, reduceIte, Nat.reduceEqDiff, Nat.reduceAdd, Nat.reduceMul, Nat.reduceLT, Nat.reduceLeDiff, reduceCtorEq, decide_true, decide_false, Int.reduceLE, Int.reduceLT, Int.reduceToNat, Int.reduceAdd, Int.reduceSub, Int.reduceMul, Int.reduceEq]
  refine call_of (words_ok (l := b) (by omega)) ?_
  simp only [↓R1, R2, R3, R4, TY, reduceIte, Nat.reduceEqDiff, Nat.reduceAdd, Nat.reduceMul, Nat.reduceLT, Nat.reduceLeDiff, reduceCtorEq, decide_true, decide_false, Int.reduceLE, Int.reduceLT, Int.reduceToNat, Int.reduceAdd, Int.reduceSub, Int.reduceMul, Int.reduceEq]
  have kx := wds_w32 (nv a)
  have ky := wds_w32 (nv b)
  have va := wv_wds (nv a)
  have vb := wv_wds (nv b)
  generalize wds (nv a) = xs at xa xb kx va ⊢
  generalize wds (nv b) = ys at xb ky vb ⊢
  generalize hH : Hp.push _ (Blk.row (wc ys) 0 1) = H
  have hHn : H.next = A.next + 2 := by rw [← hH]; rfl
  have hHa : H.blk A.next = some (.row (wc xs) 0 1) := by rw [← hH]; simp [Hp.push_blk]
  have hHb : H.blk (A.next + 1) = some (.row (wc ys) 0 1) := by rw [← hH]; simp [Hp.push_blk]
  have hHx : Xt A.next A H := by rw [← hH]; exact ((Xt.refl A).push _).push _
  have hfl : fl ≤ A.next := hA.floor
  refine call_of (less_ok (id := A.next) (id' := A.next + 1) (n' := 0) (c' := 0) hfl (by omega) (by omega) hHa hHb (by omega) xb kx ky (by omega)) ?_
  simp only [↓R1, R2, R3, R4, TY, reduceIte, Nat.reduceEqDiff, Nat.reduceAdd, Nat.reduceMul, Nat.reduceLT, Nat.reduceLeDiff, reduceCtorEq, decide_true, decide_false, Int.reduceLE, Int.reduceLT, Int.reduceToNat, Int.reduceAdd, Int.reduceSub, Int.reduceMul, Int.reduceEq]
  generalize hD : Hp.put _ _ _ = D
  have hDb : D.blk A.next = some (.row (wc (wl (wv xs - wv ys) xs.length)) 0 1) := by rw [← hD]; simp [Hp.put_blk]
  have hDx : Xt A.next A D := by rw [← hD]; exact hHx.put (Nat.le_refl _) _
  refine call_of (text_ok (ws := wl (wv xs - wv ys) xs.length) (by rw [wl_length]; omega) (wl_w32 _ _) (sl_row hDb (wl_length _ _))) ?_
  simp only [↓R1, R2, R3, R4, TY, reduceIte, Nat.reduceEqDiff, Nat.reduceAdd, Nat.reduceMul, Nat.reduceLT, Nat.reduceLeDiff, reduceCtorEq, decide_true, decide_false, Int.reduceLE, Int.reduceLT, Int.reduceToNat, Int.reduceAdd, Int.reduceSub, Int.reduceMul, Int.reduceEq]
  refine hres _ _ _ hDx ?_ (by rw [subR, if_neg h])
  rw [subR, if_neg h, wv_wl', va, vb]
  have := wv_lt kx
  omega
end
end Go.Proofs.YtjkimjmocfjjnaaDoor.Ab

/- Numbers: what a law begins with. -/
namespace Go.Proofs.YtjkimjmocfjjnaaDoor.Ab
open Go.RowKit
set_option linter.unusedVariables false
set_option linter.unusedSimpArgs false
set_option maxRecDepth 100000

section
variable {G : Gl} {fl : Nat} {A : Hp}

/-- What a law reads of a string. -/
def bare (l : List UInt8) : Nat := nv (l.take 60)
theorem bare_len (l : List UInt8) : (nb (bare l)).length ≤ 60 := Nat.le_trans (nb_len_nv _) (by rw [List.length_take]; omega)
end
end Go.Proofs.YtjkimjmocfjjnaaDoor.Ab

/- Numbers: their decimal notation. -/
namespace Go.Proofs.YtjkimjmocfjjnaaDoor.Ab
open Go.RowKit
set_option linter.unusedVariables false
set_option linter.unusedSimpArgs false
set_option maxRecDepth 100000

/-- A number's decimal digits, the least first, as letters. -/
def dl (n : Nat) : List UInt8 := if h : n = 0 then [] else UInt8.ofNat (48 + n % 10) :: dl (n / 10)
termination_by n
decreasing_by omega
theorem dl_zero : dl 0 = [] := by rw [dl]; simp
theorem dl_pos {n : Nat} (h : n ≠ 0) : dl n = UInt8.ofNat (48 + n % 10) :: dl (n / 10) := by rw [dl, dif_neg h]
/-- A number's decimal notation. -/
def dec (n : Nat) : List UInt8 := if n = 0 then [48] else (dl n).reverse
theorem dl_len {n k : Nat} (h : n < 10 ^ k) : (dl n).length ≤ k := by
  induction k generalizing n with
  | zero => rw [show n = 0 by omega, dl_zero]; simp
  | succ k ih =>
    by_cases h0 : n = 0
    · rw [h0, dl_zero]; simp
    · rw [dl_pos h0, List.length_cons]
      have := ih (n := n / 10) (by rw [Nat.pow_succ] at h; omega)
      omega
theorem nb_dec_len {n k : Nat} (h : (nb n).length ≤ k) : (dl n).length ≤ 3 * k := by
  refine dl_len (Nat.lt_of_lt_of_le (nb_len_le.1 h) ?_)
  rw [Nat.pow_mul]; exact Nat.pow_le_pow_left (by omega) _

/-- One step of the division of digits by 10. -/
theorem div_step {w r B q V : Nat} (hB : B = 4294967296) (h : q * 10 + r = V) : ((r * B + w) / 10 + B * q) * 10 + (r * B + w) % 10 = w + B * V := by
  have := Nat.div_add_mod (r * B + w) 10
  rw [Nat.add_mul, ← h, Nat.mul_add, Nat.mul_assoc, Nat.mul_comm r B]
  rw [Nat.mul_comm r B] at this
  omega
theorem wv_drop {l : List Nat} {j : Nat} (h : j < l.length) : wv (l.drop j) = l[j] + 4294967296 * wv (l.drop (j + 1)) := by
  rw [List.drop_eq_getElem_cons h, wv]

/-- The first and the last letters have changed their places. -/
def rv (l : List UInt8) (i : Nat) : List UInt8 := (List.range l.length).map fun q => if q < i ∨ l.length - i ≤ q then l.getD (l.length - 1 - q) 0 else l.getD q 0
theorem rv_length (l : List UInt8) (i : Nat) : (rv l i).length = l.length := by simp [rv]
theorem rv_get {l : List UInt8} {i q : Nat} (h : q < l.length) : (rv l i)[q]? = some (if q < i ∨ l.length - i ≤ q then l.getD (l.length - 1 - q) 0 else l.getD q 0) := by simp [rv, h]
theorem rv_zero (l : List UInt8) : rv l 0 = l := by
  apply List.ext_getElem?
  intro q
  by_cases h : q < l.length
  · rw [rv_get h, if_neg (by omega), List.getD_eq_getElem?_getD, List.getElem?_eq_getElem h]; rfl
  · rw [List.getElem?_eq_none (by rw [rv_length]; omega), List.getElem?_eq_none (by omega)]
theorem rv_end {l : List UInt8} {i : Nat} (h : l.length - 1 - i ≤ i) : rv l i = l.reverse := by
  apply List.ext_getElem?
  intro q
  by_cases hq : q < l.length
  · rw [rv_get hq, List.getElem?_reverse hq]
    by_cases hc : q < i ∨ l.length - i ≤ q
    · rw [if_pos hc, List.getD_eq_getElem?_getD, List.getElem?_eq_getElem (show l.length - 1 - q < l.length by omega)]; rfl
    · rw [if_neg hc, List.getD_eq_getElem?_getD, show l.length - 1 - q = q by omega, List.getElem?_eq_getElem hq]; rfl
  · rw [List.getElem?_eq_none (by rw [rv_length]; omega), List.getElem?_eq_none (by rw [List.length_reverse]; omega)]
theorem rv_succ {l : List UInt8} {i : Nat} (h : i < l.length - 1 - i) : ((rv l i).set i (l.getD (l.length - 1 - i) 0)).set (l.length - 1 - i) (l.getD i 0) = rv l (i + 1) := by
  apply List.ext_getElem?
  intro q
  rw [List.getElem?_set, List.getElem?_set, List.length_set, rv_length]
  by_cases hq : q < l.length
  · rw [rv_get hq, rv_get hq]
    by_cases h1 : l.length - 1 - i = q
    · rw [if_pos h1, if_pos (by omega), if_pos (by omega), show l.length - 1 - q = i by omega]
    · rw [if_neg h1]
      by_cases h2 : i = q
      · rw [if_pos h2, if_pos (by omega), if_pos (by omega), h2]
      · rw [if_neg h2]
        congr 1
        by_cases hc : q < i ∨ l.length - i ≤ q
        · rw [if_pos hc, if_pos (by omega)]
        · rw [if_neg hc, if_neg (by omega)]
  · rw [List.getElem?_eq_none (l := rv l i) (by rw [rv_length]; omega), List.getElem?_eq_none (l := rv l (i + 1)) (by rw [rv_length]; omega)]
    split
    · omega
    · split
      · omega
      · rfl

section
variable {G : Gl} {fl : Nat} {A : Hp}

/-- Letters that a body has appended. -/
def lc (b : UInt8) : List Value := [.int .u8 (b.toNat : Nat)]
theorem lc_flat (l : List UInt8) : (l.map lc).flatten = bl l := by
  induction l with
  | nil => rfl
  | cons w l ih => simp only [List.map_cons, List.flatten_cons, ih]; rfl

end
end Go.Proofs.YtjkimjmocfjjnaaDoor.Ab

/- Numbers: the laws of arithmetic. -/
namespace Go.Proofs.YtjkimjmocfjjnaaDoor.Ab
open Go.RowKit
set_option linter.unusedVariables false
set_option linter.unusedSimpArgs false
set_option maxRecDepth 100000

theorem append_eq {α : Type} (a b : List α) : List.append a b = a ++ b := rfl
theorem nb_len_add {m n k : Nat} (hm : (nb m).length ≤ k) (hn : (nb n).length ≤ k) : (nb (m + n)).length ≤ k + 1 := by
  rw [nb_len_le] at hm hn ⊢
  rw [Nat.pow_succ]; omega
theorem nb_len_mul {m n j k : Nat} (hm : (nb m).length ≤ j) (hn : (nb n).length ≤ k) : (nb (m * n)).length ≤ j + k := by
  rw [nb_len_le] at hm hn ⊢
  rw [Nat.pow_add]
  exact Nat.mul_lt_mul'' hm hn
theorem nb_len_le' {m n k : Nat} (h : m ≤ n) (hn : (nb n).length ≤ k) : (nb m).length ≤ k := Nat.le_trans (nb_len_mono h) hn
theorem S_nb {m n : Nat} : (S (nb m) = S (nb n)) = (m = n) := by rw [S_inj]; exact propext ⟨nb_inj, fun h => by rw [h]⟩

section
variable {G : Gl} {fl : Nat} {A : Hp}

theorem addN {m n : Nat} (hm : (nb m).length ≤ 90000000000) (hn : (nb n).length ≤ 90000000000) : Sound Tryd.prog G 67 [.string (S (nb m)), .string (S (nb n))] fl A (.string (S (nb (m + n)))) A := by
  have := add_ok (G := G) (fl := fl) (A := A) (a := nb m) (b := nb n) (by rw [nv_nb]; exact hm) (by rw [nv_nb]; exact hn)
  rwa [nv_nb, nv_nb] at this
theorem mulN {m n : Nat} (hm : (nb m).length ≤ 40000000000) (hn : (nb n).length ≤ 40000000000) : Sound Tryd.prog G 64 [.string (S (nb m)), .string (S (nb n))] fl A (.string (S (nb (m * n)))) A := by
  have := mul_ok (G := G) (fl := fl) (A := A) (a := nb m) (b := nb n) (by rw [nv_nb]; exact hm) (by rw [nv_nb]; exact hn)
  rwa [nv_nb, nv_nb] at this
theorem subN {m n : Nat} (hm : (nb m).length ≤ 90000000000) (hn : (nb n).length ≤ 90000000000) : Sound Tryd.prog G 97 [.string (S (nb m)), .string (S (nb n))] fl A (.tuple [Value.string (S (nb (subR m n).1)), .int .i64 (subR m n).2].toArray) A := by
  have := sub_ok (G := G) (fl := fl) (A := A) (a := nb m) (b := nb n) (by rw [nv_nb]; exact hm) (by rw [nv_nb]; exact hn)
  rwa [nv_nb, nv_nb] at this
theorem cmpN_ok (m n : Nat) : Sound Tryd.prog G 63 [.string (S (nb m)), .string (S (nb n))] fl A (.int .i64 (cmpN m n)) A := by
  have := cmp_ok (G := G) (fl := fl) (A := A) (nb m) (nb n)
  rwa [nv_nb, nv_nb] at this
theorem nb_small {n : Nat} (h0 : 0 < n) (h : n < 256) : nb n = [UInt8.ofNat n] := by
  rw [nb_pos (by omega), Nat.div_eq_of_lt h, nb_zero, Nat.mod_eq_of_lt h]; rfl

end
end Go.Proofs.YtjkimjmocfjjnaaDoor.Ab
