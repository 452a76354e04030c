/- Numbers: words, text, Of, Cmp. -/
import Derived.Test.YtpaffoiiipgkeaaDoorNc
namespace Go.Proofs.YtpaffoiiipgkeaaDoor.Ab
open Go.RowKit
set_option linter.unusedVariables false
set_option linter.unusedSimpArgs false
set_option maxRecDepth 100000

/-- A row of digits. -/
def wc (l : List Nat) : List Value := l.map fun w => .int .u32 (w : Nat)
def uc (w : Nat) : List Value := [.int .u32 (w : Nat)]
theorem wc_length (l : List Nat) : (wc l).length = l.length := by simp [wc]
theorem wc_get {l : List Nat} {j : Nat} (h : j < l.length) : (wc l)[j]? = some (.int .u32 (l[j] : Nat)) := by simp [wc, h]
theorem wc_set {l : List Nat} {j : Nat} {w : Nat} : (wc l).set j (.int .u32 (w : Nat)) = wc (l.set j w) := by simp [wc, List.map_set]
theorem wc_flat (l : List Nat) : (l.map uc).flatten = wc l := by
  induction l with
  | nil => rfl
  | cons w l ih => simp only [List.map_cons, List.flatten_cons, ih]; rfl
theorem wc_zeros (k : Nat) : List.replicate k (Value.int .u32 0) = wc (List.replicate k 0) := by simp [wc]

theorem zl_one (x : Value) (n : Nat) : zl [x] n = List.replicate n x := by
  apply List.ext_getElem
  · simp [zl]
  · intro i h1 h2; simp [zl, Nat.mod_one]

section
variable {G : Gl} {fl : Nat} {A : Hp}

theorem wc_rb (n : Nat) (l : List Nat) : ∀ u ∈ wc l, RB n u := by
  intro u hu
  simp only [wc, List.mem_map] at hu
  obtain ⟨w, _, rfl⟩ := hu
  exact RB.int _ _
/-- A slice over a row. -/
theorem sl_row {id g n c : Nat} {l : List Nat} (hb : A.blk id = some (.row (wc l) g 1)) (hn : l.length = n) : Sl A 1 (.slice (some ⟨id, 0, some g⟩) n c) (l.map uc) :=
  ⟨by simp [uc], .inr (.inr ⟨_, n, c, g, _, rfl, by simp [hn], rfl, hb, fun j x hj => by rw [wc_flat] at hj; simpa using hj⟩)⟩
theorem word_get {B : Hp} {a : Addr} {n c : Nat} {l : List Nat} (h : Sl B 1 (.slice (some a) n c) (l.map uc)) {i : Nat} (hi : i < l.length) : B.get G (aadd a i) = some (.int .u32 (l[i] : Nat)) := by
  obtain ⟨a', h1, h2⟩ := h.at (G := G) (i := i) (by simpa using hi)
  cases h1
  simp only [List.getElem_map] at h2
  have := h2 0 _ rfl
  simpa using this
/-- A body that ends with a slice over one new row. -/
theorem Ended.one {B : Hp} {id g sz n c : Nat} {cells : List Value} (hA : Hok fl A) (x : Xt A.next A B) (hid : A.next ≤ id) (hb : B.blk id = some (.row cells g sz)) (hnc : n ≤ c) (hr : ∀ u ∈ cells, RB A.next u) :
    Ended A (.slice (some ⟨id, 0, some g⟩) n c) B (.slice (some ⟨A.next, 0, some 0⟩) n n) (A.push (.row cells 0 sz)) := ⟨_, told_one hA x hid hb hr, rr_one hb hnc⟩

theorem words_ok {l : List UInt8} (hl : (nb (nv l)).length ≤ 1000000) :
    Sound Tryd.prog G 47 [.string (S l)] fl A (.slice (some ⟨A.next, 0, some 0⟩) (wds (nv l)).length (wds (nv l)).length) (A.push (.row (wc (wds (nv l))) 0 1)) := by
  refine Sound.of mixed Tryd.func47 Tryd.ntmps47 Tryd.results47 (by kernel_rfl) rfl (by kernel_rfl) (by simp) fun hA => ?_
  simp only [↓R1, R2, R3, R4, TY, reduceIte, Nat.reduceEqDiff, Nat.reduceAdd, Nat.reduceMul, Nat.reduceLT, Nat.reduceLeDiff, reduceCtorEq, decide_true, decide_false, Int.reduceLE, Int.reduceLT, Int.reduceToNat, Int.reduceAdd, Int.reduceSub, Int.reduceMul, Int.reduceEq]
  refine call_of (trim_ok l) ?_
  rw [wds_length]
  have hdef : wds (nv l) = wl (nv (nb (nv l))) (((nb (nv l)).length + 3) / 4) := by rw [nv_nb]; rfl
  rw [hdef]
  generalize nb (nv l) = m at hl ⊢
  have w1 : IntKind.i64.wrap ((m.length : Int) + 3) = ((m.length + 3 : Nat) : Int) := by rw [wrapI (by omega)]; omega
  have w2 : ((m.length + 3 : Nat) : Int).tdiv 4 = (((m.length + 3) / 4 : Nat) : Int) := by rw [show (4 : Int) = ((4 : Nat) : Int) from rfl, div_n]
  have w3 : IntKind.i64.wrap ((((m.length + 3) / 4 : Nat)) : Int) = (((m.length + 3) / 4 : Nat) : Int) := wrapI (by omega)
  have w4 : ((4 : Nat) : Int) * (((m.length + 3) / 4 : Nat) : Int) ≤ 281474976710656 := by omega
  have w5 : (((m.length + 3) / 4 : Nat) : Int) ≤ 9223372036854775807 := by omega
  simp only [↓R1, R2, R3, R4, TY, reduceIte, Nat.reduceEqDiff, Nat.reduceAdd, Nat.reduceMul, Nat.reduceLT, Nat.reduceLeDiff, reduceCtorEq, decide_true, decide_false, Int.reduceLE, Int.reduceLT, Int.reduceToNat, Int.reduceAdd, Int.reduceSub, Int.reduceMul, Int.reduceEq, S_size, w1, w2, w3, w4, w5]
  refine range_of 15 m.length (fun j τ B => Xt A.next A B ∧ B.next = A.next + 1 ∧ B.blk A.next = some (.row (wc (wl (nv (m.drop (m.length - j))) ((m.length + 3) / 4))) 0 1) ∧ τ 0 = some (.string (S m)) ∧ τ 3 = some (.slice (some ⟨A.next, 0, some 0⟩) ((m.length + 3) / 4) ((m.length + 3) / 4)) ∧ τ 14 = some (.int .i64 m.length) ∧ τ 15 = some (.int .i64 j)) ?_ ?_
  · refine ⟨(Xt.refl A).push _, rfl, ?_, rfl, rfl, rfl, rfl⟩
    rw [Hp.push_blk, if_pos rfl, zl_one, wc_zeros, show m.drop (m.length - 0) = [] by simp]
    have : wl (nv []) ((m.length + 3) / 4) = List.replicate ((m.length + 3) / 4) 0 := by
      apply List.ext_getElem
      · simp [wl]
      · intro i h1 h2; simp [wl, nv_nil]
    rw [this]
  rintro j τ B hj ⟨hx, hn1, hb, q0, q3, q14, q15⟩
  simp only [↓R1, R2, R3, R4, TY, reduceIte, Nat.reduceEqDiff, Nat.reduceAdd, Nat.reduceMul, Nat.reduceLT, Nat.reduceLeDiff, reduceCtorEq, decide_true, decide_false, Int.reduceLE, Int.reduceLT, Int.reduceToNat, Int.reduceAdd, Int.reduceSub, Int.reduceMul, Int.reduceEq, q0, q3, q14, q15]
  refine ⟨fun hlt => ?_, fun hlt => ?_⟩
  rotate_left
  · refine Ended.one hA hx (Nat.le_refl _) ?_ (Nat.le_refl _) (wc_rb _ _)
    rw [hb, show m.length - j = 0 by omega]; rfl
  have hfl : fl ≤ A.next := hA.floor
  have hj63 : j < 9223372036854775807 := by omega
  have v1 : IntKind.i64.wrap ((m.length : Int) - 1) = ((m.length - 1 : Nat) : Int) := by rw [wrapI (by omega)]; omega
  have v2 : IntKind.i64.wrap (((m.length - 1 : Nat) : Int) - (j : Int)) = ((m.length - 1 - j : Nat) : Int) := by rw [wrapI (by omega)]; omega
  have v3 : (j : Int).tdiv 4 = ((j / 4 : Nat) : Int) := by rw [show (4 : Int) = ((4 : Nat) : Int) from rfl, div_n]
  have v4 : IntKind.i64.wrap ((j / 4 : Nat) : Int) = ((j / 4 : Nat) : Int) := wrapI (by omega)
  have v5 : (j : Int).tmod 4 = ((j % 4 : Nat) : Int) := by rw [show (4 : Int) = ((4 : Nat) : Int) from rfl, mod_n]
  have v6 : IntKind.i64.wrap (((j % 4 : Nat) : Int) * 8) = ((j % 4 * 8 : Nat) : Int) := by rw [wrapI (by omega)]; omega
  have v7 : j / 4 < (m.length + 3) / 4 := by omega
  have v8 : m.length - 1 - j < m.length := by omega
  have v9 : min (j % 4 * 8) 32 = j % 4 * 8 := by omega
  have hg : B.get G ⟨A.next, j / 4, some 0⟩ = some (.int .u32 ((nv (m.drop (m.length - j)) / 4294967296 ^ (j / 4) % 4294967296 : Nat) : Int)) := by
    simp only [Hp.get, hb, if_true]
    rw [wc_get (by rw [wl_length]; exact v7)]
    simp [wl]
  have hbyte := S_at v8
  have hlen : (wc (wl (nv (m.drop (m.length - j))) ((m.length + 3) / 4))).length = (m.length + 3) / 4 := by rw [wc_length, wl_length]
  have v10 : j / 4 + 1 ≤ (m.length + 3) / 4 := by omega
  simp only [↓R1, R2, R3, R4, TY, reduceIte, Nat.reduceEqDiff, Nat.reduceAdd, Nat.reduceMul, Nat.reduceLT, Nat.reduceLeDiff, reduceCtorEq, decide_true, decide_false, Int.reduceLE, Int.reduceLT, Int.reduceToNat, Int.reduceAdd, Int.reduceSub, Int.reduceMul, Int.reduceEq, S_size, q0, q3, q14, q15, hlt, hj63, v1, v2, v3, v4, v5, v6, v7, v8, v9, hg, hfl, hb, hbyte, hlen, v10, UN]
  rw [floOf_wr (by kernel_rfl)]
  simp only [↓R1, R2, R3, R4, TY, reduceIte, Nat.reduceEqDiff, Nat.reduceAdd, Nat.reduceMul, Nat.reduceLT, Nat.reduceLeDiff, reduceCtorEq, decide_true, decide_false, Int.reduceLE, Int.reduceLT, Int.reduceToNat, Int.reduceAdd, Int.reduceSub, Int.reduceMul, Int.reduceEq, S_size, q0, q3, q14, q15, hlt, hj63, v1, v2, v3, v4, v5, v6, v7, v8, v9, hg, hfl, hb, hbyte, hlen, v10, UN]
  refine range_on q15 hlt rfl ⟨by simp (maxDischargeDepth := 20) only [xt_put, hx, Nat.le_refl], hn1, ?_, q0, q3, q14, rfl⟩
  simp only [Hp.put_blk, if_true]
  have hb8 := m[m.length - 1 - j].toNat_lt
  have hdrop : m.drop (m.length - (j + 1)) = m[m.length - 1 - j] :: m.drop (m.length - j) := by
    rw [List.drop_eq_getElem_cons (by omega), show m.length - (j + 1) + 1 = m.length - j by omega]
    simp only [show m.length - (j + 1) = m.length - 1 - j by omega]
  have hv := nv_lt (m.drop (m.length - j))
  rw [List.length_drop, show m.length - (m.length - j) = j by omega] at hv
  rw [wc_set, hdrop, nv_cons, List.length_drop, show m.length - (m.length - j) = j by omega, wl_byte hv hb8 v7]
  generalize nv (m.drop (m.length - j)) = v at hv ⊢
  generalize m[m.length - 1 - j].toNat = b at hb8 ⊢
  have hi : (256 : Nat) ^ j = 4294967296 ^ (j / 4) * 256 ^ (j % 4) := by rw [← pow256_4, ← Nat.pow_add]; congr 1; omega
  have hvq : v / 4294967296 ^ (j / 4) < 256 ^ (j % 4) := by
    rw [Nat.div_lt_iff_lt_mul (Nat.pow_pos (by omega)), Nat.mul_comm, ← hi]; exact hv
  generalize v / 4294967296 ^ (j / 4) = q at hvq ⊢
  have h2 : (2 : Nat) ^ (j % 4 * 8) = 256 ^ (j % 4) := by rw [Nat.mul_comm, Nat.pow_mul]
  have hr4 : (256 : Nat) ^ (j % 4) * 256 ≤ 4294967296 := by
    rw [← Nat.pow_succ]; exact Nat.le_trans (Nat.pow_le_pow_right (n := 256) (j := 4) (by omega) (by omega)) (by decide)
  rw [← h2] at hvq hr4 ⊢
  generalize hm : j % 4 * 8 = e at hvq hr4 ⊢
  generalize hp : (2 : Nat) ^ e = p at hvq hr4 ⊢
  have h3 : b * p + p ≤ p * 256 := by rw [← Nat.succ_mul, Nat.mul_comm]; exact Nat.mul_le_mul_left _ (by omega)
  rw [Nat.mod_eq_of_lt (a := q) (by omega), Nat.mod_eq_of_lt (a := q) (by omega), Nat.mod_eq_of_lt (a := b) (by omega), Nat.mod_eq_of_lt (a := b * p) (by omega), Nat.mod_eq_of_lt (a := b * p) (by omega), ← hp, or_add' (by rw [hp]; exact hvq), Nat.mod_eq_of_lt (by rw [hp]; omega)]
end
end Go.Proofs.YtpaffoiiipgkeaaDoor.Ab
