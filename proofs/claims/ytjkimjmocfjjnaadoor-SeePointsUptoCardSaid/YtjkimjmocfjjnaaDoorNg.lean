/- Numbers: words, text, Of, Cmp. -/
import Derived.Test.YtjkimjmocfjjnaaDoorNc
import Derived.Lib.Bytealg
import Derived.Laws.Externs
namespace Go.Proofs.YtjkimjmocfjjnaaDoor.Ab
open Go.RowKit
set_option linter.unusedVariables false
set_option linter.unusedSimpArgs false
set_option maxRecDepth 100000

/-- A row of digits. -/
def wc (l : List Nat) : List Value := l.map fun w => .int .u32 (w : Nat)
def uc (w : Nat) : List Value := [.int .u32 (w : Nat)]
theorem wc_length (l : List Nat) : (wc l).length = l.length := by simp [wc]
theorem wc_get {l : List Nat} {j : Nat} (h : j < l.length) : (wc l)[j]? = some (.int .u32 (l[j] : Nat)) := by simp [wc, h]
theorem wc_set {l : List Nat} {j : Nat} {w : Nat} : (wc l).set j (.int .u32 (w : Nat)) = wc (l.set j w) := by simp [wc, List.map_set]
theorem wc_flat (l : List Nat) : (l.map uc).flatten = wc l := by
  induction l with
  | nil => rfl
  | cons w l ih => simp only [List.map_cons, List.flatten_cons, ih]; rfl
theorem wc_zeros (k : Nat) : List.replicate k (Value.int .u32 0) = wc (List.replicate k 0) := by simp [wc]

theorem zl_one (x : Value) (n : Nat) : zl [x] n = List.replicate n x := by
  apply List.ext_getElem
  · simp [zl]
  · intro i h1 h2; simp [zl, Nat.mod_one]

section
variable {G : Gl} {fl : Nat} {A : Hp}

theorem wc_rb (n : Nat) (l : List Nat) : ∀ u ∈ wc l, RB n u := by
  intro u hu
  simp only [wc, List.mem_map] at hu
  obtain ⟨w, _, rfl⟩ := hu
  exact RB.int _ _
/-- A slice over a row. -/
theorem sl_row {id g n c : Nat} {l : List Nat} (hb : A.blk id = some (.row (wc l) g 1)) (hn : l.length = n) : Sl A 1 (.slice (some ⟨id, 0, some g⟩) n c) (l.map uc) :=
  ⟨by simp [uc], .inr (.inr ⟨_, n, c, g, _, rfl, by simp [hn], rfl, hb, fun j x hj => by rw [wc_flat] at hj; simpa using hj⟩)⟩
theorem word_get {B : Hp} {a : Addr} {n c : Nat} {l : List Nat} (h : Sl B 1 (.slice (some a) n c) (l.map uc)) {i : Nat} (hi : i < l.length) : B.get G (aadd a i) = some (.int .u32 (l[i] : Nat)) := by
  obtain ⟨a', h1, h2⟩ := h.at (G := G) (i := i) (by simpa using hi)
  cases h1
  simp only [List.getElem_map] at h2
  have := h2 0 _ rfl
  simpa using this
/-- A body that ends with a slice over one new row. -/
theorem Ended.one {B : Hp} {id g sz n c : Nat} {cells : List Value} (hA : Hok fl A) (x : Xt A.next A B) (hid : A.next ≤ id) (hb : B.blk id = some (.row cells g sz)) (hnc : n ≤ c) (hr : ∀ u ∈ cells, RB A.next u) :
    Ended A (.slice (some ⟨id, 0, some g⟩) n c) B (.slice (some ⟨A.next, 0, some 0⟩) n n) (A.push (.row cells 0 sz)) := ⟨_, told_one hA x hid hb hr, rr_one hb hnc⟩

theorem words_ok {l : List UInt8} (hl : (nb (nv l)).length ≤ 100000000000) :
    Sound Tryd.prog G 93 [.string (S l)] fl A (.slice (some ⟨A.next, 0, some 0⟩) (wds (nv l)).length (wds (nv l)).length) (A.push (.row (wc (wds (nv l))) 0 1)) := by
  refine Sound.of mixed Tryd.func93 Tryd.ntmps93 Tryd.results93 (by kernel_rfl) rfl (by kernel_rfl) (by kernel_rfl) fun hA => ?_
  simp only [↓R1, R2, R3, R4, TY, reduceIte, Nat.reduceEqDiff, Nat.reduceAdd, Nat.reduceMul, Nat.reduceLT, Nat.reduceLeDiff, reduceCtorEq, decide_true, decide_false, Int.reduceLE, Int.reduceLT, Int.reduceToNat, Int.reduceAdd, Int.reduceSub, Int.reduceMul, Int.reduceEq]
  refine call_of (trim_ok l) ?_
  rw [wds_length]
  have hdef : wds (nv l) = wl (nv (nb (nv l))) (((nb (nv l)).length + 3) / 4) := by rw [nv_nb]; rfl
  rw [hdef]
  generalize nb (nv l) = m at hl ⊢
  have w1 : IntKind.i64.wrap ((m.length : Int) + 3) = ((m.length + 3 : Nat) : Int) := by rw [wrapI (by omega)]; omega
  have w2 : ((m.length + 3 : Nat) : Int).tdiv 4 = (((m.length + 3) / 4 : Nat) : Int) := by rw [show (4 : Int) = ((4 : Nat) : Int) from rfl, div_n]
  have w3 : IntKind.i64.wrap ((((m.length + 3) / 4 : Nat)) : Int) = (((m.length + 3) / 4 : Nat) : Int) := wrapI (by omega)
  have w4 : ((4 : Nat) : Int) * (((m.length + 3) / 4 : Nat) : Int) ≤ 281474976710656 := by omega
  have w5 : (((m.length + 3) / 4 : Nat) : Int) ≤ 9223372036854775807 := by omega
  simp only [↓R1, R2, R3, R4, TY, reduceIte, Nat.reduceEqDiff, Nat.reduceAdd, Nat.reduceMul, Nat.reduceLT, Nat.reduceLeDiff, reduceCtorEq, decide_true, decide_false, Int.reduceLE, Int.reduceLT, Int.reduceToNat, Int.reduceAdd, Int.reduceSub, Int.reduceMul, Int.reduceEq, S_size, w1, w2, w3, w4, w5]
  refine range_of 15 m.length (fun j τ B => Xt A.next A B ∧ B.next = A.next + 1 ∧ B.blk A.next = some (.row (wc (wl (nv (m.drop (m.length - j))) ((m.length + 3) / 4))) 0 1) ∧ τ 0 = some (.string (S m)) ∧ τ 3 = some (.slice (some ⟨A.next, 0, some 0⟩) ((m.length + 3) / 4) ((m.length + 3) / 4)) ∧ τ 14 = some (.int .i64 m.length) ∧ τ 15 = some (.int .i64 j)) ?_ ?_
  · refine ⟨(Xt.refl A).push _, rfl, ?_, rfl, rfl, rfl, rfl⟩
    rw [Hp.push_blk, if_pos rfl, zl_one, wc_zeros, show m.drop (m.length - 0) = [] by simp]
    have : wl (nv []) ((m.length + 3) / 4) = List.replicate ((m.length + 3) / 4) 0 := by
      apply List.ext_getElem
      · simp [wl]
      · intro i h1 h2; simp [wl, nv_nil]
    rw [this]
  rintro j τ B hj ⟨hx, hn1, hb, q0, q3, q14, q15⟩
  simp only [↓R1, R2, R3, R4, TY, reduceIte, Nat.reduceEqDiff, Nat.reduceAdd, Nat.reduceMul, Nat.reduceLT, Nat.reduceLeDiff, reduceCtorEq, decide_true, decide_false, Int.reduceLE, Int.reduceLT, Int.reduceToNat, Int.reduceAdd, Int.reduceSub, Int.reduceMul, Int.reduceEq, q0, q3, q14, q15]
  refine ⟨fun hlt => ?_, fun hlt => ?_⟩
  rotate_left
  · refine Ended.one hA hx (Nat.le_refl _) ?_ (Nat.le_refl _) (wc_rb _ _)
    rw [hb, show m.length - j = 0 by omega]; rfl
  have hfl : fl ≤ A.next := hA.floor
  have hj63 : j < 9223372036854775807 := by omega
  have v1 : IntKind.i64.wrap ((m.length : Int) - 1) = ((m.length - 1 : Nat) : Int) := by rw [wrapI (by omega)]; omega
  have v2 : IntKind.i64.wrap (((m.length - 1 : Nat) : Int) - (j : Int)) = ((m.length - 1 - j : Nat) : Int) := by rw [wrapI (by omega)]; omega
  have v3 : (j : Int).tdiv 4 = ((j / 4 : Nat) : Int) := by rw [show (4 : Int) = ((4 : Nat) : Int) from rfl, div_n]
  have v4 : IntKind.i64.wrap ((j / 4 : Nat) : Int) = ((j / 4 : Nat) : Int) := wrapI (by omega)
  have v5 : (j : Int).tmod 4 = ((j % 4 : Nat) : Int) := by rw [show (4 : Int) = ((4 : Nat) : Int) from rfl, mod_n]
  have v6 : IntKind.i64.wrap (((j % 4 : Nat) : Int) * 8) = ((j % 4 * 8 : Nat) : Int) := by rw [wrapI (by omega)]; omega
  have v7 : j / 4 < (m.length + 3) / 4 := by omega
  have v8 : m.length - 1 - j < m.length := by omega
  have v9 : min (j % 4 * 8) 32 = j % 4 * 8 := by omega
  have hg : B.get G ⟨A.next, j / 4, some 0⟩ = some (.int .u32 ((nv (m.drop (m.length - j)) / 4294967296 ^ (j / 4) % 4294967296 : Nat) : Int)) := by
    simp only [Hp.get, hb, if_true]
    rw [wc_get (by rw [wl_length]; exact v7)]
    simp [wl]
  have hbyte := S_at v8
  have hlen : (wc (wl (nv (m.drop (m.length - j))) ((m.length + 3) / 4))).length = (m.length + 3) / 4 := by rw [wc_length, wl_length]
  have v10 : j / 4 + 1 ≤ (m.length + 3) / 4 := by omega
  simp only [↓R1, R2, R3, R4, TY, reduceIte, Nat.reduceEqDiff, Nat.reduceAdd, Nat.reduceMul, Nat.reduceLT, Nat.reduceLeDiff, reduceCtorEq, decide_true, decide_false, Int.reduceLE, Int.reduceLT, Int.reduceToNat, Int.reduceAdd, Int.reduceSub, Int.reduceMul, Int.reduceEq, S_size, q0, q3, q14, q15, hlt, hj63, v1, v2, v3, v4, v5, v6, v7, v8, v9, hg, hfl, hb, hbyte, hlen, v10, UN]
  rw [floOf_wr (by kernel_rfl)]
  simp only [↓R1, R2, R3, R4, TY, reduceIte, Nat.reduceEqDiff, Nat.reduceAdd, Nat.reduceMul, Nat.reduceLT, Nat.reduceLeDiff, reduceCtorEq, decide_true, decide_false, Int.reduceLE, Int.reduceLT, Int.reduceToNat, Int.reduceAdd, Int.reduceSub, Int.reduceMul, Int.reduceEq, S_size, q0, q3, q14, q15, hlt, hj63, v1, v2, v3, v4, v5, v6, v7, v8, v9, hg, hfl, hb, hbyte, hlen, v10, UN]
  refine range_on q15 hlt rfl ⟨by simp (maxDischargeDepth := 20) only [xt_put, hx, Nat.le_refl], hn1, ?_, q0, q3, q14, rfl⟩
  simp only [Hp.put_blk, if_true]
  have hb8 := m[m.length - 1 - j].toNat_lt
  have hdrop : m.drop (m.length - (j + 1)) = m[m.length - 1 - j] :: m.drop (m.length - j) := by
    rw [List.drop_eq_getElem_cons (by omega), show m.length - (j + 1) + 1 = m.length - j by omega]
    simp only [show m.length - (j + 1) = m.length - 1 - j by omega]
  have hv := nv_lt (m.drop (m.length - j))
  rw [List.length_drop, show m.length - (m.length - j) = j by omega] at hv
  rw [wc_set, hdrop, nv_cons, List.length_drop, show m.length - (m.length - j) = j by omega, wl_byte hv hb8 v7]
  generalize nv (m.drop (m.length - j)) = v at hv ⊢
  generalize m[m.length - 1 - j].toNat = b at hb8 ⊢
  have hi : (256 : Nat) ^ j = 4294967296 ^ (j / 4) * 256 ^ (j % 4) := by rw [← pow256_4, ← Nat.pow_add]; congr 1; omega
  have hvq : v / 4294967296 ^ (j / 4) < 256 ^ (j % 4) := by
    rw [Nat.div_lt_iff_lt_mul (Nat.pow_pos (by omega)), Nat.mul_comm, ← hi]; exact hv
  generalize v / 4294967296 ^ (j / 4) = q at hvq ⊢
  have h2 : (2 : Nat) ^ (j % 4 * 8) = 256 ^ (j % 4) := by rw [Nat.mul_comm, Nat.pow_mul]
  have hr4 : (256 : Nat) ^ (j % 4) * 256 ≤ 4294967296 := by
    rw [← Nat.pow_succ]; exact Nat.le_trans (Nat.pow_le_pow_right (n := 256) (j := 4) (by omega) (by omega)) (by decide)
  rw [← h2] at hvq hr4 ⊢
  generalize hm : j % 4 * 8 = e at hvq hr4 ⊢
  generalize hp : (2 : Nat) ^ e = p at hvq hr4 ⊢
  have h3 : b * p + p ≤ p * 256 := by rw [← Nat.succ_mul, Nat.mul_comm]; exact Nat.mul_le_mul_left _ (by omega)
  rw [Nat.mod_eq_of_lt (a := q) (by omega), Nat.mod_eq_of_lt (a := q) (by omega), Nat.mod_eq_of_lt (a := b) (by omega), Nat.mod_eq_of_lt (a := b * p) (by omega), Nat.mod_eq_of_lt (a := b * p) (by omega), ← hp, or_add' (by rw [hp]; exact hvq), Nat.mod_eq_of_lt (by rw [hp]; omega)]
end
end Go.Proofs.YtjkimjmocfjjnaaDoor.Ab

/- Numbers: text, Of, Cmp. -/
namespace Go.Proofs.YtjkimjmocfjjnaaDoor.Ab
open Go.RowKit
set_option linter.unusedVariables false
set_option linter.unusedSimpArgs false
set_option maxRecDepth 100000

/-- Which of two numbers is less. -/
def cmpN (m n : Nat) : Int := if m < n then -1 else if n < m then 1 else 0
theorem compareBytes_nv : ∀ (a b : List UInt8), a.length = b.length → Go.Lib.compareBytes a b = cmpN (nv a) (nv b)
  | [], [], _ => by simp [Go.Lib.compareBytes, cmpN]
  | [], _ :: _, h => by simp at h
  | _ :: _, [], h => by simp at h
  | x :: a, y :: b, h => by
    have hl : a.length = b.length := by simpa using h
    have ih := compareBytes_nv a b hl
    have ha := nv_lt a
    have hb := nv_lt b
    rw [Go.Lib.compareBytes, nv_cons, nv_cons, hl, ih]
    rw [hl] at ha
    generalize (256 : Nat) ^ b.length = p at ha hb ⊢
    have mul : ∀ {u v : Nat}, u < v → u * p + p ≤ v * p := fun {u v} h => by
      rw [← Nat.succ_mul]; exact Nat.mul_le_mul_right _ h
    unfold cmpN
    rcases Nat.lt_trichotomy x.toNat y.toNat with h1 | h1 | h1
    · have := mul h1
      have hx : x < y := h1
      rw [if_pos hx, if_pos (by omega)]
    · have hx : x = y := UInt8.toNat_inj.1 h1
      subst hx
      rw [if_neg (UInt8.lt_irrefl x), if_neg (UInt8.lt_irrefl x)]
      congr 1
      · exact propext ⟨fun h => by omega, fun h => by omega⟩
      · congr 1; exact propext ⟨fun h => by omega, fun h => by omega⟩
    · have := mul h1
      have hy : y < x := h1
      have hx : ¬ x < y := fun h => by have h' : x.toNat < y.toNat := h; omega
      rw [if_neg hx, if_pos hy, if_neg (by omega), if_pos (by omega)]
theorem set4 {r : List UInt8} {m : Nat} {a b c d : UInt8} : ((((List.replicate (m + 4) 0 ++ r).set m a).set (m + 1) b).set (m + 2) c).set (m + 3) d = List.replicate m 0 ++ ([a, b, c, d] ++ r) := by
  have e : List.replicate (m + 4) (0 : UInt8) ++ r = List.replicate m 0 ++ (0 :: 0 :: 0 :: 0 :: r) := by
    rw [← List.replicate_append_replicate]; simp [List.replicate_succ]
  rw [e, List.set_append_right _ _ (by simp), List.set_append_right _ _ (by simp), List.set_append_right _ _ (by simp), List.set_append_right _ _ (by simp)]
  simp

section
variable {G : Gl} {fl : Nat} {A : Hp}

theorem cmpstring_ok (a b : List UInt8) : Sound Tryd.prog G 115 [.string (S a), .string (S b)] fl A (.int .i64 (Go.Lib.compareBytes a b)) A := by
  refine Sound.of_scalar (fun u hu => ?_) rfl fun w => ?_
  · simp only [List.mem_cons, List.not_mem_nil, or_false] at hu
    rcases hu with rfl | rfl
    · exact ⟨rfl, fun μ A u' h => by cases h; rfl⟩
    · exact ⟨rfl, fun μ A u' h => by cases h; rfl⟩
  · refine .inr ⟨.int .i64 (Go.Lib.compareBytes a b), w, ?_, rfl, Below.refl _ _⟩
    rw [run_callFunc_extern (fn := Tryd.f115) (e := Extern.BytealgCompare.compare) (by kernel_rfl) (by kernel_rfl) (by kernel_rfl) (by kernel_rfl) (by kernel_rfl)]
    have := Go.Lib.run_compareString (P := Tryd.prog) (S a) (S b) w
    rw [show [Value.string (S a), Value.string (S b)].toArray = #[.string (S a), .string (S b)] from rfl, this]
    rfl
theorem compareString_ok (a b : List UInt8) : Sound Tryd.prog G 109 [.string (S a), .string (S b)] fl A (.int .i64 (Go.Lib.compareBytes a b)) A := by
  refine Sound.of mixed Tryd.func109 Tryd.ntmps109 Tryd.results109 (by kernel_rfl) rfl (by kernel_rfl) (by kernel_rfl) fun hA => ?_
  simp only [↓R1, R2, R3, R4, TY, reduceIte, Nat.reduceEqDiff, Nat.reduceAdd, Nat.reduceMul, Nat.reduceLT, Nat.reduceLeDiff, reduceCtorEq, decide_true, decide_false, Int.reduceLE, Int.reduceLT, Int.reduceToNat, Int.reduceAdd, Int.reduceSub, Int.reduceMul, Int.reduceEq]
  refine call_of (cmpstring_ok a b) ?_
  simp only [↓R1, R2, R3, R4, TY, reduceIte, Nat.reduceEqDiff, Nat.reduceAdd, Nat.reduceMul, Nat.reduceLT, Nat.reduceLeDiff, reduceCtorEq, decide_true, decide_false, Int.reduceLE, Int.reduceLT, Int.reduceToNat, Int.reduceAdd, Int.reduceSub, Int.reduceMul, Int.reduceEq]
  exact Ended.back hA (Xt.refl _) rfl (RB.int _ _)
theorem compare_ok (a b : List UInt8) : Sound Tryd.prog G 90 [.string (S a), .string (S b)] fl A (.int .i64 (Go.Lib.compareBytes a b)) A := by
  refine Sound.of mixed Tryd.func90 Tryd.ntmps90 Tryd.results90 (by kernel_rfl) rfl (by kernel_rfl) (by kernel_rfl) fun hA => ?_
  simp only [↓R1, R2, R3, R4, TY, reduceIte, Nat.reduceEqDiff, Nat.reduceAdd, Nat.reduceMul, Nat.reduceLT, Nat.reduceLeDiff, reduceCtorEq, decide_true, decide_false, Int.reduceLE, Int.reduceLT, Int.reduceToNat, Int.reduceAdd, Int.reduceSub, Int.reduceMul, Int.reduceEq]
  refine call_of (compareString_ok a b) ?_
  simp only [↓R1, R2, R3, R4, TY, reduceIte, Nat.reduceEqDiff, Nat.reduceAdd, Nat.reduceMul, Nat.reduceLT, Nat.reduceLeDiff, reduceCtorEq, decide_true, decide_false, Int.reduceLE, Int.reduceLT, Int.reduceToNat, Int.reduceAdd, Int.reduceSub, Int.reduceMul, Int.reduceEq]
  exact Ended.back hA (Xt.refl _) rfl (RB.int _ _)

theorem cmp_ok (a b : List UInt8) : Sound Tryd.prog G 63 [.string (S a), .string (S b)] fl A (.int .i64 (cmpN (nv a) (nv b))) A := by
  refine Sound.of mixed Tryd.func63 Tryd.ntmps63 Tryd.results63 (by kernel_rfl) rfl (by kernel_rfl) (by kernel_rfl) fun hA => ?_
  simp only [↓R1, R2, R3, R4, TY, reduceIte, Nat.reduceEqDiff, Nat.reduceAdd, Nat.reduceMul, Nat.reduceLT, Nat.reduceLeDiff, reduceCtorEq, decide_true, decide_false, Int.reduceLE, Int.reduceLT, Int.reduceToNat, Int.reduceAdd, Int.reduceSub, Int.reduceMul, Int.reduceEq]
  refine call_of (trim_ok a) ?_
  simp only [↓R1, R2, R3, R4, TY, reduceIte, Nat.reduceEqDiff, Nat.reduceAdd, Nat.reduceMul, Nat.reduceLT, Nat.reduceLeDiff, reduceCtorEq, decide_true, decide_false, Int.reduceLE, Int.reduceLT, Int.reduceToNat, Int.reduceAdd, Int.reduceSub, Int.reduceMul, Int.reduceEq]
  refine call_of (trim_ok b) ?_
  simp only [↓R1, R2, R3, R4, TY, reduceIte, Nat.reduceEqDiff, Nat.reduceAdd, Nat.reduceMul, Nat.reduceLT, Nat.reduceLeDiff, reduceCtorEq, decide_true, decide_false, Int.reduceLE, Int.reduceLT, Int.reduceToNat, Int.reduceAdd, Int.reduceSub, Int.reduceMul, Int.reduceEq, S_size]
  refine ⟨fun h => ?_, fun h => ⟨fun h2 => ?_, fun h2 => ?_⟩⟩
  · have := lt_of_nb_len h
    exact Ended.back hA (Xt.refl _) (by rw [cmpN, if_pos this]) (RB.int _ _)
  · have := lt_of_nb_len h2
    exact Ended.back hA (Xt.refl _) (by rw [cmpN, if_neg (by omega), if_pos this]) (RB.int _ _)
  · refine call_of (compare_ok _ _) ?_
    simp only [↓R1, R2, R3, R4, TY, reduceIte, Nat.reduceEqDiff, Nat.reduceAdd, Nat.reduceMul, Nat.reduceLT, Nat.reduceLeDiff, reduceCtorEq, decide_true, decide_false, Int.reduceLE, Int.reduceLT, Int.reduceToNat, Int.reduceAdd, Int.reduceSub, Int.reduceMul, Int.reduceEq]
    refine Ended.back hA (Xt.refl _) ?_ (RB.int _ _)
    rw [compareBytes_nv _ _ (by omega), nv_nb, nv_nb]

theorem of_ok {n : Int} (h : n ≤ 9223372036854775807) : Sound Tryd.prog G 66 [.int .i64 n] fl A (.string (S (nb n.toNat))) A := by
  refine Sound.of mixed Tryd.func66 Tryd.ntmps66 Tryd.results66 (by kernel_rfl) rfl (by kernel_rfl) (by kernel_rfl) fun hA => ?_
  simp only [↓R1, R2, R3, R4, TY, reduceIte, Nat.reduceEqDiff, Nat.reduceAdd, Nat.reduceMul, Nat.reduceLT, Nat.reduceLeDiff, reduceCtorEq, decide_true, decide_false, Int.reduceLE, Int.reduceLT, Int.reduceToNat, Int.reduceAdd, Int.reduceSub, Int.reduceMul, Int.reduceEq]
  refine ⟨fun h0 => ?_, fun h0 => ?_⟩
  · exact Ended.back hA (Xt.refl _) (by rw [show n.toNat = 0 by omega, nb_zero]) (RB.string _)
  · have hw : IntKind.u64.wrap n = ((n.toNat : Nat) : Int) := by rw [wrap_u64]; omega
    rw [hw]
    refine call_of (fromShort_ok (by omega)) ?_
    simp only [↓R1, R2, R3, R4, TY, reduceIte, Nat.reduceEqDiff, Nat.reduceAdd, Nat.reduceMul, Nat.reduceLT, Nat.reduceLeDiff, reduceCtorEq, decide_true, decide_false, Int.reduceLE, Int.reduceLT, Int.reduceToNat, Int.reduceAdd, Int.reduceSub, Int.reduceMul, Int.reduceEq]
    exact Ended.back hA (Xt.refl _) rfl (RB.string _)

theorem text_ok {v : Value} {ws : List Nat} (hl : ws.length ≤ 100000000000) (hw : W32 ws) (hs : Sl A 1 v (ws.map uc)) : Sound Tryd.prog G 94 [v] fl A (.string (S (nb (wv ws)))) A := by
  refine Sound.of mixed Tryd.func94 Tryd.ntmps94 Tryd.results94 (by kernel_rfl) rfl (by kernel_rfl) (by kernel_rfl) fun hA => ?_
  obtain ⟨o, c, rfl⟩ := hs.len
  rw [List.length_map] at hs ⊢
  have w1 : IntKind.i64.wrap (4 * (ws.length : Int)) = ((4 * ws.length : Nat) : Int) := by rw [wrapI (by omega)]; omega
  have w4 : ((1 : Nat) : Int) * ((4 * ws.length : Nat) : Int) ≤ 281474976710656 := by omega
  have w5 : ((4 * ws.length : Nat) : Int) ≤ 9223372036854775807 := by omega
  simp only [↓R1, R2, R3, R4, TY, reduceIte, Nat.reduceEqDiff, Nat.reduceAdd, Nat.reduceMul, Nat.reduceLT, Nat.reduceLeDiff, reduceCtorEq, decide_true, decide_false, Int.reduceLE, Int.reduceLT, Int.reduceToNat, Int.reduceAdd, Int.reduceSub, Int.reduceMul, Int.reduceEq, w1, w4, w5]
  refine range_of 13 ws.length (fun j τ B => Xt A.next A B ∧ B.next = A.next + 1 ∧ B.blk A.next = some (.row (bl (List.replicate (4 * (ws.length - j)) 0 ++ be (ws.take j))) 0 1) ∧ τ 0 = some (.slice o ws.length c) ∧ τ 3 = some (.slice (some ⟨A.next, 0, some 0⟩) (4 * ws.length) (4 * ws.length)) ∧ τ 11 = some (.slice o ws.length c) ∧ τ 12 = some (.int .i64 ws.length) ∧ τ 13 = some (.int .i64 j)) ?_ ?_
  · refine ⟨(Xt.refl A).push _, rfl, ?_, rfl, rfl, rfl, rfl, rfl⟩
    rw [Hp.push_blk, if_pos rfl, zl_one, bl_zeros]; simp [be]
  rintro j τ B hj ⟨hx, hn1, hb, q0, q3, q11, q12, q13⟩
  simp only [↓R1, R2, R3, R4, TY, reduceIte, Nat.reduceEqDiff, Nat.reduceAdd, Nat.reduceMul, Nat.reduceLT, Nat.reduceLeDiff, reduceCtorEq, decide_true, decide_false, Int.reduceLE, Int.reduceLT, Int.reduceToNat, Int.reduceAdd, Int.reduceSub, Int.reduceMul, Int.reduceEq, q0, q3, q11, q12, q13]
  refine ⟨fun hlt => ?_, fun hlt => ?_⟩
  · have hfl : fl ≤ A.next := hA.floor
    have hj63 : j < 9223372036854775807 := by omega
    obtain ⟨a, rfl, -⟩ := hs.at (G := G) (i := j) (by simpa using hlt)
    have hab : a.block < B.next := Nat.lt_of_lt_of_le (hs.lt hA) hx.next
    have hg := word_get (G := G) (hs.xt hA hx) hlt
    have v1 : IntKind.i64.wrap ((ws.length : Int) - 1) = ((ws.length - 1 : Nat) : Int) := by rw [wrapI (by omega)]; omega
    have v2 : IntKind.i64.wrap (((ws.length - 1 : Nat) : Int) - (j : Int)) = ((ws.length - 1 - j : Nat) : Int) := by rw [wrapI (by omega)]; omega
    have v3 : IntKind.i64.wrap (4 * ((ws.length - 1 - j : Nat) : Int)) = ((4 * (ws.length - 1 - j) : Nat) : Int) := by rw [wrapI (by omega)]; omega
    have hk : 4 * (ws.length - j) = 4 * (ws.length - 1 - j) + 4 := by omega
    have hlen : (bl (List.replicate (4 * (ws.length - j)) 0 ++ be (ws.take j))).length = 4 * ws.length := by
      rw [bl_length, List.length_append, List.length_replicate, be_length, List.length_take, Nat.min_eq_left hj]; omega
    have hkl : 4 * (ws.length - 1 - j) + 4 ≤ 4 * ws.length := by omega
    generalize 4 * (ws.length - 1 - j) = k at v3 hk hkl
    have v4 : IntKind.i64.wrap ((k : Int) + 1) = ((k + 1 : Nat) : Int) := by rw [wrapI (by omega)]; omega
    have v5 : IntKind.i64.wrap ((k : Int) + 2) = ((k + 2 : Nat) : Int) := by rw [wrapI (by omega)]; omega
    have v6 : IntKind.i64.wrap ((k : Int) + 3) = ((k + 3 : Nat) : Int) := by rw [wrapI (by omega)]; omega
    have b0 : k < 4 * ws.length := by omega
    have b1 : k + 1 < 4 * ws.length := by omega
    have b2 : k + 2 < 4 * ws.length := by omega
    have b3 : k + 3 < 4 * ws.length := by omega
    have d0 : k + 1 ≤ 4 * ws.length := by omega
    have d1 : k + 1 + 1 ≤ 4 * ws.length := by omega
    have d2 : k + 2 + 1 ≤ 4 * ws.length := by omega
    have d3 : k + 3 + 1 ≤ 4 * ws.length := by omega
    simp only [↓R1, R2, R3, R4, TY, reduceIte, Nat.reduceEqDiff, Nat.reduceAdd, Nat.reduceMul, Nat.reduceLT, Nat.reduceLeDiff, reduceCtorEq, decide_true, decide_false, Int.reduceLE, Int.reduceLT, Int.reduceToNat, Int.reduceAdd, Int.reduceSub, Int.reduceMul, Int.reduceEq, q0, q3, q11, q12, q13, hlt, hj63, hg, hab, hfl, v1, v2, v3, v4, v5, v6, b0, b1, b2, b3, d0, d1, d2, d3, hb, hlen, List.length_set, UN]
    refine range_on q13 hlt rfl ⟨by simp (maxDischargeDepth := 20) only [xt_put, hx, Nat.le_refl], hn1, ?_, q0, q3, q11, q12, rfl⟩
    simp only [Hp.put_blk, if_true]
    have hwj := hw _ (List.getElem_mem hlt)
    have e8 : ∀ x : Nat, Value.int .u8 ((x % 256 : Nat) : Int) = .int .u8 (((UInt8.ofNat (x % 256)).toNat : Nat) : Int) := fun x => by rw [ofNat_toNat8 (Nat.mod_lt _ (by omega))]
    rw [e8, e8, e8, e8, bl_set, bl_set, bl_set, bl_set, hk, set4, List.take_succ_eq_append_getElem hlt, be_snoc, b4]
    have hk2 : 4 * (ws.length - (j + 1)) = k := by omega
    rw [hk2]
  · obtain rfl : j = ws.length := by omega
    rw [Nat.sub_self, Nat.mul_zero, List.take_length] at hb
    have hb' : B.blk A.next = some (.row (bl (be ws)) 0 1) := by simpa using hb
    have hlen : (bl (be ws)).length = 4 * ws.length := by rw [bl_length, be_length]
    refine cnv_of (be ws) ty5 rfl rfl (by simp) (be_length ws) (fun j u hj => ?_) ?_
    · simp only [Hp.get, aadd, hb', Nat.zero_add, if_true]
      simp [bl, hj]
    simp only [↓R1, R2, R3, R4, TY, reduceIte, Nat.reduceEqDiff, Nat.reduceAdd, Nat.reduceMul, Nat.reduceLT, Nat.reduceLeDiff, reduceCtorEq, decide_true, decide_false, Int.reduceLE, Int.reduceLT, Int.reduceToNat, Int.reduceAdd, Int.reduceSub, Int.reduceMul, Int.reduceEq]
    refine call_of (trim_ok _) ?_
    simp only [↓R1, R2, R3, R4, TY, reduceIte, Nat.reduceEqDiff, Nat.reduceAdd, Nat.reduceMul, Nat.reduceLT, Nat.reduceLeDiff, reduceCtorEq, decide_true, decide_false, Int.reduceLE, Int.reduceLT, Int.reduceToNat, Int.reduceAdd, Int.reduceSub, Int.reduceMul, Int.reduceEq]
    refine Ended.back hA hx ?_ (RB.string _)
    rw [nv_be hw]
end
end Go.Proofs.YtjkimjmocfjjnaaDoor.Ab

/- Numbers: Add. -/
namespace Go.Proofs.YtjkimjmocfjjnaaDoor.Ab
open Go.RowKit
set_option linter.unusedVariables false
set_option linter.unusedSimpArgs false
set_option maxRecDepth 100000

section
variable {G : Gl} {fl : Nat} {A : Hp}

theorem wds_len_le {n : Nat} (h : (nb n).length ≤ 100000000000) : (wds n).length ≤ 25000000000 := by rw [wds_length]; omega
theorem wds_of_len (n : Nat) : nb n ≠ [] → (wds n).length ≠ 0 := fun h => by
  rw [wds_length]
  have : (nb n).length ≠ 0 := fun e => h (List.length_eq_zero_iff.1 e)
  omega

theorem add_ok {a b : List UInt8} (ha : (nb (nv a)).length ≤ 90000000000) (hb : (nb (nv b)).length ≤ 90000000000) : Sound Tryd.prog G 67 [.string (S a), .string (S b)] fl A (.string (S (nb (nv a + nv b)))) A := by
  refine Sound.of mixed Tryd.func67 Tryd.ntmps67 Tryd.results67 (by kernel_rfl) rfl (by kernel_rfl) (by kernel_rfl) fun hA => ?_
  simp only [↓R1, R2, R3, R4, TY, reduceIte, Nat.reduceEqDiff, Nat.reduceAdd, Nat.reduceMul, Nat.reduceLT, Nat.reduceLeDiff, reduceCtorEq, decide_true, decide_false, Int.reduceLE, Int.reduceLT, Int.reduceToNat, Int.reduceAdd, Int.reduceSub, Int.reduceMul, Int.reduceEq]
  refine call_of (trim_ok a) ?_
  simp only [↓R1, R2, R3, R4, TY, reduceIte, Nat.reduceEqDiff, Nat.reduceAdd, Nat.reduceMul, Nat.reduceLT, Nat.reduceLeDiff, reduceCtorEq, decide_true, decide_false, Int.reduceLE, Int.reduceLT, Int.reduceToNat, Int.reduceAdd, Int.reduceSub, Int.reduceMul, Int.reduceEq]
  refine call_of (trim_ok b) ?_
  have hshort : ∀ n : Nat, ((((nb n).length : Nat) : Int) < 8) = ((nb n).length < 8) := fun n => propext (by omega)
  simp only [↓R1, R2, R3, R4, TY, reduceIte, Nat.reduceEqDiff, Nat.reduceAdd, Nat.reduceMul, Nat.reduceLT, Nat.reduceLeDiff, reduceCtorEq, decide_true, decide_false, Int.reduceLE, Int.reduceLT, Int.reduceToNat, Int.reduceAdd, Int.reduceSub, Int.reduceMul, Int.reduceEq, S_size, hshort]
  refine ⟨fun h1 => ⟨fun h2 => ?_, fun h2 => ?_⟩, fun h1 => ?_⟩
  · have l1 := nb_len_le.1 (show (nb (nv a)).length ≤ 7 by omega)
    have l2 := nb_len_le.1 (show (nb (nv b)).length ≤ 7 by omega)
    refine call_of (short_ok (l := nb (nv a)) (by omega)) ?_
    simp only [↓R1, R2, R3, R4, TY, reduceIte, Nat.reduceEqDiff, Nat.reduceAdd, Nat.reduceMul, Nat.reduceLT, Nat.reduceLeDiff, reduceCtorEq, decide_true, decide_false, Int.reduceLE, Int.reduceLT, Int.reduceToNat, Int.reduceAdd, Int.reduceSub, Int.reduceMul, Int.reduceEq]
    refine call_of (short_ok (l := nb (nv b)) (by omega)) ?_
    simp only [↓R1, R2, R3, R4, TY, reduceIte, Nat.reduceEqDiff, Nat.reduceAdd, Nat.reduceMul, Nat.reduceLT, Nat.reduceLeDiff, reduceCtorEq, decide_true, decide_false, Int.reduceLE, Int.reduceLT, Int.reduceToNat, Int.reduceAdd, Int.reduceSub, Int.reduceMul, Int.reduceEq, nv_nb, UN]
    refine call_of (fromShort_ok (Nat.mod_lt _ (by omega))) ?_
    simp only [↓R1, R2, R3, R4, TY, reduceIte, Nat.reduceEqDiff, Nat.reduceAdd, Nat.reduceMul, Nat.reduceLT, Nat.reduceLeDiff, reduceCtorEq, decide_true, decide_false, Int.reduceLE, Int.reduceLT, Int.reduceToNat, Int.reduceAdd, Int.reduceSub, Int.reduceMul, Int.reduceEq]
    refine Ended.back hA (Xt.refl _) ?_ (RB.string _)
    rw [Nat.mod_eq_of_lt (by omega)]
  all_goals
    have xa := wds_len_le (n := nv a) (by omega)
    have xb := wds_len_le (n := nv b) (by omega)
    refine call_of (words_ok (l := nb (nv a)) (by rw [nv_nb]; omega)) ?_
    simp only [↓R1, R2, R3, R4, TY, reduceIte, Nat.reduceEqDiff, Nat.reduceAdd, Nat.reduceMul, Nat.reduceLT, Nat.reduceLeDiff, reduceCtorEq, decide_true, decide_false, Int.reduceLE, Int.reduceLT, Int.reduceToNat, Int.reduceAdd, Int.reduceSub, Int.reduceMul, Int.reduceEq]
    refine call_of (words_ok (l := nb (nv b)) (by rw [nv_nb]; omega)) ?_
    rw [nv_nb, nv_nb]
    have ka := wds_w32 (nv a)
    have kb := wds_w32 (nv b)
    have va := wv_wds (nv a)
    have vb := wv_wds (nv b)
    generalize wds (nv a) = as_ at xa ka va ⊢
    generalize wds (nv b) = bs at xb kb vb ⊢
    generalize hH : Hp.push _ (Blk.row (wc bs) 0 1) = H
    have hHn : H.next = A.next + 2 := by rw [← hH]; rfl
    have hHa : H.blk A.next = some (.row (wc as_) 0 1) := by rw [← hH]; simp [Hp.push_blk]
    have hHb : H.blk (A.next + 1) = some (.row (wc bs) 0 1) := by rw [← hH]; simp [Hp.push_blk]
    have hHx : Xt A.next A H := by rw [← hH]; exact ((Xt.refl A).push _).push _
    simp only [↓R1, R2, R3, R4, TY, reduceIte, Nat.reduceEqDiff, Nat.reduceAdd, Nat.reduceMul, Nat.reduceLT, Nat.reduceLeDiff, reduceCtorEq, decide_true, decide_false, Int.reduceLE, Int.reduceLT, Int.reduceToNat, Int.reduceAdd, Int.reduceSub, Int.reduceMul, Int.reduceEq, Hp.push_next]
    refine ⟨fun hlt => ?_, fun hlt => ?_⟩
    · have w1 : IntKind.i64.wrap ((bs.length : Int) + 1) = ((bs.length + 1 : Nat) : Int) := by rw [wrapI (by omega)]; omega
      have w4 : ((4 : Nat) : Int) * ((bs.length + 1 : Nat) : Int) ≤ 281474976710656 := by omega
      have w5 : ((bs.length + 1 : Nat) : Int) ≤ 9223372036854775807 := by omega
      have w6 : (0 : Int) ≤ ((bs.length + 1 : Nat) : Int) := by omega
      simp only [↓R1, R2, R3, R4, TY, reduceIte, Nat.reduceEqDiff, Nat.reduceAdd, Nat.reduceMul, Nat.reduceLT, Nat.reduceLeDiff, reduceCtorEq, decide_true, decide_false, Int.reduceLE, Int.reduceLT, Int.reduceToNat, Int.reduceAdd, Int.reduceSub, Int.reduceMul, Int.reduceEq, w1, w4, w5, w6, hHn]
      refine range_of 46 bs.length (fun j τ B => ∃ (rs : List Nat) (cy : Nat), Xt H.next H B ∧ B.next = A.next + 3 ∧ B.blk (A.next + 2) = some (.row (wc (rs ++ List.replicate (bs.length + 1 - j) 0)) 0 1) ∧ rs.length = j ∧ W32 rs ∧ cy ≤ 1 ∧ wv rs + 4294967296 ^ j * cy = wv (bs.take j) + wv (as_.take j) ∧
        τ 5 = some (.slice (some ⟨A.next + 1, 0, some 0⟩) bs.length bs.length) ∧ τ 6 = some (.slice (some ⟨A.next, 0, some 0⟩) as_.length as_.length) ∧ τ 7 = some (.slice (some ⟨A.next + 2, 0, some 0⟩) (bs.length + 1) (bs.length + 1)) ∧ τ 8 = some (.int .u64 (cy : Nat)) ∧ τ 44 = some (.slice (some ⟨A.next + 1, 0, some 0⟩) bs.length bs.length) ∧ τ 45 = some (.int .i64 bs.length) ∧ τ 46 = some (.int .i64 j)) ?_ ?_
      · refine ⟨[], 0, (Xt.refl H).push _, by rw [Hp.push_next, hHn], ?_, rfl, by intro w hw; simp at hw, by omega, by simp [wv], rfl, rfl, rfl, rfl, rfl, rfl, rfl⟩
        rw [Hp.push_blk, if_pos hHn.symm, zl_one, wc_zeros]; rfl
      rintro j τ B hj ⟨rs, cy, hx, hn1, hb, hrl, hrw, hcy, hsum, q5, q6, q7, q8, q44, q45, q46⟩
      simp only [↓R1, R2, R3, R4, TY, reduceIte, Nat.reduceEqDiff, Nat.reduceAdd, Nat.reduceMul, Nat.reduceLT, Nat.reduceLeDiff, reduceCtorEq, decide_true, decide_false, Int.reduceLE, Int.reduceLT, Int.reduceToNat, Int.reduceAdd, Int.reduceSub, Int.reduceMul, Int.reduceEq, q5, q6, q7, q8, q44, q45, q46]
      have hfl : fl ≤ A.next := hA.floor
      have hfl2 : fl ≤ A.next + 2 := by omega
      have hbx : B.blk (A.next + 1) = some (.row (wc bs) 0 1) := by rw [hx.blk _ (by omega)]; exact hHb
      have hby : B.blk (A.next) = some (.row (wc as_) 0 1) := by rw [hx.blk _ (by omega)]; exact hHa
      refine ⟨fun hl2 => ?_, fun hl2 => ?_⟩
      · have hj63 : j < 9223372036854775807 := by omega
        have hgx : B.get G ⟨A.next + 1, j, some 0⟩ = some (.int .u32 (bs[j] : Nat)) := by simp only [Hp.get, hbx, if_true]; exact wc_get hl2
        have hx32 : bs[j] < 4294967296 := kb _ (List.getElem_mem hl2)
        have hlen : (wc (rs ++ List.replicate (bs.length + 1 - j) 0)).length = bs.length + 1 := by rw [wc_length, List.length_append, List.length_replicate, hrl]; omega
        have hj1 : j + 1 ≤ bs.length + 1 := by omega
        have hj2 : j < bs.length + 1 := by omega
        have m1 : bs[j] % 18446744073709551616 = bs[j] := Nat.mod_eq_of_lt (by omega)
        have m2 : (cy + bs[j]) % 18446744073709551616 = cy + bs[j] := Nat.mod_eq_of_lt (by omega)
        by_cases hy : j < as_.length
        · have hgy : B.get G ⟨A.next, j, some 0⟩ = some (.int .u32 (as_[j] : Nat)) := by simp only [Hp.get, hby, if_true]; exact wc_get hy
          have hy32 : as_[j] < 4294967296 := ka _ (List.getElem_mem hy)
          have m3 : as_[j] % 18446744073709551616 = as_[j] := Nat.mod_eq_of_lt (by omega)
          have m4 : (cy + bs[j] + as_[j]) % 18446744073709551616 = cy + bs[j] + as_[j] := Nat.mod_eq_of_lt (by omega)
          simp only [↓R1, R2, R3, R4, TY, reduceIte, Nat.reduceEqDiff, Nat.reduceAdd, Nat.reduceMul, Nat.reduceLT, Nat.reduceLeDiff, reduceCtorEq, decide_true, decide_false, Int.reduceLE, Int.reduceLT, Int.reduceToNat, Int.reduceAdd, Int.reduceSub, Int.reduceMul, Int.reduceEq, q5, q6, q7, q8, q44, q45, q46, hl2, hj63, hgx, hgy, hy, hb, hlen, hj1, hj2, hfl2, m1, m2, m3, m4, UN]
          refine range_on q46 hl2 rfl ⟨rs ++ [(cy + bs[j] + as_[j]) % 4294967296], (cy + bs[j] + as_[j]) / 2 ^ 32, hx.put (by omega) _, hn1, ?_, by simp [hrl], ?_, by omega, ?_, q5, q6, q7, rfl, q44, q45, rfl⟩
          · simp only [Hp.put_blk, if_true]
            rw [wc_set, show bs.length + 1 - j = (bs.length + 1 - (j + 1)) + 1 by omega, List.replicate_succ, set_snoc hrl]
          · intro w hw
            rcases List.mem_append.1 hw with h | h
            · exact hrw w h
            · rw [List.mem_singleton.1 h]; exact Nat.mod_lt _ (by omega)
          · rw [wv_snoc, hrl, wv_take_succ hl2, wv_take_succ hy, Nat.pow_succ]
            have e := Nat.div_add_mod (cy + bs[j] + as_[j]) 4294967296
            have e2 : (2 : Nat) ^ 32 = 4294967296 := by decide
            rw [e2]
            generalize (cy + bs[j] + as_[j]) / 4294967296 = d at e ⊢
            generalize (cy + bs[j] + as_[j]) % 4294967296 = r at e ⊢
            generalize (4294967296 : Nat) ^ j = p at hsum ⊢
            have : p * r + p * 4294967296 * d = p * cy + p * bs[j] + p * as_[j] := by rw [← Nat.mul_add, ← Nat.mul_add, ← e, Nat.mul_add, Nat.mul_assoc]; omega
            omega
        · simp only [↓R1, R2, R3, R4, TY, reduceIte, Nat.reduceEqDiff, Nat.reduceAdd, Nat.reduceMul, Nat.reduceLT, Nat.reduceLeDiff, reduceCtorEq, decide_true, decide_false, Int.reduceLE, Int.reduceLT, Int.reduceToNat, Int.reduceAdd, Int.reduceSub, Int.reduceMul, Int.reduceEq, q5, q6, q7, q8, q44, q45, q46, hl2, hj63, hgx, hy, hb, hlen, hj1, hj2, hfl2, m1, m2, UN]
          refine range_on q46 hl2 rfl ⟨rs ++ [(cy + bs[j]) % 4294967296], (cy + bs[j]) / 2 ^ 32, hx.put (by omega) _, hn1, ?_, by simp [hrl], ?_, by omega, ?_, q5, q6, q7, rfl, q44, q45, rfl⟩
          · simp only [Hp.put_blk, if_true]
            rw [wc_set, show bs.length + 1 - j = (bs.length + 1 - (j + 1)) + 1 by omega, List.replicate_succ, set_snoc hrl]
          · intro w hw
            rcases List.mem_append.1 hw with h | h
            · exact hrw w h
            · rw [List.mem_singleton.1 h]; exact Nat.mod_lt _ (by omega)
          · rw [List.take_of_length_le (show as_.length ≤ j by omega)] at hsum
            rw [wv_snoc, hrl, wv_take_succ hl2, List.take_of_length_le (show as_.length ≤ j + 1 by omega), Nat.pow_succ]
            have e := Nat.div_add_mod (cy + bs[j]) 4294967296
            have e2 : (2 : Nat) ^ 32 = 4294967296 := by decide
            rw [e2]
            generalize (cy + bs[j]) / 4294967296 = d at e ⊢
            generalize (cy + bs[j]) % 4294967296 = r at e ⊢
            generalize (4294967296 : Nat) ^ j = p at hsum ⊢
            have : p * r + p * 4294967296 * d = p * cy + p * bs[j] := by rw [← Nat.mul_add, ← e, Nat.mul_add, Nat.mul_assoc]; omega
            omega
      · obtain rfl : j = bs.length := by omega
        have hlen : (wc (rs ++ List.replicate (bs.length + 1 - bs.length) 0)).length = bs.length + 1 := by rw [wc_length, List.length_append, List.length_replicate, hrl]; omega
        have hj2 : bs.length < bs.length + 1 := by omega
        simp only [↓R1, R2, R3, R4, TY, reduceIte, Nat.reduceEqDiff, Nat.reduceAdd, Nat.reduceMul, Nat.reduceLT, Nat.reduceLeDiff, reduceCtorEq, decide_true, decide_false, Int.reduceLE, Int.reduceLT, Int.reduceToNat, Int.reduceAdd, Int.reduceSub, Int.reduceMul, Int.reduceEq, q5, q6, q7, q8, q44, q45, q46, hb, hlen, hfl2, hj2, UN]
        have hrow : (wc (rs ++ List.replicate (bs.length + 1 - bs.length) 0)).set bs.length (.int .u32 ((cy % 4294967296 : Nat) : Int)) = wc (rs ++ [cy]) := by
          rw [wc_set, show bs.length + 1 - bs.length = 0 + 1 by omega, List.replicate_succ, set_snoc hrl, Nat.mod_eq_of_lt (by omega)]; simp
        rw [hrow]
        generalize hD : Hp.put _ _ _ = D
        have hDb : D.blk (A.next + 2) = some (.row (wc (rs ++ [cy])) 0 1) := by rw [← hD]; simp [Hp.put_blk]
        have hDx : Xt A.next A D := by rw [← hD]; exact (hHx.trans hx).put (by omega) _
        refine call_of (text_ok (ws := rs ++ [cy]) (by simp; omega) (fun w hw => ?_) (sl_row hDb (by simp [hrl]))) ?_
        · rcases List.mem_append.1 hw with h | h
          · exact hrw w h
          · rw [List.mem_singleton.1 h]; omega
        simp only [↓R1, R2, R3, R4, TY, reduceIte, Nat.reduceEqDiff, Nat.reduceAdd, Nat.reduceMul, Nat.reduceLT, Nat.reduceLeDiff, reduceCtorEq, decide_true, decide_false, Int.reduceLE, Int.reduceLT, Int.reduceToNat, Int.reduceAdd, Int.reduceSub, Int.reduceMul, Int.reduceEq]
        refine Ended.back hA hDx ?_ (RB.string _)
        have hv : wv (rs ++ [cy]) = nv a + nv b := by
          rw [wv_snoc, hrl, hsum, List.take_length, List.take_of_length_le (show as_.length ≤ bs.length by omega)]; omega
        rw [hv]
    · have w1 : IntKind.i64.wrap ((as_.length : Int) + 1) = ((as_.length + 1 : Nat) : Int) := by rw [wrapI (by omega)]; omega
      have w4 : ((4 : Nat) : Int) * ((as_.length + 1 : Nat) : Int) ≤ 281474976710656 := by omega
      have w5 : ((as_.length + 1 : Nat) : Int) ≤ 9223372036854775807 := by omega
      have w6 : (0 : Int) ≤ ((as_.length + 1 : Nat) : Int) := by omega
      simp only [↓R1, R2, R3, R4, TY, reduceIte, Nat.reduceEqDiff, Nat.reduceAdd, Nat.reduceMul, Nat.reduceLT, Nat.reduceLeDiff, reduceCtorEq, decide_true, decide_false, Int.reduceLE, Int.reduceLT, Int.reduceToNat, Int.reduceAdd, Int.reduceSub, Int.reduceMul, Int.reduceEq, w1, w4, w5, w6, hHn]
      refine range_of 46 as_.length (fun j τ B => ∃ (rs : List Nat) (cy : Nat), Xt H.next H B ∧ B.next = A.next + 3 ∧ B.blk (A.next + 2) = some (.row (wc (rs ++ List.replicate (as_.length + 1 - j) 0)) 0 1) ∧ rs.length = j ∧ W32 rs ∧ cy ≤ 1 ∧ wv rs + 4294967296 ^ j * cy = wv (as_.take j) + wv (bs.take j) ∧
        τ 5 = some (.slice (some ⟨A.next, 0, some 0⟩) as_.length as_.length) ∧ τ 6 = some (.slice (some ⟨A.next + 1, 0, some 0⟩) bs.length bs.length) ∧ τ 7 = some (.slice (some ⟨A.next + 2, 0, some 0⟩) (as_.length + 1) (as_.length + 1)) ∧ τ 8 = some (.int .u64 (cy : Nat)) ∧ τ 44 = some (.slice (some ⟨A.next, 0, some 0⟩) as_.length as_.length) ∧ τ 45 = some (.int .i64 as_.length) ∧ τ 46 = some (.int .i64 j)) ?_ ?_
      · refine ⟨[], 0, (Xt.refl H).push _, by rw [Hp.push_next, hHn], ?_, rfl, by intro w hw; simp at hw, by omega, by simp [wv], rfl, rfl, rfl, rfl, rfl, rfl, rfl⟩
        rw [Hp.push_blk, if_pos hHn.symm, zl_one, wc_zeros]; rfl
      rintro j τ B hj ⟨rs, cy, hx, hn1, hb, hrl, hrw, hcy, hsum, q5, q6, q7, q8, q44, q45, q46⟩
      simp only [↓R1, R2, R3, R4, TY, reduceIte, Nat.reduceEqDiff, Nat.reduceAdd, Nat.reduceMul, Nat.reduceLT, Nat.reduceLeDiff, reduceCtorEq, decide_true, decide_false, Int.reduceLE, Int.reduceLT, Int.reduceToNat, Int.reduceAdd, Int.reduceSub, Int.reduceMul, Int.reduceEq, q5, q6, q7, q8, q44, q45, q46]
      have hfl : fl ≤ A.next := hA.floor
      have hfl2 : fl ≤ A.next + 2 := by omega
      have hbx : B.blk (A.next) = some (.row (wc as_) 0 1) := by rw [hx.blk _ (by omega)]; exact hHa
      have hby : B.blk (A.next + 1) = some (.row (wc bs) 0 1) := by rw [hx.blk _ (by omega)]; exact hHb
      refine ⟨fun hl2 => ?_, fun hl2 => ?_⟩
      · have hj63 : j < 9223372036854775807 := by omega
        have hgx : B.get G ⟨A.next, j, some 0⟩ = some (.int .u32 (as_[j] : Nat)) := by simp only [Hp.get, hbx, if_true]; exact wc_get hl2
        have hx32 : as_[j] < 4294967296 := ka _ (List.getElem_mem hl2)
        have hlen : (wc (rs ++ List.replicate (as_.length + 1 - j) 0)).length = as_.length + 1 := by rw [wc_length, List.length_append, List.length_replicate, hrl]; omega
        have hj1 : j + 1 ≤ as_.length + 1 := by omega
        have hj2 : j < as_.length + 1 := by omega
        have m1 : as_[j] % 18446744073709551616 = as_[j] := Nat.mod_eq_of_lt (by omega)
        have m2 : (cy + as_[j]) % 18446744073709551616 = cy + as_[j] := Nat.mod_eq_of_lt (by omega)
        by_cases hy : j < bs.length
        · have hgy : B.get G ⟨A.next + 1, j, some 0⟩ = some (.int .u32 (bs[j] : Nat)) := by simp only [Hp.get, hby, if_true]; exact wc_get hy
          have hy32 : bs[j] < 4294967296 := kb _ (List.getElem_mem hy)
          have m3 : bs[j] % 18446744073709551616 = bs[j] := Nat.mod_eq_of_lt (by omega)
          have m4 : (cy + as_[j] + bs[j]) % 18446744073709551616 = cy + as_[j] + bs[j] := Nat.mod_eq_of_lt (by omega)
          simp only [↓R1, R2, R3, R4, TY, reduceIte, Nat.reduceEqDiff, Nat.reduceAdd, Nat.reduceMul, Nat.reduceLT, Nat.reduceLeDiff, reduceCtorEq, decide_true, decide_false, Int.reduceLE, Int.reduceLT, Int.reduceToNat, Int.reduceAdd, Int.reduceSub, Int.reduceMul, Int.reduceEq, q5, q6, q7, q8, q44, q45, q46, hl2, hj63, hgx, hgy, hy, hb, hlen, hj1, hj2, hfl2, m1, m2, m3, m4, UN]
          refine range_on q46 hl2 rfl ⟨rs ++ [(cy + as_[j] + bs[j]) % 4294967296], (cy + as_[j] + bs[j]) / 2 ^ 32, hx.put (by omega) _, hn1, ?_, by simp [hrl], ?_, by omega, ?_, q5, q6, q7, rfl, q44, q45, rfl⟩
          · simp only [Hp.put_blk, if_true]
            rw [wc_set, show as_.length + 1 - j = (as_.length + 1 - (j + 1)) + 1 by omega, List.replicate_succ, set_snoc hrl]
          · intro w hw
            rcases List.mem_append.1 hw with h | h
            · exact hrw w h
            · rw [List.mem_singleton.1 h]; exact Nat.mod_lt _ (by omega)
          · rw [wv_snoc, hrl, wv_take_succ hl2, wv_take_succ hy, Nat.pow_succ]
            have e := Nat.div_add_mod (cy + as_[j] + bs[j]) 4294967296
            have e2 : (2 : Nat) ^ 32 = 4294967296 := by decide
            rw [e2]
            generalize (cy + as_[j] + bs[j]) / 4294967296 = d at e ⊢
            generalize (cy + as_[j] + bs[j]) % 4294967296 = r at e ⊢
            generalize (4294967296 : Nat) ^ j = p at hsum ⊢
            have : p * r + p * 4294967296 * d = p * cy + p * as_[j] + p * bs[j] := by rw [← Nat.mul_add, ← Nat.mul_add, ← e, Nat.mul_add, Nat.mul_assoc]; omega
            omega
        · simp only [↓R1, R2, R3, R4, TY, reduceIte, Nat.reduceEqDiff, Nat.reduceAdd, Nat.reduceMul, Nat.reduceLT, Nat.reduceLeDiff, reduceCtorEq, decide_true, decide_false, Int.reduceLE, Int.reduceLT, Int.reduceToNat, Int.reduceAdd, Int.reduceSub, Int.reduceMul, Int.reduceEq, q5, q6, q7, q8, q44, q45, q46, hl2, hj63, hgx, hy, hb, hlen, hj1, hj2, hfl2, m1, m2, UN]
          refine range_on q46 hl2 rfl ⟨rs ++ [(cy + as_[j]) % 4294967296], (cy + as_[j]) / 2 ^ 32, hx.put (by omega) _, hn1, ?_, by simp [hrl], ?_, by omega, ?_, q5, q6, q7, rfl, q44, q45, rfl⟩
          · simp only [Hp.put_blk, if_true]
            rw [wc_set, show as_.length + 1 - j = (as_.length + 1 - (j + 1)) + 1 by omega, List.replicate_succ, set_snoc hrl]
          · intro w hw
            rcases List.mem_append.1 hw with h | h
            · exact hrw w h
            · rw [List.mem_singleton.1 h]; exact Nat.mod_lt _ (by omega)
          · rw [List.take_of_length_le (show bs.length ≤ j by omega)] at hsum
            rw [wv_snoc, hrl, wv_take_succ hl2, List.take_of_length_le (show bs.length ≤ j + 1 by omega), Nat.pow_succ]
            have e := Nat.div_add_mod (cy + as_[j]) 4294967296
            have e2 : (2 : Nat) ^ 32 = 4294967296 := by decide
            rw [e2]
            generalize (cy + as_[j]) / 4294967296 = d at e ⊢
            generalize (cy + as_[j]) % 4294967296 = r at e ⊢
            generalize (4294967296 : Nat) ^ j = p at hsum ⊢
            have : p * r + p * 4294967296 * d = p * cy + p * as_[j] := by rw [← Nat.mul_add, ← e, Nat.mul_add, Nat.mul_assoc]; omega
            omega
      · obtain rfl : j = as_.length := by omega
        have hlen : (wc (rs ++ List.replicate (as_.length + 1 - as_.length) 0)).length = as_.length + 1 := by rw [wc_length, List.length_append, List.length_replicate, hrl]; omega
        have hj2 : as_.length < as_.length + 1 := by omega
        simp only [↓R1, R2, R3, R4, TY, reduceIte, Nat.reduceEqDiff, Nat.reduceAdd, Nat.reduceMul, Nat.reduceLT, Nat.reduceLeDiff, reduceCtorEq, decide_true, decide_false, Int.reduceLE, Int.reduceLT, Int.reduceToNat, Int.reduceAdd, Int.reduceSub, Int.reduceMul, Int.reduceEq, q5, q6, q7, q8, q44, q45, q46, hb, hlen, hfl2, hj2, UN]
        have hrow : (wc (rs ++ List.replicate (as_.length + 1 - as_.length) 0)).set as_.length (.int .u32 ((cy % 4294967296 : Nat) : Int)) = wc (rs ++ [cy]) := by
          rw [wc_set, show as_.length + 1 - as_.length = 0 + 1 by omega, List.replicate_succ, set_snoc hrl, Nat.mod_eq_of_lt (by omega)]; simp
        rw [hrow]
        generalize hD : Hp.put _ _ _ = D
        have hDb : D.blk (A.next + 2) = some (.row (wc (rs ++ [cy])) 0 1) := by rw [← hD]; simp [Hp.put_blk]
        have hDx : Xt A.next A D := by rw [← hD]; exact (hHx.trans hx).put (by omega) _
        refine call_of (text_ok (ws := rs ++ [cy]) (by simp; omega) (fun w hw => ?_) (sl_row hDb (by simp [hrl]))) ?_
        · rcases List.mem_append.1 hw with h | h
          · exact hrw w h
          · rw [List.mem_singleton.1 h]; omega
        simp only [↓R1, R2, R3, R4, TY, reduceIte, Nat.reduceEqDiff, Nat.reduceAdd, Nat.reduceMul, Nat.reduceLT, Nat.reduceLeDiff, reduceCtorEq, decide_true, decide_false, Int.reduceLE, Int.reduceLT, Int.reduceToNat, Int.reduceAdd, Int.reduceSub, Int.reduceMul, Int.reduceEq]
        refine Ended.back hA hDx ?_ (RB.string _)
        have hv : wv (rs ++ [cy]) = nv a + nv b := by
          rw [wv_snoc, hrl, hsum, List.take_length, List.take_of_length_le (show bs.length ≤ as_.length by omega)]; omega
        rw [hv]
end
end Go.Proofs.YtjkimjmocfjjnaaDoor.Ab

/- Numbers: Mul. -/
namespace Go.Proofs.YtjkimjmocfjjnaaDoor.Ab
open Go.RowKit
set_option linter.unusedVariables false
set_option linter.unusedSimpArgs false
set_option maxRecDepth 100000

theorem W32.set {l : List Nat} (h : W32 l) {j w : Nat} (hw : w < 4294967296) : W32 (l.set j w) := by
  intro x hx
  rcases List.mem_or_eq_of_mem_set hx with h' | h'
  · exact h x h'
  · rw [h']; exact hw
theorem mul_step {p P x y o c s B : Nat} (hs : s = c + (x * y + o)) (hB : B = 4294967296) {w w' Y V : Nat} (h1 : w' + o * (p * P) = w + s % B * (p * P)) (h2 : w + p * P * c = V + p * (x * Y)) :
    w' + p * (P * B) * (s / B) = V + p * (x * (Y + P * y)) := by
  have e := Nat.div_add_mod s B
  have e2 : p * P * s = p * P * (B * (s / B)) + p * P * (s % B) := by rw [← Nat.mul_add, e]
  have e3 : p * P * s = p * P * c + p * P * (x * y) + p * P * o := by rw [hs, Nat.mul_add, Nat.mul_add]; omega
  have e4 : p * (P * B) * (s / B) = p * P * (B * (s / B)) := by simp only [Nat.mul_assoc]
  have e5 : p * (x * (Y + P * y)) = p * (x * Y) + p * P * (x * y) := by
    rw [Nat.mul_add, Nat.mul_add, Nat.mul_assoc p P, Nat.mul_left_comm x P y]
  have e6 : o * (p * P) = p * P * o := Nat.mul_comm _ _
  have e7 : s % B * (p * P) = p * P * (s % B) := Nat.mul_comm _ _
  rw [e4, e5]
  omega

section
variable {G : Gl} {fl : Nat} {A : Hp}

theorem mul_ok {a b : List UInt8} (ha : (nb (nv a)).length ≤ 40000000000) (hb : (nb (nv b)).length ≤ 40000000000) : Sound Tryd.prog G 64 [.string (S a), .string (S b)] fl A (.string (S (nb (nv a * nv b)))) A := by
  refine Sound.of mixed Tryd.func64 Tryd.ntmps64 Tryd.results64 (by kernel_rfl) rfl (by kernel_rfl) (by kernel_rfl) fun hA => ?_
  simp only [↓R1, R2, R3, R4, TY, reduceIte, Nat.reduceEqDiff, Nat.reduceAdd, Nat.reduceMul, Nat.reduceLT, Nat.reduceLeDiff, reduceCtorEq, decide_true, decide_false, Int.reduceLE, Int.reduceLT, Int.reduceToNat, Int.reduceAdd, Int.reduceSub, Int.reduceMul, Int.reduceEq]
  refine call_of (trim_ok a) ?_
  simp only [↓R1, R2, R3, R4, TY, reduceIte, Nat.reduceEqDiff, Nat.reduceAdd, Nat.reduceMul, Nat.reduceLT, Nat.reduceLeDiff, reduceCtorEq, decide_true, decide_false, Int.reduceLE, Int.reduceLT, Int.reduceToNat, Int.reduceAdd, Int.reduceSub, Int.reduceMul, Int.reduceEq]
  refine call_of (trim_ok b) ?_
  have hw0 : IntKind.i64.wrap (((nb (nv a)).length + (nb (nv b)).length : Nat) : Int) = (((nb (nv a)).length + (nb (nv b)).length : Nat) : Int) := wrapI (by omega)
  have hshort : ((((nb (nv a)).length + (nb (nv b)).length : Nat) : Int) ≤ 8) = ((nb (nv a)).length + (nb (nv b)).length ≤ 8) := propext (by omega)
  simp only [↓R1, R2, R3, R4, TY, reduceIte, Nat.reduceEqDiff, Nat.reduceAdd, Nat.reduceMul, Nat.reduceLT, Nat.reduceLeDiff, reduceCtorEq, decide_true, decide_false, Int.reduceLE, Int.reduceLT, Int.reduceToNat, Int.reduceAdd, Int.reduceSub, Int.reduceMul, Int.reduceEq, S_size, UN, hw0, hshort]
  refine ⟨fun h1 => ?_, fun h1 => ?_⟩
  · have l1 := nb_len_le.1 (show (nb (nv a)).length ≤ (nb (nv a)).length from Nat.le_refl _)
    have l2 := nb_len_le.1 (show (nb (nv b)).length ≤ (nb (nv b)).length from Nat.le_refl _)
    have l3 : nv a * nv b < 256 ^ 8 := by
      by_cases hz : nv a * nv b = 0
      · rw [hz]; decide
      · have h3 : nv a * nv b < 256 ^ (nb (nv a)).length * 256 ^ (nb (nv b)).length := Nat.mul_lt_mul'' l1 l2
        rw [← Nat.pow_add] at h3
        exact Nat.lt_of_lt_of_le h3 (Nat.pow_le_pow_right (by omega) h1)
    refine call_of (short_ok (l := nb (nv a)) (by omega)) ?_
    simp only [↓R1, R2, R3, R4, TY, reduceIte, Nat.reduceEqDiff, Nat.reduceAdd, Nat.reduceMul, Nat.reduceLT, Nat.reduceLeDiff, reduceCtorEq, decide_true, decide_false, Int.reduceLE, Int.reduceLT, Int.reduceToNat, Int.reduceAdd, Int.reduceSub, Int.reduceMul, Int.reduceEq]
    refine call_of (short_ok (l := nb (nv b)) (by omega)) ?_
    simp only [↓R1, R2, R3, R4, TY, reduceIte, Nat.reduceEqDiff, Nat.reduceAdd, Nat.reduceMul, Nat.reduceLT, Nat.reduceLeDiff, reduceCtorEq, decide_true, decide_false, Int.reduceLE, Int.reduceLT, Int.reduceToNat, Int.reduceAdd, Int.reduceSub, Int.reduceMul, Int.reduceEq, nv_nb, UN]
    refine call_of (fromShort_ok (Nat.mod_lt _ (by omega))) ?_
    simp only [↓R1, R2, R3, R4, TY, reduceIte, Nat.reduceEqDiff, Nat.reduceAdd, Nat.reduceMul, Nat.reduceLT, Nat.reduceLeDiff, reduceCtorEq, decide_true, decide_false, Int.reduceLE, Int.reduceLT, Int.reduceToNat, Int.reduceAdd, Int.reduceSub, Int.reduceMul, Int.reduceEq]
    refine Ended.back hA (Xt.refl _) ?_ (RB.string _)
    rw [Nat.mod_eq_of_lt (by omega)]
  have xa : (wds (nv a)).length ≤ 25000000000 := wds_len_le (by omega)
  have xb : (wds (nv b)).length ≤ 25000000000 := wds_len_le (by omega)
  refine call_of (words_ok (l := nb (nv a)) (by rw [nv_nb]; omega)) ?_
  simp only [↓R1, R2, R3, R4, TY, reduceIte, Nat.reduceEqDiff, Nat.reduceAdd, Nat.reduceMul, Nat.reduceLT, Nat.reduceLeDiff, reduceCtorEq, decide_true, decide_false, Int.reduceLE, Int.reduceLT, Int.reduceToNat, Int.reduceAdd, Int.reduceSub, Int.reduceMul, Int.reduceEq]
  refine call_of (words_ok (l := nb (nv b)) (by rw [nv_nb]; omega)) ?_
  rw [nv_nb, nv_nb]
  have kx := wds_w32 (nv a)
  have ky := wds_w32 (nv b)
  have va := wv_wds (nv a)
  have vb := wv_wds (nv b)
  generalize wds (nv a) = xs at xa kx va ⊢
  generalize wds (nv b) = ys at xb ky vb ⊢
  generalize hH : Hp.push _ (Blk.row (wc ys) 0 1) = H
  have hHn : H.next = A.next + 2 := by rw [← hH]; rfl
  have hHa : H.blk A.next = some (.row (wc xs) 0 1) := by rw [← hH]; simp [Hp.push_blk]
  have hHb : H.blk (A.next + 1) = some (.row (wc ys) 0 1) := by rw [← hH]; simp [Hp.push_blk]
  have hHx : Xt A.next A H := by rw [← hH]; exact ((Xt.refl A).push _).push _
  have w1 : IntKind.i64.wrap ((xs.length + ys.length : Nat) : Int) = ((xs.length + ys.length : Nat) : Int) := wrapI (by omega)
  have w4 : ((4 : Nat) : Int) * ((xs.length + ys.length : Nat) : Int) ≤ 281474976710656 := by omega
  have w4' : 4 * (xs.length + ys.length) ≤ 281474976710656 := by omega
  have w5 : ((xs.length + ys.length : Nat) : Int) ≤ 9223372036854775807 := by omega
  simp only [↓R1, R2, R3, R4, TY, reduceIte, Nat.reduceEqDiff, Nat.reduceAdd, Nat.reduceMul, Nat.reduceLT, Nat.reduceLeDiff, reduceCtorEq, decide_true, decide_false, hHn, Hp.push_next, w1, w4, w5, w4', add_n]
  refine range_of 41 xs.length (fun i τ B => ∃ os : List Nat, Xt H.next H B ∧ B.next = A.next + 3 ∧ B.blk (A.next + 2) = some (.row (wc os) 0 1) ∧ os.length = xs.length + ys.length ∧ W32 os ∧ (∀ q (h : q < os.length), i + ys.length ≤ q → os[q] = 0) ∧ wv os = wv (xs.take i) * wv ys ∧
    τ 6 = some (.slice (some ⟨A.next + 1, 0, some 0⟩) ys.length ys.length) ∧ τ 7 = some (.slice (some ⟨A.next + 2, 0, some 0⟩) (xs.length + ys.length) (xs.length + ys.length)) ∧ τ 39 = some (.slice (some ⟨A.next, 0, some 0⟩) xs.length xs.length) ∧ τ 40 = some (.int .i64 xs.length) ∧ τ 41 = some (.int .i64 i)) ?_ ?_
  · refine ⟨List.replicate (xs.length + ys.length) 0, (Xt.refl H).push _, by rw [Hp.push_next, hHn], ?_, by simp, by intro w hw; rw [(List.mem_replicate.1 hw).2]; omega, by intro q h _; simp, ?_, rfl, rfl, rfl, rfl, rfl⟩
    · rw [Hp.push_blk, if_pos hHn.symm, zl_one, wc_zeros]
    · have := wv_zeros [] (xs.length + ys.length)
      simp [wv] at this ⊢; exact this
  rintro i τ B hi ⟨os, hx, hn1, hb2, hol, how, hoz, hov, q6, q7, q39, q40, q41⟩
  have hfl : fl ≤ A.next := hA.floor
  have hfl2 : fl ≤ A.next + 2 := by omega
  simp only [↓R1, R2, R3, R4, TY, reduceIte, Nat.reduceEqDiff, Nat.reduceAdd, Nat.reduceMul, Nat.reduceLT, Nat.reduceLeDiff, reduceCtorEq, decide_true, decide_false, Int.reduceLE, Int.reduceLT, Int.reduceToNat, Int.reduceAdd, Int.reduceSub, Int.reduceMul, Int.reduceEq, q6, q7, q39, q40, q41]
  refine ⟨fun hlt => ?_, fun hlt => ?_⟩
  rotate_left
  · obtain rfl : i = xs.length := by omega
    refine call_of (text_ok (ws := os) (by omega) how (sl_row hb2 hol)) ?_
    simp only [↓R1, R2, R3, R4, TY, reduceIte, Nat.reduceEqDiff, Nat.reduceAdd, Nat.reduceMul, Nat.reduceLT, Nat.reduceLeDiff, reduceCtorEq, decide_true, decide_false, Int.reduceLE, Int.reduceLT, Int.reduceToNat, Int.reduceAdd, Int.reduceSub, Int.reduceMul, Int.reduceEq]
    refine Ended.back hA (hHx.trans hx) ?_ (RB.string _)
    rw [hov, List.take_length, va, vb]
  have hi63 : i < 9223372036854775807 := by omega
  have hbx : B.blk A.next = some (.row (wc xs) 0 1) := by rw [hx.blk _ (by omega)]; exact hHa
  have hgx : B.get G ⟨A.next, i, some 0⟩ = some (.int .u32 (xs[i] : Nat)) := by simp only [Hp.get, hbx, if_true]; exact wc_get hlt
  have hx32 : xs[i] < 4294967296 := kx _ (List.getElem_mem hlt)
  simp only [↓R1, R2, R3, R4, TY, reduceIte, Nat.reduceEqDiff, Nat.reduceAdd, Nat.reduceMul, Nat.reduceLT, Nat.reduceLeDiff, reduceCtorEq, decide_true, decide_false, Int.reduceLE, Int.reduceLT, Int.reduceToNat, Int.reduceAdd, Int.reduceSub, Int.reduceMul, Int.reduceEq, q6, q7, q39, q40, q41, hlt, hgx]
  refine range_of 48 ys.length (fun k τ C => ∃ (os : List Nat) (cy : Nat), Xt H.next H C ∧ C.next = A.next + 3 ∧ C.blk (A.next + 2) = some (.row (wc os) 0 1) ∧ os.length = xs.length + ys.length ∧ W32 os ∧ (∀ q (h : q < os.length), i + ys.length ≤ q → os[q] = 0) ∧ cy < 4294967296 ∧
    wv os + 4294967296 ^ i * 4294967296 ^ k * cy = wv (xs.take i) * wv ys + 4294967296 ^ i * (xs[i] * wv (ys.take k)) ∧
    τ 6 = some (.slice (some ⟨A.next + 1, 0, some 0⟩) ys.length ys.length) ∧ τ 7 = some (.slice (some ⟨A.next + 2, 0, some 0⟩) (xs.length + ys.length) (xs.length + ys.length)) ∧ τ 8 = some (.int .i64 i) ∧ τ 9 = some (.int .u32 (xs[i] : Nat)) ∧ τ 10 = some (.int .u64 (cy : Nat)) ∧
    τ 39 = some (.slice (some ⟨A.next, 0, some 0⟩) xs.length xs.length) ∧ τ 40 = some (.int .i64 xs.length) ∧ τ 41 = some (.int .i64 i) ∧ τ 46 = some (.slice (some ⟨A.next + 1, 0, some 0⟩) ys.length ys.length) ∧ τ 47 = some (.int .i64 ys.length) ∧ τ 48 = some (.int .i64 k)) ?_ ?_
  · exact ⟨os, 0, hx, hn1, hb2, hol, how, hoz, by omega, by rw [hov]; simp [wv], q6, q7, rfl, rfl, rfl, q39, q40, q41, rfl, rfl, rfl⟩
  clear hov hoz how hol hb2 hn1 hx hbx hgx
  rintro k τ' C hk ⟨os, cy, hx, hn1, hb2, hol, how, hoz, hcy, hov, r6, r7, r8, r9, r10, r39, r40, r41, r46, r47, r48⟩
  simp only [↓R1, R2, R3, R4, TY, reduceIte, Nat.reduceEqDiff, Nat.reduceAdd, Nat.reduceMul, Nat.reduceLT, Nat.reduceLeDiff, reduceCtorEq, decide_true, decide_false, Int.reduceLE, Int.reduceLT, Int.reduceToNat, Int.reduceAdd, Int.reduceSub, Int.reduceMul, Int.reduceEq, r6, r7, r8, r9, r10, r39, r40, r41, r46, r47, r48]
  refine ⟨fun hkl => ?_, fun hkl => ?_⟩
  · have hk63 : k < 9223372036854775807 := by omega
    have hby : C.blk (A.next + 1) = some (.row (wc ys) 0 1) := by rw [hx.blk _ (by omega)]; exact hHb
    have hgy : C.get G ⟨A.next + 1, k, some 0⟩ = some (.int .u32 (ys[k] : Nat)) := by simp only [Hp.get, hby, if_true]; exact wc_get hkl
    have hy32 : ys[k] < 4294967296 := ky _ (List.getElem_mem hkl)
    have hik : i + k < os.length := by omega
    have hik2 : i + k < xs.length + ys.length := by omega
    have hik3 : i + k + 1 ≤ xs.length + ys.length := by omega
    have hgo : C.get G ⟨A.next + 2, i + k, some 0⟩ = some (.int .u32 (os[i + k] : Nat)) := by simp only [Hp.get, hb2, if_true]; exact wc_get hik
    have ho32 : os[i + k] < 4294967296 := how _ (List.getElem_mem hik)
    have hxy : xs[i] * ys[k] ≤ 4294967295 * 4294967295 := Nat.mul_le_mul (by omega) (by omega)
    have v1 : IntKind.i64.wrap ((i + k : Nat) : Int) = ((i + k : Nat) : Int) := wrapI (by omega)
    have m1 : xs[i] % 18446744073709551616 = xs[i] := Nat.mod_eq_of_lt (by omega)
    have m2 : ys[k] % 18446744073709551616 = ys[k] := Nat.mod_eq_of_lt (by omega)
    have m3 : xs[i] * ys[k] % 18446744073709551616 = xs[i] * ys[k] := Nat.mod_eq_of_lt (by omega)
    have m4 : os[i + k] % 18446744073709551616 = os[i + k] := Nat.mod_eq_of_lt (by omega)
    have m5 : (xs[i] * ys[k] + os[i + k]) % 18446744073709551616 = xs[i] * ys[k] + os[i + k] := Nat.mod_eq_of_lt (by omega)
    have m6 : (cy + (xs[i] * ys[k] + os[i + k])) % 18446744073709551616 = cy + (xs[i] * ys[k] + os[i + k]) := Nat.mod_eq_of_lt (by omega)
    have hlen : (wc os).length = xs.length + ys.length := by rw [wc_length, hol]
    simp only [↓R1, R2, R3, R4, TY, reduceIte, Nat.reduceEqDiff, Nat.reduceAdd, Nat.reduceMul, Nat.reduceLT, Nat.reduceLeDiff, reduceCtorEq, decide_true, decide_false, Int.reduceLE, Int.reduceLT, Int.reduceToNat, Int.reduceAdd, Int.reduceSub, Int.reduceMul, Int.reduceEq, r6, r7, r8, r9, r10, r39, r40, r41, r46, r47, r48, hkl, hk63, hgy, hgo, hik2, hik3, v1, m1, m2, m3, m4, m5, m6, hb2, hfl2, hlen, UN]
    refine range_on r48 hkl rfl ⟨os.set (i + k) ((cy + (xs[i] * ys[k] + os[i + k])) % 4294967296), (cy + (xs[i] * ys[k] + os[i + k])) / 2 ^ 32, hx.put (by omega) _, hn1, ?_, by simpa using hol, how.set (Nat.mod_lt _ (by omega)), ?_, by omega, ?_, r6, r7, r8, r9, rfl, r39, r40, r41, r46, r47, rfl⟩
    · simp only [Hp.put_blk, if_true]; rw [wc_set]
    · intro q h hq
      rw [List.getElem_set, if_neg (by omega)]
      exact hoz q (by simpa using h) hq
    · rw [wv_take_succ hkl, Nat.pow_succ]
      have h1 := wv_set os (i + k) ((cy + (xs[i] * ys[k] + os[i + k])) % 4294967296) hik
      rw [Nat.pow_add] at h1
      exact mul_step rfl rfl h1 hov
  · obtain rfl : k = ys.length := by omega
    have hik : i + ys.length < os.length := by omega
    have hik2 : i + ys.length < xs.length + ys.length := by omega
    have hik3 : i + ys.length + 1 ≤ xs.length + ys.length := by omega
    have v1 : IntKind.i64.wrap ((i + ys.length : Nat) : Int) = ((i + ys.length : Nat) : Int) := wrapI (by omega)
    have hlen : (wc os).length = xs.length + ys.length := by rw [wc_length, hol]
    have m1 : cy % 4294967296 = cy := Nat.mod_eq_of_lt hcy
    simp only [↓R1, R2, R3, R4, TY, reduceIte, Nat.reduceEqDiff, Nat.reduceAdd, Nat.reduceMul, Nat.reduceLT, Nat.reduceLeDiff, reduceCtorEq, decide_true, decide_false, Int.reduceLE, Int.reduceLT, Int.reduceToNat, Int.reduceAdd, Int.reduceSub, Int.reduceMul, Int.reduceEq, r6, r7, r8, r9, r10, r39, r40, r41, r46, r47, r48, hi63, hik2, hik3, v1, m1, hb2, hfl2, hlen, UN]
    refine range_on q41 hlt rfl ⟨os.set (i + ys.length) cy, hx.put (by omega) _, hn1, ?_, by simpa using hol, how.set hcy, ?_, ?_, r6, r7, r39, r40, rfl⟩
    · simp only [Hp.put_blk, if_true]; rw [wc_set]
    · intro q h hq
      rw [List.getElem_set, if_neg (by omega)]
      exact hoz q (by simpa using h) (by omega)
    · have h1 := wv_set os (i + ys.length) cy hik
      rw [hoz _ hik (Nat.le_refl _), Nat.zero_mul, Nat.add_zero, Nat.pow_add] at h1
      rw [List.take_length] at hov
      rw [h1, wv_take_succ hlt, Nat.add_mul, Nat.mul_assoc (4294967296 ^ i) xs[i], ← hov, Nat.mul_comm cy]
end
end Go.Proofs.YtjkimjmocfjjnaaDoor.Ab
