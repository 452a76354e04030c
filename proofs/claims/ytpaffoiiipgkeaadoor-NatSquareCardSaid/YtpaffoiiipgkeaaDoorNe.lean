/- Numbers: text, Of, Cmp. -/
import Derived.Test.YtpaffoiiipgkeaaDoorNd
import Derived.Lib.Bytealg
import Derived.Laws.Externs
namespace Go.Proofs.YtpaffoiiipgkeaaDoor.Ab
open Go.RowKit
set_option linter.unusedVariables false
set_option linter.unusedSimpArgs false
set_option maxRecDepth 100000

/-- Which of two numbers is less. -/
def cmpN (m n : Nat) : Int := if m < n then -1 else if n < m then 1 else 0
theorem compareBytes_nv : ∀ (a b : List UInt8), a.length = b.length → Go.Lib.compareBytes a b = cmpN (nv a) (nv b)
  | [], [], _ => by simp [Go.Lib.compareBytes, cmpN]
  | [], _ :: _, h => by simp at h
  | _ :: _, [], h => by simp at h
  | x :: a, y :: b, h => by
    have hl : a.length = b.length := by simpa using h
    have ih := compareBytes_nv a b hl
    have ha := nv_lt a
    have hb := nv_lt b
    rw [Go.Lib.compareBytes, nv_cons, nv_cons, hl, ih]
    rw [hl] at ha
    generalize (256 : Nat) ^ b.length = p at ha hb ⊢
    have mul : ∀ {u v : Nat}, u < v → u * p + p ≤ v * p := fun {u v} h => by
      rw [← Nat.succ_mul]; exact Nat.mul_le_mul_right _ h
    unfold cmpN
    rcases Nat.lt_trichotomy x.toNat y.toNat with h1 | h1 | h1
    · have := mul h1
      have hx : x < y := h1
      rw [if_pos hx, if_pos (by omega)]
    · have hx : x = y := UInt8.toNat_inj.1 h1
      subst hx
      rw [if_neg (UInt8.lt_irrefl x), if_neg (UInt8.lt_irrefl x)]
      congr 1
      · exact propext ⟨fun h => by omega, fun h => by omega⟩
      · congr 1; exact propext ⟨fun h => by omega, fun h => by omega⟩
    · have := mul h1
      have hy : y < x := h1
      have hx : ¬ x < y := fun h => by have h' : x.toNat < y.toNat := h; omega
      rw [if_neg hx, if_pos hy, if_neg (by omega), if_pos (by omega)]
theorem set4 {r : List UInt8} {m : Nat} {a b c d : UInt8} : ((((List.replicate (m + 4) 0 ++ r).set m a).set (m + 1) b).set (m + 2) c).set (m + 3) d = List.replicate m 0 ++ ([a, b, c, d] ++ r) := by
  have e : List.replicate (m + 4) (0 : UInt8) ++ r = List.replicate m 0 ++ (0 :: 0 :: 0 :: 0 :: r) := by
    rw [← List.replicate_append_replicate]; simp [List.replicate_succ]
  rw [e, List.set_append_right _ _ (by simp), List.set_append_right _ _ (by simp), List.set_append_right _ _ (by simp), List.set_append_right _ _ (by simp)]
  simp

section
variable {G : Gl} {fl : Nat} {A : Hp}

theorem cmpstring_ok (a b : List UInt8) : Sound Tryd.prog G 70 [.string (S a), .string (S b)] fl A (.int .i64 (Go.Lib.compareBytes a b)) A := by
  refine Sound.of_scalar (fun u hu => ?_) rfl fun w => ?_
  · simp only [List.mem_cons, List.not_mem_nil, or_false] at hu
    rcases hu with rfl | rfl
    · exact ⟨rfl, fun μ A u' h => by cases h; rfl⟩
    · exact ⟨rfl, fun μ A u' h => by cases h; rfl⟩
  · refine .inr ⟨.int .i64 (Go.Lib.compareBytes a b), w, ?_, rfl, Below.refl _ _⟩
    rw [run_callFunc_extern (fn := Tryd.f70) (e := Extern.BytealgCompare.compare) (by kernel_rfl) (by kernel_rfl) (by kernel_rfl) (by kernel_rfl) (by kernel_rfl)]
    have := Go.Lib.run_compareString (P := Tryd.prog) (S a) (S b) w
    rw [show [Value.string (S a), Value.string (S b)].toArray = #[.string (S a), .string (S b)] from rfl, this]
    rfl
theorem compareString_ok (a b : List UInt8) : Sound Tryd.prog G 50 [.string (S a), .string (S b)] fl A (.int .i64 (Go.Lib.compareBytes a b)) A := by
  refine Sound.of mixed Tryd.func50 Tryd.ntmps50 Tryd.results50 (by kernel_rfl) rfl (by kernel_rfl) (by simp) fun hA => ?_
  simp only [↓R1, R2, R3, R4, TY, reduceIte, Nat.reduceEqDiff, Nat.reduceAdd, Nat.reduceMul, Nat.reduceLT, Nat.reduceLeDiff, reduceCtorEq, decide_true, decide_false, Int.reduceLE, Int.reduceLT, Int.reduceToNat, Int.reduceAdd, Int.reduceSub, Int.reduceMul, Int.reduceEq]
  refine call_of (cmpstring_ok a b) ?_
  simp only [↓R1, R2, R3, R4, TY, reduceIte, Nat.reduceEqDiff, Nat.reduceAdd, Nat.reduceMul, Nat.reduceLT, Nat.reduceLeDiff, reduceCtorEq, decide_true, decide_false, Int.reduceLE, Int.reduceLT, Int.reduceToNat, Int.reduceAdd, Int.reduceSub, Int.reduceMul, Int.reduceEq]
  exact Ended.back hA (Xt.refl _) rfl (RB.int _ _)
theorem compare_ok (a b : List UInt8) : Sound Tryd.prog G 17 [.string (S a), .string (S b)] fl A (.int .i64 (Go.Lib.compareBytes a b)) A := by
  refine Sound.of mixed Tryd.func17 Tryd.ntmps17 Tryd.results17 (by kernel_rfl) rfl (by kernel_rfl) (by simp) fun hA => ?_
  simp only [↓R1, R2, R3, R4, TY, reduceIte, Nat.reduceEqDiff, Nat.reduceAdd, Nat.reduceMul, Nat.reduceLT, Nat.reduceLeDiff, reduceCtorEq, decide_true, decide_false, Int.reduceLE, Int.reduceLT, Int.reduceToNat, Int.reduceAdd, Int.reduceSub, Int.reduceMul, Int.reduceEq]
  refine call_of (compareString_ok a b) ?_
  simp only [↓R1, R2, R3, R4, TY, reduceIte, Nat.reduceEqDiff, Nat.reduceAdd, Nat.reduceMul, Nat.reduceLT, Nat.reduceLeDiff, reduceCtorEq, decide_true, decide_false, Int.reduceLE, Int.reduceLT, Int.reduceToNat, Int.reduceAdd, Int.reduceSub, Int.reduceMul, Int.reduceEq]
  exact Ended.back hA (Xt.refl _) rfl (RB.int _ _)

theorem cmp_ok (a b : List UInt8) : Sound Tryd.prog G 16 [.string (S a), .string (S b)] fl A (.int .i64 (cmpN (nv a) (nv b))) A := by
  refine Sound.of mixed Tryd.func16 Tryd.ntmps16 Tryd.results16 (by kernel_rfl) rfl (by kernel_rfl) (by simp) fun hA => ?_
  simp only [↓R1, R2, R3, R4, TY, reduceIte, Nat.reduceEqDiff, Nat.reduceAdd, Nat.reduceMul, Nat.reduceLT, Nat.reduceLeDiff, reduceCtorEq, decide_true, decide_false, Int.reduceLE, Int.reduceLT, Int.reduceToNat, Int.reduceAdd, Int.reduceSub, Int.reduceMul, Int.reduceEq]
  refine call_of (trim_ok a) ?_
  simp only [↓R1, R2, R3, R4, TY, reduceIte, Nat.reduceEqDiff, Nat.reduceAdd, Nat.reduceMul, Nat.reduceLT, Nat.reduceLeDiff, reduceCtorEq, decide_true, decide_false, Int.reduceLE, Int.reduceLT, Int.reduceToNat, Int.reduceAdd, Int.reduceSub, Int.reduceMul, Int.reduceEq]
  refine call_of (trim_ok b) ?_
  simp only [↓R1, R2, R3, R4, TY, reduceIte, Nat.reduceEqDiff, Nat.reduceAdd, Nat.reduceMul, Nat.reduceLT, Nat.reduceLeDiff, reduceCtorEq, decide_true, decide_false, Int.reduceLE, Int.reduceLT, Int.reduceToNat, Int.reduceAdd, Int.reduceSub, Int.reduceMul, Int.reduceEq, S_size]
  refine ⟨fun h => ?_, fun h => ⟨fun h2 => ?_, fun h2 => ?_⟩⟩
  · have := lt_of_nb_len h
    exact Ended.back hA (Xt.refl _) (by rw [cmpN, if_pos this]) (RB.int _ _)
  · have := lt_of_nb_len h2
    exact Ended.back hA (Xt.refl _) (by rw [cmpN, if_neg (by omega), if_pos this]) (RB.int _ _)
  · refine call_of (compare_ok _ _) ?_
    simp only [↓R1, R2, R3, R4, TY, reduceIte, Nat.reduceEqDiff, Nat.reduceAdd, Nat.reduceMul, Nat.reduceLT, Nat.reduceLeDiff, reduceCtorEq, decide_true, decide_false, Int.reduceLE, Int.reduceLT, Int.reduceToNat, Int.reduceAdd, Int.reduceSub, Int.reduceMul, Int.reduceEq]
    refine Ended.back hA (Xt.refl _) ?_ (RB.int _ _)
    rw [compareBytes_nv _ _ (by omega), nv_nb, nv_nb]

theorem of_ok {n : Int} (h : n ≤ 9223372036854775807) : Sound Tryd.prog G 45 [.int .i64 n] fl A (.string (S (nb n.toNat))) A := by
  refine Sound.of mixed Tryd.func45 Tryd.ntmps45 Tryd.results45 (by kernel_rfl) rfl (by kernel_rfl) (by simp) fun hA => ?_
  simp only [↓R1, R2, R3, R4, TY, reduceIte, Nat.reduceEqDiff, Nat.reduceAdd, Nat.reduceMul, Nat.reduceLT, Nat.reduceLeDiff, reduceCtorEq, decide_true, decide_false, Int.reduceLE, Int.reduceLT, Int.reduceToNat, Int.reduceAdd, Int.reduceSub, Int.reduceMul, Int.reduceEq]
  refine ⟨fun h0 => ?_, fun h0 => ?_⟩
  · exact Ended.back hA (Xt.refl _) (by rw [show n.toNat = 0 by omega, nb_zero]) (RB.string _)
  · have hw : IntKind.u64.wrap n = ((n.toNat : Nat) : Int) := by rw [wrap_u64]; omega
    rw [hw]
    refine call_of (fromShort_ok (by omega)) ?_
    simp only [↓R1, R2, R3, R4, TY, reduceIte, Nat.reduceEqDiff, Nat.reduceAdd, Nat.reduceMul, Nat.reduceLT, Nat.reduceLeDiff, reduceCtorEq, decide_true, decide_false, Int.reduceLE, Int.reduceLT, Int.reduceToNat, Int.reduceAdd, Int.reduceSub, Int.reduceMul, Int.reduceEq]
    exact Ended.back hA (Xt.refl _) rfl (RB.string _)

theorem text_ok {v : Value} {ws : List Nat} (hl : ws.length ≤ 1000000) (hw : W32 ws) (hs : Sl A 1 v (ws.map uc)) : Sound Tryd.prog G 48 [v] fl A (.string (S (nb (wv ws)))) A := by
  refine Sound.of mixed Tryd.func48 Tryd.ntmps48 Tryd.results48 (by kernel_rfl) rfl (by kernel_rfl) (by simp) fun hA => ?_
  obtain ⟨o, c, rfl⟩ := hs.len
  rw [List.length_map] at hs ⊢
  have w1 : IntKind.i64.wrap (4 * (ws.length : Int)) = ((4 * ws.length : Nat) : Int) := by rw [wrapI (by omega)]; omega
  have w4 : ((1 : Nat) : Int) * ((4 * ws.length : Nat) : Int) ≤ 281474976710656 := by omega
  have w5 : ((4 * ws.length : Nat) : Int) ≤ 9223372036854775807 := by omega
  simp only [↓R1, R2, R3, R4, TY, reduceIte, Nat.reduceEqDiff, Nat.reduceAdd, Nat.reduceMul, Nat.reduceLT, Nat.reduceLeDiff, reduceCtorEq, decide_true, decide_false, Int.reduceLE, Int.reduceLT, Int.reduceToNat, Int.reduceAdd, Int.reduceSub, Int.reduceMul, Int.reduceEq, w1, w4, w5]
  refine range_of 13 ws.length (fun j τ B => Xt A.next A B ∧ B.next = A.next + 1 ∧ B.blk A.next = some (.row (bl (List.replicate (4 * (ws.length - j)) 0 ++ be (ws.take j))) 0 1) ∧ τ 0 = some (.slice o ws.length c) ∧ τ 3 = some (.slice (some ⟨A.next, 0, some 0⟩) (4 * ws.length) (4 * ws.length)) ∧ τ 11 = some (.slice o ws.length c) ∧ τ 12 = some (.int .i64 ws.length) ∧ τ 13 = some (.int .i64 j)) ?_ ?_
  · refine ⟨(Xt.refl A).push _, rfl, ?_, rfl, rfl, rfl, rfl, rfl⟩
    rw [Hp.push_blk, if_pos rfl, zl_one, bl_zeros]; simp [be]
  rintro j τ B hj ⟨hx, hn1, hb, q0, q3, q11, q12, q13⟩
  simp only [↓R1, R2, R3, R4, TY, reduceIte, Nat.reduceEqDiff, Nat.reduceAdd, Nat.reduceMul, Nat.reduceLT, Nat.reduceLeDiff, reduceCtorEq, decide_true, decide_false, Int.reduceLE, Int.reduceLT, Int.reduceToNat, Int.reduceAdd, Int.reduceSub, Int.reduceMul, Int.reduceEq, q0, q3, q11, q12, q13]
  refine ⟨fun hlt => ?_, fun hlt => ?_⟩
  · have hfl : fl ≤ A.next := hA.floor
    have hj63 : j < 9223372036854775807 := by omega
    obtain ⟨a, rfl, -⟩ := hs.at (G := G) (i := j) (by simpa using hlt)
    have hab : a.block < B.next := Nat.lt_of_lt_of_le (hs.lt hA) hx.next
    have hg := word_get (G := G) (hs.xt hA hx) hlt
    have v1 : IntKind.i64.wrap ((ws.length : Int) - 1) = ((ws.length - 1 : Nat) : Int) := by rw [wrapI (by omega)]; omega
    have v2 : IntKind.i64.wrap (((ws.length - 1 : Nat) : Int) - (j : Int)) = ((ws.length - 1 - j : Nat) : Int) := by rw [wrapI (by omega)]; omega
    have v3 : IntKind.i64.wrap (4 * ((ws.length - 1 - j : Nat) : Int)) = ((4 * (ws.length - 1 - j) : Nat) : Int) := by rw [wrapI (by omega)]; omega
    have hk : 4 * (ws.length - j) = 4 * (ws.length - 1 - j) + 4 := by omega
    have hlen : (bl (List.replicate (4 * (ws.length - j)) 0 ++ be (ws.take j))).length = 4 * ws.length := by
      rw [bl_length, List.length_append, List.length_replicate, be_length, List.length_take, Nat.min_eq_left hj]; omega
    have hkl : 4 * (ws.length - 1 - j) + 4 ≤ 4 * ws.length := by omega
    generalize 4 * (ws.length - 1 - j) = k at v3 hk hkl
    have v4 : IntKind.i64.wrap ((k : Int) + 1) = ((k + 1 : Nat) : Int) := by rw [wrapI (by omega)]; omega
    have v5 : IntKind.i64.wrap ((k : Int) + 2) = ((k + 2 : Nat) : Int) := by rw [wrapI (by omega)]; omega
    have v6 : IntKind.i64.wrap ((k : Int) + 3) = ((k + 3 : Nat) : Int) := by rw [wrapI (by omega)]; omega
    have b0 : k < 4 * ws.length := by omega
    have b1 : k + 1 < 4 * ws.length := by omega
    have b2 : k + 2 < 4 * ws.length := by omega
    have b3 : k + 3 < 4 * ws.length := by omega
    have d0 : k + 1 ≤ 4 * ws.length := by omega
    have d1 : k + 1 + 1 ≤ 4 * ws.length := by omega
    have d2 : k + 2 + 1 ≤ 4 * ws.length := by omega
    have d3 : k + 3 + 1 ≤ 4 * ws.length := by omega
    simp only [↓R1, R2, R3, R4, TY, reduceIte, Nat.reduceEqDiff, Nat.reduceAdd, Nat.reduceMul, Nat.reduceLT, Nat.reduceLeDiff, reduceCtorEq, decide_true, decide_false, Int.reduceLE, Int.reduceLT, Int.reduceToNat, Int.reduceAdd, Int.reduceSub, Int.reduceMul, Int.reduceEq, q0, q3, q11, q12, q13, hlt, hj63, hg, hab, hfl, v1, v2, v3, v4, v5, v6, b0, b1, b2, b3, d0, d1, d2, d3, hb, hlen, List.length_set, UN]
    refine range_on q13 hlt rfl ⟨by simp (maxDischargeDepth := 20) only [xt_put, hx, Nat.le_refl], hn1, ?_, q0, q3, q11, q12, rfl⟩
    simp only [Hp.put_blk, if_true]
    have hwj := hw _ (List.getElem_mem hlt)
    have e8 : ∀ x : Nat, Value.int .u8 ((x % 256 : Nat) : Int) = .int .u8 (((UInt8.ofNat (x % 256)).toNat : Nat) : Int) := fun x => by rw [ofNat_toNat8 (Nat.mod_lt _ (by omega))]
    rw [e8, e8, e8, e8, bl_set, bl_set, bl_set, bl_set, hk, set4, List.take_succ_eq_append_getElem hlt, be_snoc, b4]
    have hk2 : 4 * (ws.length - (j + 1)) = k := by omega
    rw [hk2]
  · obtain rfl : j = ws.length := by omega
    rw [Nat.sub_self, Nat.mul_zero, List.take_length] at hb
    have hb' : B.blk A.next = some (.row (bl (be ws)) 0 1) := by simpa using hb
    have hlen : (bl (be ws)).length = 4 * ws.length := by rw [bl_length, be_length]
    refine cnv_of (be ws) ty5 rfl rfl (by simp) (be_length ws) (fun j u hj => ?_) ?_
    · simp only [Hp.get, aadd, hb', Nat.zero_add, if_true]
      simp [bl, hj]
    simp only [↓R1, R2, R3, R4, TY, reduceIte, Nat.reduceEqDiff, Nat.reduceAdd, Nat.reduceMul, Nat.reduceLT, Nat.reduceLeDiff, reduceCtorEq, decide_true, decide_false, Int.reduceLE, Int.reduceLT, Int.reduceToNat, Int.reduceAdd, Int.reduceSub, Int.reduceMul, Int.reduceEq]
    refine call_of (trim_ok _) ?_
    simp only [↓R1, R2, R3, R4, TY, reduceIte, Nat.reduceEqDiff, Nat.reduceAdd, Nat.reduceMul, Nat.reduceLT, Nat.reduceLeDiff, reduceCtorEq, decide_true, decide_false, Int.reduceLE, Int.reduceLT, Int.reduceToNat, Int.reduceAdd, Int.reduceSub, Int.reduceMul, Int.reduceEq]
    refine Ended.back hA hx ?_ (RB.string _)
    rw [nv_be hw]
end
end Go.Proofs.YtpaffoiiipgkeaaDoor.Ab
