/- Numbers: trim, short, fromShort, words, text, Of. -/
import Derived.Test.YtpaffoiiipgkeaaDoorNb
import Derived.Test.YtpaffoiiipgkeaaDoorTy
import Derived.Test.YtpaffoiiipgkeaaDoorAb21
namespace Go.Proofs.YtpaffoiiipgkeaaDoor.Ab
open Go.RowKit
set_option linter.unusedVariables false
set_option linter.unusedSimpArgs false
set_option maxRecDepth 100000

/-- A row of bytes. -/
def bl (l : List UInt8) : List Value := l.map fun b => .int .u8 (b.toNat : Nat)
theorem bl_length (l : List UInt8) : (bl l).length = l.length := by simp [bl]
theorem bl_get {l : List UInt8} {j : Nat} (h : j < l.length) : (bl l)[j]? = some (.int .u8 (l[j].toNat : Nat)) := by simp [bl, h]
theorem bl_set {l : List UInt8} {j : Nat} {b : UInt8} : (bl l).set j (.int .u8 (b.toNat : Nat)) = bl (l.set j b) := by simp [bl, List.map_set]
theorem bl_zeros (k : Nat) : List.replicate k (Value.int .u8 0) = bl (List.replicate k 0) := by simp [bl]
/-- The first bytes of a short number. -/
def fs (n j : Nat) : List UInt8 := (List.range j).map fun i => UInt8.ofNat (n / 256 ^ (7 - i) % 256)
theorem fs_length (n j : Nat) : (fs n j).length = j := by simp [fs]
theorem fs_succ (n j : Nat) : fs n (j + 1) = fs n j ++ [UInt8.ofNat (n / 256 ^ (7 - j) % 256)] := by simp [fs, List.range_succ]
theorem nv_fs {n : Nat} (h : n < 18446744073709551616) : ∀ j, j ≤ 8 → nv (fs n j) = n / 256 ^ (8 - j)
  | 0, _ => by simp [fs, nv_nil, Nat.div_eq_of_lt h]
  | j + 1, hj => by
    rw [fs_succ, nv_snoc, nv_fs h j (by omega), ofNat_toNat8 (Nat.mod_lt _ (by omega)), show 8 - j = (7 - j) + 1 by omega, Nat.pow_succ, ← Nat.div_div_eq_div_mul, show 8 - (j + 1) = 7 - j by omega]
    omega
theorem set_snoc {α : Type} {r : List α} {x y : α} {s : List α} {j : Nat} (h : r.length = j) : (r ++ x :: s).set j y = r ++ [y] ++ s := by
  subst h; simp [List.set_append_right]

section
variable {G : Gl} {fl : Nat} {A : Hp}

theorem trim_ok (l : List UInt8) : Sound Tryd.prog G 49 [.string (S l)] fl A (.string (S (nb (nv l)))) A := by
  refine Sound.of mixed Tryd.func49 Tryd.ntmps49 Tryd.results49 (by kernel_rfl) rfl (by kernel_rfl) (by simp) fun hA => ?_
  simp only [↓R1, R2, R3, R4, TY, reduceIte, Nat.reduceEqDiff, Nat.reduceAdd, Nat.reduceMul, Nat.reduceLT, Nat.reduceLeDiff, reduceCtorEq, decide_true, decide_false, Int.reduceLE, Int.reduceLT, Int.reduceToNat, Int.reduceAdd, Int.reduceSub, Int.reduceMul, Int.reduceEq]
  refine loop_of (fun τ B => B = A ∧ ∃ m, τ 0 = some (.string (S m)) ∧ nv m = nv l) (fun τ A => match τ 0 with | some (.string s) => s.size | _ => 0) ⟨rfl, l, rfl, rfl⟩ ?_
  rintro τ B ⟨rfl, m, q0, hm⟩
  have hend : (∀ b k, m = b :: k → b ≠ 0) → Ended B (.string (S m)) B (.string (S (nb (nv l)))) B := fun h => Ended.back hA (Xt.refl _) (by rw [← hm, nb_nv m h]) (RB.string _)
  cases m with
  | nil =>
    simp only [↓R1, R2, R3, R4, TY, reduceIte, Nat.reduceEqDiff, Nat.reduceAdd, Nat.reduceMul, Nat.reduceLT, Nat.reduceLeDiff, reduceCtorEq, decide_true, decide_false, Int.reduceLE, Int.reduceLT, Int.reduceToNat, Int.reduceAdd, Int.reduceSub, Int.reduceMul, Int.reduceEq, q0, S_size, List.length_nil, Int.ofNat_zero, Int.lt_irrefl]
    exact hend (by simp)
  | cons b k =>
    have h0 : byteAt (S (b :: k)) 0 = ((b.toNat : Nat) : Int) := rfl
    have h1 : (0 : Int) < ((k.length + 1 : Nat) : Int) := by omega
    simp only [↓R1, R2, R3, R4, TY, reduceIte, Nat.reduceEqDiff, Nat.reduceAdd, Nat.reduceMul, Nat.reduceLT, Nat.reduceLeDiff, reduceCtorEq, decide_true, decide_false, Int.reduceLE, Int.reduceLT, Int.reduceToNat, Int.reduceAdd, Int.reduceSub, Int.reduceMul, Int.reduceEq, q0, S_size, h0, h1, S_extract]
    refine ⟨fun hz => ?_, fun hz => hend fun b' k' e => ?_⟩
    · have hb : b = 0 := UInt8.toNat_inj.1 (by simp; omega)
      refine loop_on ⟨rfl, k, ?_, by rw [← hm, hb, nv_zero_cons]⟩ ?_
      · simp [upd]
      · simp [q0, upd, ByteArray.size]
    · cases e; intro h; apply hz; rw [h]; rfl

theorem short_ok {l : List UInt8} (hl : l.length ≤ 8) : Sound Tryd.prog G 53 [.string (S l)] fl A (.int .u64 (nv l : Nat)) A := by
  refine Sound.of mixed Tryd.func53 Tryd.ntmps53 Tryd.results53 (by kernel_rfl) rfl (by kernel_rfl) (by simp) fun hA => ?_
  simp only [↓R1, R2, R3, R4, TY, reduceIte, Nat.reduceEqDiff, Nat.reduceAdd, Nat.reduceMul, Nat.reduceLT, Nat.reduceLeDiff, reduceCtorEq, decide_true, decide_false, Int.reduceLE, Int.reduceLT, Int.reduceToNat, Int.reduceAdd, Int.reduceSub, Int.reduceMul, Int.reduceEq, S_size]
  refine range_of 7 l.length (fun j τ B => B = A ∧ τ 0 = some (.string (S l)) ∧ τ 3 = some (.int .u64 (nv (l.take j) : Nat)) ∧ τ 6 = some (.int .i64 l.length) ∧ τ 7 = some (.int .i64 j)) ?_ ?_
  · exact ⟨rfl, rfl, rfl, rfl, rfl⟩
  rintro j τ B hj ⟨rfl, q0, q3, q6, q7⟩
  simp only [↓R1, R2, R3, R4, TY, reduceIte, Nat.reduceEqDiff, Nat.reduceAdd, Nat.reduceMul, Nat.reduceLT, Nat.reduceLeDiff, reduceCtorEq, decide_true, decide_false, Int.reduceLE, Int.reduceLT, Int.reduceToNat, Int.reduceAdd, Int.reduceSub, Int.reduceMul, Int.reduceEq, q0, q3, q6, q7]
  refine ⟨fun hlt => ?_, fun hlt => ?_⟩
  rotate_left
  · refine Ended.back hA (Xt.refl _) ?_ (RB.int _ _)
    rw [List.take_of_length_le (by omega)]
  have hb := S_at hlt
  have hj63 : j < 9223372036854775807 := by omega
  have hn := nv_lt (l.take j)
  have hb8 := l[j].toNat_lt
  have hlen : (l.take j).length ≤ 7 := by rw [List.length_take]; omega
  have hn56 : nv (l.take j) < 72057594037927936 := Nat.lt_of_lt_of_le hn (Nat.pow_le_pow_right (n := 256) (by omega) hlen)
  simp only [↓R1, R2, R3, R4, TY, reduceIte, Nat.reduceEqDiff, Nat.reduceAdd, Nat.reduceMul, Nat.reduceLT, Nat.reduceLeDiff, reduceCtorEq, decide_true, decide_false, Int.reduceLE, Int.reduceLT, Int.reduceToNat, Int.reduceAdd, Int.reduceSub, Int.reduceMul, Int.reduceEq, q0, q3, q6, q7, S_size, hlt, hb, hj63, UN]
  refine range_on q7 hlt rfl ⟨rfl, q0, ?_, q6, rfl⟩
  simp only [upd, if_true, if_false, Nat.reduceEqDiff, reduceIte]
  rw [nv_take hlt, Nat.mod_eq_of_lt (a := nv (l.take j) * 2 ^ 8) (by omega), Nat.mod_eq_of_lt (a := l[j].toNat) (by omega), Nat.mod_eq_of_lt (a := nv (l.take j) * 2 ^ 8) (by omega), Nat.mod_eq_of_lt (a := l[j].toNat) (by omega), or_add (by omega), Nat.mod_eq_of_lt (by omega)]

theorem cnv_of {P : Program} {e : TypeId} {E : Ty} {D : Ty} {s1 b1 e1 : Nat} {z1 : List Value} {a1 : Bool} {a : Addr} {n c : Nat} {f : Value × Hp → Prop} (l : List UInt8) (hE : tyOf P e = some E) (hd : E.d = .int .u8) (hD : D.d = .str) (ha : a.spot ≠ none) (hl : l.length = n)
    (hget : ∀ j (u : UInt8), l[j]? = some u → A.get G (aadd a j) = some (.int .u8 (u.toNat : Int))) (k : f (.string (S l), A)) : @cnv P G ⟨.sl e, s1, b1, z1, a1, e1⟩ D (.slice (some a) n c) A ⟨f⟩ := by
  unfold cnv
  refine .inr (.inr (.inr ⟨e, E, rfl, hD, hE, hd, .inr ⟨a, n, c, l, rfl, ha, hl, hget, k⟩⟩))

theorem fromShort_ok {n : Nat} (hn : n < 18446744073709551616) : Sound Tryd.prog G 52 [.int .u64 (n : Nat)] fl A (.string (S (nb n))) A := by
  refine Sound.of mixed Tryd.func52 Tryd.ntmps52 Tryd.results52 (by kernel_rfl) rfl (by kernel_rfl) (by simp) fun hA => ?_
  simp only [↓R1, R2, R3, R4, TY, reduceIte, Nat.reduceEqDiff, Nat.reduceAdd, Nat.reduceMul, Nat.reduceLT, Nat.reduceLeDiff, reduceCtorEq, decide_true, decide_false, Int.reduceLE, Int.reduceLT, Int.reduceToNat, Int.reduceAdd, Int.reduceSub, Int.reduceMul, Int.reduceEq]
  refine range_of 5 8 (fun j τ B => Xt A.next A B ∧ B.next = A.next + 1 ∧ B.blk A.next = some (.row (bl (fs n j ++ List.replicate (8 - j) 0)) 0 1) ∧ τ 0 = some (.int .u64 (n : Nat)) ∧ τ 3 = some (.pointer (some ⟨A.next, 0, some 0⟩)) ∧ τ 5 = some (.int .i64 j)) ?_ ?_
  · exact ⟨(Xt.refl A).push _, rfl, by simp [Hp.push_blk, fs, bl], rfl, rfl, rfl⟩
  rintro j τ B hj ⟨hx, hn1, hb, q0, q3, q5⟩
  have hc : ((j : Int) < 8) = (j < 8) := propext (by omega)
  simp only [↓R1, R2, R3, R4, TY, reduceIte, Nat.reduceEqDiff, Nat.reduceAdd, Nat.reduceMul, Nat.reduceLT, Nat.reduceLeDiff, reduceCtorEq, decide_true, decide_false, Int.reduceLE, Int.reduceLT, Int.reduceToNat, Int.reduceAdd, Int.reduceSub, Int.reduceMul, Int.reduceEq, q0, q3, q5, hc]
  refine ⟨fun hlt => ?_, fun hlt => ?_⟩
  · have hfl : fl ≤ A.next := hA.floor
    have w1 : IntKind.i64.wrap (8 * (j : Int)) = ((8 * j : Nat) : Int) := by rw [wrapI (by omega)]; omega
    have w2 : IntKind.i64.wrap (56 - ((8 * j : Nat) : Int)) = ((56 - 8 * j : Nat) : Int) := by rw [wrapI (by omega)]; omega
    have w3 : min (56 - 8 * j) 64 = 56 - 8 * j := by omega
    have hj63 : j < 9223372036854775807 := by omega
    have hlen : (bl (fs n j ++ List.replicate (8 - j) 0)).length = 8 := by rw [bl_length, List.length_append, fs_length, List.length_replicate]; omega
    have hj8 : j + 1 ≤ 8 := by omega
    simp only [↓R1, R2, R3, R4, TY, reduceIte, Nat.reduceEqDiff, Nat.reduceAdd, Nat.reduceMul, Nat.reduceLT, Nat.reduceLeDiff, reduceCtorEq, decide_true, decide_false, Int.reduceLE, Int.reduceLT, Int.reduceToNat, Int.reduceAdd, Int.reduceSub, Int.reduceMul, Int.reduceEq, q0, q3, q5, hlt, hc, hfl, hb, w1, w2, w3, hj63, hlen, hj8, UN]
    refine range_on q5 hlt rfl ⟨by simp (maxDischargeDepth := 20) only [xt_put, hx, Nat.le_refl], hn1, ?_, q0, q3, rfl⟩
    simp only [Hp.put_blk, if_true]
    have e1 : n / 2 ^ (56 - 8 * j) = n / 256 ^ (7 - j) := by
      rw [show 56 - 8 * j = 8 * (7 - j) by omega, Nat.pow_mul]
    have e2 : Value.int .u8 ((n / 256 ^ (7 - j) % 256 : Nat) : Int) = .int .u8 (((UInt8.ofNat (n / 256 ^ (7 - j) % 256)).toNat : Nat) : Int) := by rw [ofNat_toNat8 (Nat.mod_lt _ (by omega))]
    rw [e1, e2, bl_set, show 8 - j = (8 - (j + 1)) + 1 by omega, List.replicate_succ, set_snoc (fs_length n j), fs_succ]
  · obtain rfl : j = 8 := by omega
    have hb' : B.blk A.next = some (.row (bl (fs n 8)) 0 1) := by simpa using hb
    have hlen : (bl (fs n 8)).length = 8 := by rw [bl_length, fs_length]
    simp only [↓R1, R2, R3, R4, TY, reduceIte, Nat.reduceEqDiff, Nat.reduceAdd, Nat.reduceMul, Nat.reduceLT, Nat.reduceLeDiff, reduceCtorEq, decide_true, decide_false, Int.reduceLE, Int.reduceLT, Int.reduceToNat, Int.reduceAdd, Int.reduceSub, Int.reduceMul, Int.reduceEq, q0, q3, q5, hc, hb', hlen]
    refine cnv_of (fs n 8) ty5 rfl rfl (by simp) (fs_length n 8) (fun j u hj => ?_) ?_
    · simp only [Hp.get, aadd, hb', Nat.zero_add, if_true]
      simp [bl, hj]
    simp only [↓R1, R2, R3, R4, TY, reduceIte, Nat.reduceEqDiff, Nat.reduceAdd, Nat.reduceMul, Nat.reduceLT, Nat.reduceLeDiff, reduceCtorEq, decide_true, decide_false, Int.reduceLE, Int.reduceLT, Int.reduceToNat, Int.reduceAdd, Int.reduceSub, Int.reduceMul, Int.reduceEq, q0, q3, q5]
    refine call_of (trim_ok _) ?_
    simp only [↓R1, R2, R3, R4, TY, reduceIte, Nat.reduceEqDiff, Nat.reduceAdd, Nat.reduceMul, Nat.reduceLT, Nat.reduceLeDiff, reduceCtorEq, decide_true, decide_false, Int.reduceLE, Int.reduceLT, Int.reduceToNat, Int.reduceAdd, Int.reduceSub, Int.reduceMul, Int.reduceEq, q0, q3, q5]
    refine Ended.back hA hx ?_ (RB.string _)
    rw [nv_fs hn 8 (by omega)]; simp
end
end Go.Proofs.YtpaffoiiipgkeaaDoor.Ab
