/- Words: strings.Trim with a set of bytes. -/
import Derived.Test.YtjgkodhadgfbmaaDoorDa
import Derived.Test.YtjgkodhadgfbmaaDoorSh
namespace Go.Proofs.YtjgkodhadgfbmaaDoor.Ab
open Go.RowKit
set_option linter.unusedVariables false
set_option linter.unusedSimpArgs false
set_option maxRecDepth 100000

/-- A contract of the kit's, of strings and numbers, that yields a value without places. -/
theorem Sound.of_plain {P : Program} {G : Gl} {f : FuncId} {args : List Value} {fl : Nat} {A : Hp} {v : Value} (hs : ∀ u ∈ args, ∀ (μ : Mu) (A : Hp) (u' : Value), VR μ A u u' → u' = u) (hv : ∀ (μ : Mu) (A : Hp), VR μ A v v)
    (h : ∀ w, CallsV P f args.toArray w fun v' w' => v' = v ∧ Below w.heap.size w w') : Sound P G f args fl A v A := by
  intro μ w args' H hfl hargs
  have : args' = args.toArray := by
    apply Array.ext'
    apply List.ext_getElem?
    intro i
    have hsz := hargs.1
    simp only [List.size_toArray] at hsz
    by_cases hi : i < args.length
    · have h1 := hargs.2 i (by simpa using hi) (by omega)
      have h2 := hs _ (List.getElem_mem hi) _ _ _ (by simpa using h1)
      rw [Array.getElem?_toList, Array.getElem?_eq_getElem (show i < args'.size by omega), h2]
      simp [hi]
    · rw [List.getElem?_eq_none (by simp; omega), List.getElem?_eq_none (by simp; omega)]
  subst this
  rcases h w with ⟨hfn, hc⟩ | ⟨v', w', hr, rfl, hb⟩
  · refine .inl ⟨hfn, hc.mono fun e w' he => ?_⟩
    obtain ⟨u, rfl, rfl, hb⟩ := he
    obtain ⟨h1, h2⟩ := H.of_below hfl hb
    exact ⟨_, rfl, μ, hv _ _, h1, h2⟩
  · obtain ⟨h1, h2⟩ := H.of_below hfl hb
    exact .inr ⟨_, w', hr, μ, hv _ _, h1, h2⟩

/-- The set of bytes as cells. -/
def setC (cs : List UInt8) : List Value := (Lib.setCells cs).toList
theorem setC_len (cs : List UInt8) : (setC cs).length = 256 := by rw [setC, Array.length_toList, Lib.setCells_size]
theorem setC_at (cs : List UInt8) (b : UInt8) : (setC cs)[b.toNat]? = some (.bool (cs.contains b)) := by rw [setC, Array.getElem?_toList, Lib.setCells_at]
theorem setC_zc (cs : List UInt8) : ∀ v ∈ setC cs, ∃ b, v = .bool b := by
  intro v hv
  rw [setC, Lib.setCells_eq] at hv
  simp only [Array.toList_map, List.mem_map] at hv
  obtain ⟨j, _, rfl⟩ := hv
  exact ⟨_, rfl⟩
theorem setC_one (cs : List UInt8) : (setC cs).all Value.oneCell' = true := by
  rw [List.all_eq_true]
  intro v hv
  obtain ⟨b, rfl⟩ := setC_zc cs v hv
  rfl
theorem wr_at : ∀ (vs cs : List Value) (o : Nat), o + vs.length ≤ cs.length → wr cs o vs = cs.take o ++ vs ++ cs.drop (o + vs.length)
  | [], cs, o, h => by simp [wr]
  | v :: vs, cs, o, h => by
    simp only [List.length_cons] at h
    rw [wr, wr_at vs _ _ (by simp; omega)]
    have h1 : (cs.set o v).take (o + 1) = cs.take o ++ [v] := by
      rw [List.take_succ_eq_append_getElem (by simp; omega), List.take_set_of_le (Nat.le_refl _)]; simp
    rw [h1, List.drop_set_of_lt (by omega)]
    simp only [List.append_assoc, List.singleton_append, List.length_cons, List.cons_append, List.nil_append]
    rw [show o + 1 + vs.length = o + (vs.length + 1) by omega]
theorem wr_all {vs cs : List Value} (h : vs.length = cs.length) : wr cs 0 vs = vs := by
  rw [wr_at vs cs 0 (by omega)]; simp [h]
theorem str_same {l : List UInt8} {μ : Mu} {A : Hp} {u' : Value} (h : VR μ A (.string (S l)) u') : u' = .string (S l) := by cases h; rfl
section
variable {G : Gl} {fl : Nat} {A : Hp}
theorem makeSet_ok (cs : List UInt8) (hl : cs.length < 4294967281) (ha : ∀ b ∈ cs, b.toNat < 128) : Sound Tryd.prog G 32 [.string (S cs)] fl A (.tuple [Value.agg (setC cs).toArray, .bool true].toArray) A := by
  have hz : ∀ w, (zeroValue 52).run Tryd.prog w = .ok (.agg (Array.replicate 256 (.bool false))) w := fun w => by
    rw [Tryd.zeroValue52 w, show Tryd.zeroCells52 = Array.replicate 256 (Value.bool false) from by kernel_rfl]
  refine Sound.of_plain (fun u hu => ?_) (fun μ A => ?_) fun w => ?_
  · simp only [List.mem_cons, List.not_mem_nil, or_false] at hu
    subst hu
    intro μ A u' h
    exact str_same h
  · refine .tuple rfl fun i hi hi' => ?_
    match i with
    | 0 =>
      refine .agg rfl fun j hj hj' => ?_
      obtain ⟨b, hb⟩ := setC_zc cs _ (List.getElem_mem (by simpa using hj))
      simp only [List.getElem_toArray, hb]
      exact .bool b
    | 1 => exact .bool _
    | i + 2 => simp at hi; omega
  · have := Tryd.strings_makeASCIISet hz (S cs) w (by rw [S_size]; exact hl) (fun j b h => ha b (List.mem_of_getElem? h))
    refine .inl ⟨⟨_, Tryd.func32, by kernel_rfl, by kernel_rfl⟩, this.mono fun e w' h => ⟨_, h.1, ?_, ?_⟩⟩
    · simp [setC]
    · rw [h.2]; exact (Below.refl _ _).alloc (Nat.le_refl _) _
theorem setHas_ok {cs : List UInt8} {id e : Nat} (hb : A.blk id = some (.row (setC cs) 0 e)) (hid : id < A.next) (b : UInt8) : Sound Tryd.prog G 48 [.pointer (some ⟨id, 0, some 0⟩), .int .u8 ((b.toNat : Nat) : Int)] fl A (.bool (cs.contains b)) A := by
  refine Sound.of mixed Tryd.func48 Tryd.ntmps48 Tryd.results48 (by kernel_rfl) rfl (by kernel_rfl) (by kernel_rfl) fun hA => ?_
  have hg : A.get G ⟨id, b.toNat, some 0⟩ = some (.bool (cs.contains b)) := by rw [get_blk hb, setC_at]
  have h256 : b.toNat < 256 := b.toNat_lt
  have h0 : (0 : Int) ≤ ((b.toNat : Nat) : Int) := by omega
  simp only [↓R1, R2, R3, R4, TY, reduceIte, Nat.reduceEqDiff, Nat.reduceAdd, Nat.reduceMul, Nat.reduceLT, Nat.reduceLeDiff, reduceCtorEq, decide_true, decide_false, Int.reduceLE, Int.reduceLT, Int.reduceToNat, Int.reduceAdd, Int.reduceSub, Int.reduceMul, Int.reduceEq, FE, hg, h256, h0, hid]
  exact Ended.back hA (Xt.refl A) rfl (RB.bool _)
theorem trimLeftSet_ok {cs : List UInt8} {id e : Nat} (hb : A.blk id = some (.row (setC cs) 0 e)) (hid : id < A.next) (l : List UInt8) (hl : l.length < 9223372036854775807) :
    Sound Tryd.prog G 33 [.string (S l), .pointer (some ⟨id, 0, some 0⟩)] fl A (.string (S (l.dropWhile cs.contains))) A := by
  refine Sound.of mixed Tryd.func33 Tryd.ntmps33 Tryd.results33 (by kernel_rfl) rfl (by kernel_rfl) (by kernel_rfl) fun hA => ?_
  simp only [↓R1, R2, R3, R4, TY, reduceIte, Nat.reduceEqDiff, Nat.reduceAdd, Nat.reduceMul, Nat.reduceLT, Nat.reduceLeDiff, reduceCtorEq, decide_true, decide_false, Int.reduceLE, Int.reduceLT, Int.reduceToNat, Int.reduceAdd, Int.reduceSub, Int.reduceMul, Int.reduceEq, FE, S_size]
  refine loop_of (fun τ B => B = A ∧ ∃ m, τ 0 = some (.string (S m)) ∧ m.dropWhile cs.contains = l.dropWhile cs.contains ∧ m.length ≤ l.length ∧ τ 1 = some (.pointer (some ⟨id, 0, some 0⟩))) (fun τ A => match τ 0 with | some (.string s) => s.size | _ => 0) ⟨rfl, l, rfl, rfl, Nat.le_refl _, rfl⟩ ?_
  rintro τ B ⟨rfl, m, q0, hm, hml, q1⟩
  have hend : ∀ x : List UInt8, x = l.dropWhile cs.contains → Ended B (.string (S x)) B (.string (S (l.dropWhile cs.contains))) B := fun x h => Ended.back hA (Xt.refl _) (by rw [h]) (RB.string _)
  cases m with
  | nil =>
    simp only [↓R1, R2, R3, R4, TY, reduceIte, Nat.reduceEqDiff, Nat.reduceAdd, Nat.reduceMul, Nat.reduceLT, Nat.reduceLeDiff, reduceCtorEq, decide_true, decide_false, Int.reduceLE, Int.reduceLT, Int.reduceToNat, Int.reduceAdd, Int.reduceSub, Int.reduceMul, Int.reduceEq, FE, S_size, q0, q1, List.length_nil]
    exact hend [] hm
  | cons b k =>
    have h0 : byteAt (S (b :: k)) 0 = ((b.toNat : Nat) : Int) := rfl
    have h1 : (0 : Int) < ((k.length + 1 : Nat) : Int) := by omega
    have h2 : 0 < k.length + 1 := by omega
    have h3 : ((b :: k).drop 1).take (k.length + 1 - 1) = k := by simp
    cases hc : cs.contains b
    · simp only [↓R1, R2, R3, R4, TY, reduceIte, Nat.reduceEqDiff, Nat.reduceAdd, Nat.reduceMul, Nat.reduceLT, Nat.reduceLeDiff, reduceCtorEq, decide_true, decide_false, Int.reduceLE, Int.reduceLT, Int.reduceToNat, Int.reduceAdd, Int.reduceSub, Int.reduceMul, Int.reduceEq, FE, S_size, q0, q1, List.length_cons, h0, h1, h2, hc, k_block_exit, Nat.reduceBEq]
      refine call_of (setHas_ok hb hid _) ?_
      simp only [↓R1, R2, R3, R4, TY, reduceIte, Nat.reduceEqDiff, Nat.reduceAdd, Nat.reduceMul, Nat.reduceLT, Nat.reduceLeDiff, reduceCtorEq, decide_true, decide_false, Int.reduceLE, Int.reduceLT, Int.reduceToNat, Int.reduceAdd, Int.reduceSub, Int.reduceMul, Int.reduceEq, FE, S_size, q0, q1, List.length_cons, h0, h1, h2, hc, k_block_exit, Nat.reduceBEq]
      exact hend _ (by rw [← hm, List.dropWhile_cons, if_neg (by simp only [hc]; decide)])
    · simp only [↓R1, R2, R3, R4, TY, reduceIte, Nat.reduceEqDiff, Nat.reduceAdd, Nat.reduceMul, Nat.reduceLT, Nat.reduceLeDiff, reduceCtorEq, decide_true, decide_false, Int.reduceLE, Int.reduceLT, Int.reduceToNat, Int.reduceAdd, Int.reduceSub, Int.reduceMul, Int.reduceEq, FE, S_size, q0, q1, List.length_cons, h0, h1, h2, hc, S_extract, h3]
      refine call_of (setHas_ok hb hid _) ?_
      simp only [↓R1, R2, R3, R4, TY, reduceIte, Nat.reduceEqDiff, Nat.reduceAdd, Nat.reduceMul, Nat.reduceLT, Nat.reduceLeDiff, reduceCtorEq, decide_true, decide_false, Int.reduceLE, Int.reduceLT, Int.reduceToNat, Int.reduceAdd, Int.reduceSub, Int.reduceMul, Int.reduceEq, FE, S_size, q0, q1, List.length_cons, h0, h1, h2, hc, S_extract, h3]
      refine loop_on ⟨rfl, k, rfl, ?_, ?_, q1⟩ ?_
      · rw [← hm, List.dropWhile_cons, if_pos hc]
      · simp only [List.length_cons] at hml; omega
      · simp [q0, upd, ByteArray.size]
/-- A list without the bytes of a class at its end. -/
def rtr (p : UInt8 → Bool) (l : List UInt8) : List UInt8 := (l.reverse.dropWhile p).reverse
theorem rtr_snoc {p : UInt8 → Bool} {k : List UInt8} {b : UInt8} : rtr p (k ++ [b]) = if p b then rtr p k else k ++ [b] := by
  unfold rtr
  rw [List.reverse_append, List.reverse_singleton, List.singleton_append, List.dropWhile_cons]
  split
  · rfl
  · simp
theorem trimRightSet_ok {cs : List UInt8} {id e : Nat} (hb : A.blk id = some (.row (setC cs) 0 e)) (hid : id < A.next) (l : List UInt8) (hl : l.length < 9223372036854775807) :
    Sound Tryd.prog G 34 [.string (S l), .pointer (some ⟨id, 0, some 0⟩)] fl A (.string (S (rtr cs.contains l))) A := by
  refine Sound.of mixed Tryd.func34 Tryd.ntmps34 Tryd.results34 (by kernel_rfl) rfl (by kernel_rfl) (by kernel_rfl) fun hA => ?_
  simp only [↓R1, R2, R3, R4, TY, reduceIte, Nat.reduceEqDiff, Nat.reduceAdd, Nat.reduceMul, Nat.reduceLT, Nat.reduceLeDiff, reduceCtorEq, decide_true, decide_false, Int.reduceLE, Int.reduceLT, Int.reduceToNat, Int.reduceAdd, Int.reduceSub, Int.reduceMul, Int.reduceEq, FE, S_size]
  refine loop_of (fun τ B => B = A ∧ ∃ m, τ 0 = some (.string (S m)) ∧ rtr cs.contains m = rtr cs.contains l ∧ m.length ≤ l.length ∧ τ 1 = some (.pointer (some ⟨id, 0, some 0⟩))) (fun τ A => match τ 0 with | some (.string s) => s.size | _ => 0) ⟨rfl, l, rfl, rfl, Nat.le_refl _, rfl⟩ ?_
  rintro τ B ⟨rfl, m, q0, hm, hml, q1⟩
  have hend : ∀ x : List UInt8, x = rtr cs.contains l → Ended B (.string (S x)) B (.string (S (rtr cs.contains l))) B := fun x h => Ended.back hA (Xt.refl _) (by rw [h]) (RB.string _)
  rcases List.eq_nil_or_concat m with rfl | ⟨k, b, rfl⟩
  · simp only [↓R1, R2, R3, R4, TY, reduceIte, Nat.reduceEqDiff, Nat.reduceAdd, Nat.reduceMul, Nat.reduceLT, Nat.reduceLeDiff, reduceCtorEq, decide_true, decide_false, Int.reduceLE, Int.reduceLT, Int.reduceToNat, Int.reduceAdd, Int.reduceSub, Int.reduceMul, Int.reduceEq, FE, S_size, q0, q1, List.length_nil]
    exact hend [] hm
  · rw [List.concat_eq_append] at *
    have hlen : (k ++ [b]).length = k.length + 1 := by simp
    have h0 : byteAt (S (k ++ [b])) (k.length : Int) = ((b.toNat : Nat) : Int) := by
      rw [S_at (by simp)]; simp
    have h1 : (0 : Int) < ((k.length + 1 : Nat) : Int) := by omega
    have h2 : k.length < k.length + 1 := by omega
    have w1 : IntKind.i64.wrap (((k.length + 1 : Nat) : Int) - 1) = (k.length : Int) := by rw [wrapI (by rw [hlen] at hml; omega)]; omega
    have h3 : (k ++ [b]).take k.length = k := by simp
    have h4 : k.length ≤ k.length + 1 := by omega
    cases hc : cs.contains b
    · simp only [↓R1, R2, R3, R4, TY, reduceIte, Nat.reduceEqDiff, Nat.reduceAdd, Nat.reduceMul, Nat.reduceLT, Nat.reduceLeDiff, reduceCtorEq, decide_true, decide_false, Int.reduceLE, Int.reduceLT, Int.reduceToNat, Int.reduceAdd, Int.reduceSub, Int.reduceMul, Int.reduceEq, FE, S_size, q0, q1, hlen, h0, h1, h2, w1, hc, k_block_exit, Nat.reduceBEq]
      refine call_of (setHas_ok hb hid _) ?_
      simp only [↓R1, R2, R3, R4, TY, reduceIte, Nat.reduceEqDiff, Nat.reduceAdd, Nat.reduceMul, Nat.reduceLT, Nat.reduceLeDiff, reduceCtorEq, decide_true, decide_false, Int.reduceLE, Int.reduceLT, Int.reduceToNat, Int.reduceAdd, Int.reduceSub, Int.reduceMul, Int.reduceEq, FE, S_size, q0, q1, hlen, h0, h1, h2, w1, hc, k_block_exit, Nat.reduceBEq]
      exact hend _ (by rw [← hm, rtr_snoc, if_neg (by simp only [hc]; decide)])
    · simp only [↓R1, R2, R3, R4, TY, reduceIte, Nat.reduceEqDiff, Nat.reduceAdd, Nat.reduceMul, Nat.reduceLT, Nat.reduceLeDiff, reduceCtorEq, decide_true, decide_false, Int.reduceLE, Int.reduceLT, Int.reduceToNat, Int.reduceAdd, Int.reduceSub, Int.reduceMul, Int.reduceEq, FE, S_size, q0, q1, hlen, h0, h1, h2, w1, hc, S_extract, h3, h4, List.drop_zero, Nat.sub_zero]
      refine call_of (setHas_ok hb hid _) ?_
      simp only [↓R1, R2, R3, R4, TY, reduceIte, Nat.reduceEqDiff, Nat.reduceAdd, Nat.reduceMul, Nat.reduceLT, Nat.reduceLeDiff, reduceCtorEq, decide_true, decide_false, Int.reduceLE, Int.reduceLT, Int.reduceToNat, Int.reduceAdd, Int.reduceSub, Int.reduceMul, Int.reduceEq, FE, S_size, q0, q1, hlen, h0, h1, h2, w1, hc, S_extract, h3, h4, List.drop_zero, Nat.sub_zero]
      refine loop_on ⟨rfl, k, rfl, ?_, ?_, q1⟩ ?_
      · rw [← hm, rtr_snoc, if_pos hc]
      · rw [hlen] at hml; omega
      · simp [q0, upd, ByteArray.size]
theorem rtr_le (p : UInt8 → Bool) (l : List UInt8) : (rtr p l).length ≤ l.length := by
  unfold rtr
  rw [List.length_reverse]
  have := (List.dropWhile_sublist p (l := l.reverse)).length_le
  simpa using this
theorem dw_nil {p : UInt8 → Bool} {l : List UInt8} : l.dropWhile p = [] ↔ l.all p = true := by
  induction l with
  | nil => simp
  | cons b l ih =>
    rw [List.dropWhile_cons, List.all_cons]
    cases p b <;> simp [ih]
theorem dw_all {p : UInt8 → Bool} {l : List UInt8} (h : (l.dropWhile p).all p = true) : l.all p = true := by
  induction l with
  | nil => simp
  | cons b l ih =>
    rw [List.dropWhile_cons] at h
    rw [List.all_cons]
    cases hb : p b
    · rw [hb] at h; simp [hb] at h
    · rw [hb] at h; simp only [if_true] at h; rw [ih h]; rfl
theorem trim_nil {p : UInt8 → Bool} {l : List UInt8} : ((rtr p l).dropWhile p = []) ↔ l.all p = true := by
  rw [dw_nil]
  unfold rtr
  rw [List.all_reverse]
  constructor
  · intro h
    rw [← List.all_reverse]
    exact dw_all h
  · intro h
    rw [dw_nil.2 (by rw [List.all_reverse]; exact h)]; rfl
theorem trimSet_ok {cs : List UInt8} (hl2 : 2 ≤ cs.length) (hcl : cs.length ≤ 128) (ha : ∀ b ∈ cs, b.toNat < 128) (l : List UInt8) (hl : l.length < 9223372036854775807) :
    Sound Tryd.prog G 19 [.string (S l), .string (S cs)] fl A (.string (S ((rtr cs.contains l).dropWhile cs.contains))) A := by
  refine Sound.of mixed Tryd.func19 Tryd.ntmps19 Tryd.results19 (by kernel_rfl) rfl (by kernel_rfl) (by kernel_rfl) fun hA => ?_
  have e1 : (S cs = S []) = False := eq_false (by rw [S_inj]; intro h; rw [h] at hl2; simp at hl2)
  have e2 : ((cs.length : Int) = 1) = False := eq_false (by omega)
  simp only [↓R1, R2, R3, R4, TY, reduceIte, Nat.reduceEqDiff, Nat.reduceAdd, Nat.reduceMul, Nat.reduceLT, Nat.reduceLeDiff, reduceCtorEq, decide_true, decide_false, Int.reduceLE, Int.reduceLT, Int.reduceToNat, Int.reduceAdd, Int.reduceSub, Int.reduceMul, Int.reduceEq, FE, S_size, e1, e2]
  have ms := makeSet_ok (G := G) (fl := fl) (A := A) cs (by omega) ha
  by_cases hn : l = []
  · subst hn
    refine ⟨fun _ => Ended.back hA (Xt.refl _) rfl (RB.string _), fun h => absurd rfl h⟩
  refine ⟨fun h => absurd ((S_inj (b := [])) ▸ h) hn, fun _ => ?_⟩
  refine call_of ms ?_
  have hzz : (List.replicate 256 (Value.bool false)).all zc = true := by decide +kernel
  have hone := setC_one cs
  have hwr : wr (List.replicate 256 (Value.bool false)) 0 (setC cs) = setC cs := wr_all (by rw [setC_len, List.length_replicate])
  have hfl : fl ≤ A.next := hA.floor
  simp only [↓R1x, R2, R3, R4, TY, reduceIte, Nat.reduceEqDiff, Nat.reduceAdd, Nat.reduceMul, Nat.reduceLT, Nat.reduceLeDiff, reduceCtorEq, decide_true, decide_false, Int.reduceLE, Int.reduceLT, Int.reduceToNat, Int.reduceAdd, Int.reduceSub, Int.reduceMul, Int.reduceEq, FE, S_size, hfl, hzz, hone, hwr, setC_len, List.length_replicate, List.size_toArray]
  refine go_on (fun τ B => Xt A.next A B ∧ A.next < B.next ∧ B.blk A.next = some (.row (setC cs) 0 1) ∧ τ 0 = some (.string (S l)) ∧ τ 5 = some (.pointer (some ⟨A.next, 0, some 0⟩)) ∧ τ 6 = some (.bool true)) ⟨?_, by simp, by simp [Hp.put_blk], rfl, rfl, rfl⟩ ?_
  · simp (maxDischargeDepth := 20) only [xt_push, xt_put, xt_refl, Nat.le_refl]
  rintro τ B ⟨hx, hn1, hb, q0, q5, q6⟩
  have r1 := fun fl => trimRightSet_ok (G := G) (fl := fl) hb hn1 l hl
  have hle := rtr_le cs.contains l
  have r2 := fun fl => trimLeftSet_ok (G := G) (fl := fl) hb hn1 (rtr cs.contains l) (by omega)
  simp only [↓R1, R2, R3, R4, TY, reduceIte, Nat.reduceEqDiff, Nat.reduceAdd, Nat.reduceMul, Nat.reduceLT, Nat.reduceLeDiff, reduceCtorEq, decide_true, decide_false, Int.reduceLE, Int.reduceLT, Int.reduceToNat, Int.reduceAdd, Int.reduceSub, Int.reduceMul, Int.reduceEq, q0, q5, q6]
  refine call_of (r1 _) ?_
  simp only [↓R1, R2, R3, R4, TY, reduceIte, Nat.reduceEqDiff, Nat.reduceAdd, Nat.reduceMul, Nat.reduceLT, Nat.reduceLeDiff, reduceCtorEq, decide_true, decide_false, Int.reduceLE, Int.reduceLT, Int.reduceToNat, Int.reduceAdd, Int.reduceSub, Int.reduceMul, Int.reduceEq, q0, q5, q6]
  refine call_of (r2 _) ?_
  simp only [↓R1, R2, R3, R4, TY, reduceIte, Nat.reduceEqDiff, Nat.reduceAdd, Nat.reduceMul, Nat.reduceLT, Nat.reduceLeDiff, reduceCtorEq, decide_true, decide_false, Int.reduceLE, Int.reduceLT, Int.reduceToNat, Int.reduceAdd, Int.reduceSub, Int.reduceMul, Int.reduceEq, q0, q5, q6]
  exact Ended.back hA hx rfl (RB.string _)
end
end Go.Proofs.YtjgkodhadgfbmaaDoor.Ab
