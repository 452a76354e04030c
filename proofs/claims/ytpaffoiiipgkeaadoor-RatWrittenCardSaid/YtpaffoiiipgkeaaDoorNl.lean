/- Numbers: read from their decimal notation. -/
import Derived.Test.YtpaffoiiipgkeaaDoorNk
namespace Go.Proofs.YtpaffoiiipgkeaaDoor.Ab
open Go.RowKit
set_option linter.unusedVariables false
set_option linter.unusedSimpArgs false
set_option maxRecDepth 100000

/-- What a row of letters says. -/
def dv (l : List UInt8) : Nat := l.foldl (fun n b => n * 10 + (b.toNat - 48)) 0
def digits (l : List UInt8) : Prop := ∀ b ∈ l, 48 ≤ b.toNat ∧ b.toNat ≤ 57
instance (l : List UInt8) : Decidable (digits l) := by unfold digits; infer_instance
def readR (l : List UInt8) : Nat × Int :=
  if 2000 < l.length then (0, 2) else if l = [] ∨ (1 < l.length ∧ l.head? = some 48) then (0, 15) else if digits l then (dv l, 0) else (0, 15)
theorem dv_snoc (l : List UInt8) (b : UInt8) : dv (l ++ [b]) = dv l * 10 + (b.toNat - 48) := by simp [dv]
theorem dv_take {l : List UInt8} {j : Nat} (h : j < l.length) : dv (l.take (j + 1)) = dv (l.take j) * 10 + (l[j].toNat - 48) := by
  rw [List.take_succ_eq_append_getElem h, dv_snoc]
theorem dl_digits (n : Nat) : digits (dl n) := by
  induction n using Nat.strongRecOn with
  | _ n ih =>
    by_cases h : n = 0
    · rw [h, dl_zero]; intro b hb; simp at hb
    · rw [dl_pos h]
      intro b hb
      rcases List.mem_cons.1 hb with h' | h'
      · rw [h', ofNat_toNat8 (by omega)]; omega
      · exact ih (n / 10) (by omega) b h'
theorem dv_dl (n : Nat) : dv (dl n).reverse = n := by
  induction n using Nat.strongRecOn with
  | _ n ih =>
    by_cases h : n = 0
    · rw [h, dl_zero]; rfl
    · rw [dl_pos h, List.reverse_cons, dv_snoc, ih (n / 10) (by omega), ofNat_toNat8 (by omega)]; omega
theorem dl_last {n : Nat} (h : n ≠ 0) : ∃ b m, (dl n).reverse = b :: m ∧ b ≠ 48 := by
  induction n using Nat.strongRecOn with
  | _ n ih =>
    rw [dl_pos h, List.reverse_cons]
    by_cases h1 : n / 10 = 0
    · refine ⟨UInt8.ofNat (48 + n % 10), [], by rw [h1, dl_zero]; rfl, fun e => ?_⟩
      have := congrArg UInt8.toNat e
      rw [ofNat_toNat8 (by omega)] at this
      simp at this; omega
    · obtain ⟨b, m, hm, hb⟩ := ih (n / 10) (by omega) h1
      exact ⟨b, m ++ [UInt8.ofNat (48 + n % 10)], by rw [hm]; rfl, hb⟩
theorem dec_ne (n : Nat) : dec n ≠ [] := by
  rw [dec]
  split
  · simp
  · rename_i h
    obtain ⟨b, m, hm, _⟩ := dl_last h
    rw [hm]; simp
/-- A number is read back from its text. -/
theorem read_dec {n : Nat} (h : (dec n).length ≤ 2000) : readR (dec n) = (n, 0) := by
  rw [readR, if_neg (by omega)]
  by_cases h0 : n = 0
  · subst h0; decide
  · obtain ⟨b, m, hm, hb⟩ := dl_last h0
    have hd : dec n = (dl n).reverse := by rw [dec, if_neg h0]
    rw [if_neg, if_pos]
    · rw [hd, dv_dl]
    · rw [hd]; intro b hb; exact dl_digits n b (by simpa using hb)
    · rw [hd, hm]
      rintro (h | ⟨_, h⟩)
      · cases h
      · simp at h; exact hb h
theorem read_zero {l : List UInt8} (h : l ≠ []) (hl : l.length < 2000) : readR (48 :: l) = (0, 15) := by
  have : 0 < l.length := List.length_pos_iff.2 h
  rw [readR, if_neg (by simp; omega), if_pos (.inr ⟨by simp; omega, rfl⟩)]

theorem read_step {p c k w B s : Nat} (hB : B = 4294967296) (hs : s = c + 10 * w) {w' X : Nat} (h : w' + p * c = 10 * X + k) : w' + p * (s % B) + p * B * (s / B) = 10 * (X + p * w) + k := by
  have e := Nat.div_add_mod s B
  have e2 : p * s = p * B * (s / B) + p * (s % B) := by rw [Nat.mul_assoc, ← Nat.mul_add, e]
  have e3 : p * s = p * c + 10 * (p * w) := by rw [hs, Nat.mul_add, Nat.mul_left_comm]
  omega

theorem uc_len (l : List Nat) : ∀ c ∈ l.map uc, c.length = 1 := by
  intro c hc
  obtain ⟨x, _, rfl⟩ := List.mem_map.1 hc
  rfl
theorem uc_one (l : List Nat) : ∀ c ∈ l.map uc, ∀ u ∈ c, u.oneCell' = true := by
  intro c hc u hu
  obtain ⟨x, _, rfl⟩ := List.mem_map.1 hc
  simp only [uc, List.mem_cons, List.not_mem_nil, or_false] at hu
  subst hu; rfl

section
variable {G : Gl} {fl : Nat} {A : Hp}

theorem read_ok (l : List UInt8) : Sound Tryd.prog G 15 [.string (S l)] fl A (.tuple [Value.string (S (nb (readR l).1)), .int .i64 (readR l).2].toArray) A := by
  refine Sound.of mixed Tryd.func15 Tryd.ntmps15 Tryd.results15 (by kernel_rfl) rfl (by kernel_rfl) (by simp) fun hA => ?_
  have hres : ∀ (x : Value) (n : Nat) (y : Int) (B : Hp), Xt A.next A B → x = .string (S (nb n)) → readR l = (n, y) → Ended A (.tuple [x, .int .i64 y].toArray) B (.tuple [Value.string (S (nb (readR l).1)), .int .i64 (readR l).2].toArray) A := by
    rintro x n y B hx rfl he
    rw [he]
    refine Ended.back hA hx rfl (RB.tuple fun w hw => ?_)
    simp only [List.mem_cons, List.not_mem_nil, or_false] at hw
    rcases hw with rfl | rfl
    · exact RB.string _
    · exact RB.int _ _
  have hn0 : Value.string (S []) = .string (S (nb 0)) := by rw [nb_zero]
  have hlong : ((2000 : Int) < (l.length : Nat)) = (2000 < l.length) := propext (by omega)
  simp only [↓R1, R2, R3, R4, TY, reduceIte, Nat.reduceEqDiff, Nat.reduceAdd, Nat.reduceMul, Nat.reduceLT, Nat.reduceLeDiff, reduceCtorEq, decide_true, decide_false, Int.reduceLE, Int.reduceLT, Int.reduceToNat, Int.reduceAdd, Int.reduceSub, Int.reduceMul, Int.reduceEq, S_size, hlong]
  refine ⟨fun h => hres _ 0 _ _ (Xt.refl A) hn0 (by rw [readR, if_pos h]), fun h1 => ?_⟩
  have hone : ((1 : Int) < (l.length : Nat)) = (1 < l.length) := propext (by omega)
  have h0 : ∀ b k, l = b :: k → byteAt (S l) 0 = ((b.toNat : Nat) : Int) := by rintro b k rfl; rfl
  have hbad : l = [] ∨ (1 < l.length ∧ l.head? = some 48) → readR l = (0, 15) := fun h => by rw [readR, if_neg (by omega), if_pos h]
  cases l with
  | nil =>
    simp only [↓R1, R2, R3, R4, TY, reduceIte, Nat.reduceEqDiff, Nat.reduceAdd, Nat.reduceMul, Nat.reduceLT, Nat.reduceLeDiff, reduceCtorEq, decide_true, decide_false, Int.reduceLE, Int.reduceLT, Int.reduceToNat, Int.reduceAdd, Int.reduceSub, Int.reduceMul, Int.reduceEq, S_inj, hone, List.length_nil, Int.ofNat_zero]
    exact hres _ 0 _ _ (Xt.refl A) hn0 (hbad (.inl rfl))
  | cons b k =>
  have h0 := h0 b k rfl
  generalize hL : b :: k = l at *
  have hne : (l = []) = False := eq_false (by rw [← hL]; simp)
  have hhd : l.head? = some b := by rw [← hL]; rfl
  have hb48 : (((b.toNat : Nat) : Int) = 48) = (b = 48) := propext ⟨fun h => UInt8.toNat_inj.1 (by simp; omega), fun h => by rw [h]; rfl⟩
  have hpos : (0 : Int) < (l.length : Nat) := by rw [← hL]; simp
  simp only [↓R1, R2, R3, R4, TY, reduceIte, Nat.reduceEqDiff, Nat.reduceAdd, Nat.reduceMul, Nat.reduceLT, Nat.reduceLeDiff, reduceCtorEq, decide_true, decide_false, Int.reduceLE, Int.reduceLT, Int.reduceToNat, Int.reduceAdd, Int.reduceSub, Int.reduceMul, Int.reduceEq, S_inj, hone, S_size, h0, hne, hb48, hpos]
  have hbnd : l.length ≤ 2000 := by omega
  refine ⟨fun h1 => ⟨fun h2 => hres _ 0 _ _ (Xt.refl A) hn0 (hbad (.inr ⟨h1, by rw [hhd, h2]⟩)), fun h2 => ?_⟩, fun h1 => ?_⟩
  all_goals
    have hR : readR l = if digits l then (dv l, 0) else (0, 15) := by
      rw [readR, if_neg (by omega), if_neg]
      rintro (h | ⟨h, h'⟩)
      · exact hne.mp h
      · rw [hhd] at h'; simp only [Option.some.injEq] at h'; first | exact h2 h' | exact h1 h
    refine range_of 25 l.length (fun j τ B => ∃ (ls : List Nat) (so : Value), Xt A.next A B ∧ Ac B A.next 1 so (ls.map uc) ∧ W32 ls ∧ ls.length ≤ j ∧ wv ls = dv (l.take j) ∧ digits (l.take j) ∧ τ 0 = some (.string (S l)) ∧ τ 4 = some so ∧ τ 24 = some (.int .i64 l.length) ∧ τ 25 = some (.int .i64 j)) ?_ ?_
    · exact ⟨[], _, Xt.refl A, Ac.nil _ _ _, by intro w hw; simp at hw, Nat.le_refl _, rfl, by intro b hb; simp at hb, rfl, rfl, rfl, rfl⟩
    rintro j τ B hj ⟨ls, so, hx, hac, hlw, hll, hlv, hld, q0, q4, q24, q25⟩
    simp only [↓R1, R2, R3, R4, TY, reduceIte, Nat.reduceEqDiff, Nat.reduceAdd, Nat.reduceMul, Nat.reduceLT, Nat.reduceLeDiff, reduceCtorEq, decide_true, decide_false, Int.reduceLE, Int.reduceLT, Int.reduceToNat, Int.reduceAdd, Int.reduceSub, Int.reduceMul, Int.reduceEq, q0, q4, q24, q25]
    refine ⟨fun hlt => ?_, fun hlt => ?_⟩
    rotate_left
    · rw [List.take_of_length_le (by omega)] at hlv hld
      refine call_of (text_ok (ws := ls) (by omega) hlw hac.sl) ?_
      simp only [↓R1, R2, R3, R4, TY, reduceIte, Nat.reduceEqDiff, Nat.reduceAdd, Nat.reduceMul, Nat.reduceLT, Nat.reduceLeDiff, reduceCtorEq, decide_true, decide_false, Int.reduceLE, Int.reduceLT, Int.reduceToNat, Int.reduceAdd, Int.reduceSub, Int.reduceMul, Int.reduceEq]
      exact hres _ (dv l) _ _ hx (by rw [hlv]) (by rw [hR, if_pos hld])
    have hbt := S_at hlt
    have hj63 : j < 9223372036854775807 := by omega
    have c1 : (((l[j].toNat : Nat) : Int) < 48) = (l[j].toNat < 48) := propext (by omega)
    have c2 : ((57 : Int) < ((l[j].toNat : Nat) : Int)) = (57 < l[j].toNat) := propext (by omega)
    have hnd : ¬ (48 ≤ l[j].toNat ∧ l[j].toNat ≤ 57) → readR l = (0, 15) := fun h => by rw [hR, if_neg]; exact fun hd => h (hd _ (List.getElem_mem hlt))
    simp only [↓R1, R2, R3, R4, TY, reduceIte, Nat.reduceEqDiff, Nat.reduceAdd, Nat.reduceMul, Nat.reduceLT, Nat.reduceLeDiff, reduceCtorEq, decide_true, decide_false, Int.reduceLE, Int.reduceLT, Int.reduceToNat, Int.reduceAdd, Int.reduceSub, Int.reduceMul, Int.reduceEq, q0, q4, q24, q25, S_size, hlt, hbt, c1, c2]
    refine ⟨fun h3 => hres _ 0 _ _ hx hn0 (hnd (by omega)), fun h3 => ⟨fun h4 => hres _ 0 _ _ hx hn0 (hnd (by omega)), fun h4 => ?_⟩⟩
    have e1 : IntKind.u8.wrap (((l[j].toNat : Nat) : Int) - 48) = ((l[j].toNat - 48 : Nat) : Int) := by rw [wrap_u8]; omega
    generalize hc0 : l[j].toNat - 48 = c0 at e1
    have e2 : c0 % 18446744073709551616 = c0 := Nat.mod_eq_of_lt (by omega)
    obtain ⟨oo, co, hso⟩ := hac.sl.len
    rw [List.length_map] at hso
    simp only [↓R1, R2, R3, R4, TY, reduceIte, Nat.reduceEqDiff, Nat.reduceAdd, Nat.reduceMul, Nat.reduceLT, Nat.reduceLeDiff, reduceCtorEq, decide_true, decide_false, Int.reduceLE, Int.reduceLT, Int.reduceToNat, Int.reduceAdd, Int.reduceSub, Int.reduceMul, Int.reduceEq, q0, q4, q24, q25, S_size, hlt, hbt, e1, e2, hso, UN]
    subst hso
    have hfl : fl ≤ A.next := hA.floor
    have hc9 : c0 ≤ 9 := by omega
    refine range_of 45 ls.length (fun k τ C => ∃ (rs : List Nat) (cy : Nat), Xt A.next A C ∧ Ac C A.next 1 (.slice oo ls.length co) ((rs ++ ls.drop k).map uc) ∧ rs.length = k ∧ W32 rs ∧ cy ≤ 9 ∧ wv rs + 4294967296 ^ k * cy = 10 * wv (ls.take k) + c0 ∧
      τ 0 = some (.string (S l)) ∧ τ 4 = some (.slice oo ls.length co) ∧ τ 6 = some (.int .u64 (cy : Nat)) ∧ τ 24 = some (.int .i64 l.length) ∧ τ 25 = some (.int .i64 j) ∧ τ 44 = some (.int .i64 ls.length) ∧ τ 45 = some (.int .i64 k)) ?_ ?_
    · exact ⟨[], c0, hx, by simpa using hac, rfl, by intro w hw; simp at hw, hc9, by simp [wv], q0, q4, rfl, q24, q25, rfl, rfl⟩
    rintro k τ' C hk ⟨rs, cy, hxC, hacC, hrl, hrw, hcy, hsum, r0, r4, r6, r24, r25, r44, r45⟩
    simp only [↓R1, R2, R3, R4, TY, reduceIte, Nat.reduceEqDiff, Nat.reduceAdd, Nat.reduceMul, Nat.reduceLT, Nat.reduceLeDiff, reduceCtorEq, decide_true, decide_false, Int.reduceLE, Int.reduceLT, Int.reduceToNat, Int.reduceAdd, Int.reduceSub, Int.reduceMul, Int.reduceEq, r0, r4, r6, r24, r25, r44, r45]
    refine ⟨fun hkl => ?_, fun hkl => ?_⟩
    · rcases hacC.at_ with ⟨h5, h6⟩ | ⟨id, g, n, c, h5, hnc, hid, hidn, hblk, hn⟩
      · rw [List.map_eq_nil_iff] at h6
        have := congrArg List.length h6
        simp at this; omega
      cases h5
      rw [wc_flat] at hblk
      have hget : (rs ++ ls.drop k)[k]? = some ls[k] := by
        rw [List.getElem?_append_right (by omega), hrl, Nat.sub_self, List.getElem?_drop, Nat.add_zero, List.getElem?_eq_getElem hkl]
      have hg : C.get G ⟨id, k, some g⟩ = some (.int .u32 (ls[k] : Nat)) := by
        simp only [Hp.get, hblk, if_true]; exact wc_getq hget
      have hw32 : ls[k] < 4294967296 := hlw _ (List.getElem_mem hkl)
      have hlen : (wc (rs ++ ls.drop k)).length = ls.length := by rw [wc_length, List.length_append, List.length_drop, hrl]; omega
      have hk63 : k < 9223372036854775807 := by omega
      have hk1 : k + 1 ≤ ls.length := by omega
      have t1 : (10 : Int) * ((ls[k] : Nat) : Int) = ((10 * ls[k] : Nat) : Int) := by omega
      have m1 : ls[k] % 18446744073709551616 = ls[k] := Nat.mod_eq_of_lt (by omega)
      have m2 : 10 * ls[k] % 18446744073709551616 = 10 * ls[k] := Nat.mod_eq_of_lt (by omega)
      have m3 : (cy + 10 * ls[k]) % 18446744073709551616 = cy + 10 * ls[k] := Nat.mod_eq_of_lt (by omega)
      have hfl2 : fl ≤ id := by omega
      simp only [↓R1, R2, R3, R4, TY, reduceIte, Nat.reduceEqDiff, Nat.reduceAdd, Nat.reduceMul, Nat.reduceLT, Nat.reduceLeDiff, reduceCtorEq, decide_true, decide_false, Int.reduceLE, Int.reduceLT, Int.reduceToNat, Int.reduceAdd, Int.reduceSub, Int.reduceMul, Int.reduceEq, r0, r4, r6, r24, r25, r44, r45, hkl, hk63, hg, hblk, hlen, hk1, hfl2, t1, m1, m2, m3, UN]
      have hset : (wc (rs ++ ls.drop k)).set k (.int .u32 (((cy + 10 * ls[k]) % 4294967296 : Nat) : Int)) = wc ((rs ++ [(cy + 10 * ls[k]) % 4294967296]) ++ ls.drop (k + 1)) := by
        rw [wc_set, List.drop_eq_getElem_cons hkl, set_snoc hrl]
      rw [hset]
      refine range_on r45 hkl rfl ⟨rs ++ [(cy + 10 * ls[k]) % 4294967296], (cy + 10 * ls[k]) / 2 ^ 32, hxC.put hid _, ⟨uc_len _, uc_one _, .inr ⟨id, g, _, _, rfl, hnc, hid, by simpa using hidn, by rw [wc_flat]; simp [Hp.put_blk], by simp; omega⟩⟩, by simp [hrl], ?_, by omega, ?_, r0, r4, rfl, r24, r25, r44, rfl⟩
      · intro w hw
        rcases List.mem_append.1 hw with h | h
        · exact hrw w h
        · rw [List.mem_singleton.1 h]; exact Nat.mod_lt _ (by omega)
      · rw [wv_snoc, hrl, wv_take_succ hkl, Nat.pow_succ]
        exact read_step rfl rfl hsum
    · obtain rfl : k = ls.length := by omega
      rw [List.drop_length, List.append_nil] at hacC
      rw [List.take_length] at hsum
      have hval : wv rs + 4294967296 ^ ls.length * cy = dv (l.take (j + 1)) := by rw [hsum, dv_take hlt, hlv, hc0]; omega
      have hdig : digits (l.take (j + 1)) := by
        rw [List.take_succ_eq_append_getElem hlt]
        intro b hb
        rcases List.mem_append.1 hb with h | h
        · exact hld b h
        · rw [List.mem_singleton.1 h]; omega
      have hz1 : zl [.int .u32 0] 1 = [.int .u32 0] := rfl
      have c0' : ((0 : Int) < ((cy : Nat) : Int)) = (0 < cy) := propext (by omega)
      have m1 : cy % 4294967296 = cy := Nat.mod_eq_of_lt (by omega)
      simp only [↓R1, R2, R3, R4, TY, reduceIte, Nat.reduceEqDiff, Nat.reduceAdd, Nat.reduceMul, Nat.reduceLT, Nat.reduceLeDiff, reduceCtorEq, decide_true, decide_false, Int.reduceLE, Int.reduceLT, Int.reduceToNat, Int.reduceAdd, Int.reduceSub, Int.reduceMul, Int.reduceEq, r0, r4, r6, r24, r25, r44, r45, c0', hz1, m1, hj63, UN]
      refine ⟨fun hcp => ?_, fun hcp => ?_⟩
      · refine apn_of (lo := A.next) (sz := 1) (css := rs.map uc) (new := [uc cy]) ty56 rfl ty61 ty56 rfl rfl (by omega) rfl (hacC.xt ((Xt.refl C).push _)) hfl (by rw [Hp.push_next]; have := hxC.next; omega) ⟨by simp [uc], .inr (.inr ⟨_, _, _, 0, _, rfl, rfl, rfl, by rw [Hp.push_blk, if_pos rfl], fun j x hj => by simpa [uc] using hj⟩)⟩ (uc_one [cy]) (by simp; omega) (by simp; omega) ?_
        intro so' D hau hxt hn' hf hsome hid
        simp only [↓R1, R2, R3, R4, TY, reduceIte, Nat.reduceEqDiff, Nat.reduceAdd, Nat.reduceMul, Nat.reduceLT, Nat.reduceLeDiff, reduceCtorEq, decide_true, decide_false, Int.reduceLE, Int.reduceLT, Int.reduceToNat, Int.reduceAdd, Int.reduceSub, Int.reduceMul, Int.reduceEq, r0, r4, r6, r24, r25, r44, r45, hj63]
        refine range_on q25 hlt rfl ⟨rs ++ [cy], so', ⟨fun id hid => by rw [hxt.blk id hid, Hp.push_blk, if_neg (by have := hxC.next; omega)]; exact hxC.blk id hid, hxt.next⟩, by simpa using hau, ?_, by simp; omega, by rw [wv_snoc, hrl, hval], hdig, r0, rfl, r24, rfl⟩
        intro w hw
        rcases List.mem_append.1 hw with h | h
        · exact hrw w h
        · rw [List.mem_singleton.1 h]; omega
      · have hcz : cy = 0 := by omega
        subst hcz
        exact range_on q25 hlt rfl ⟨rs, _, hxC, hacC, hrw, by omega, by rw [← hval]; omega, hdig, r0, r4, r24, rfl⟩
end
end Go.Proofs.YtpaffoiiipgkeaaDoor.Ab
