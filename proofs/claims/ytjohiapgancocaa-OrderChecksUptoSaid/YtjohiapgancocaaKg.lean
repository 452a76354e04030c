/- Orders: LatestOf, by the rows in the other direction. -/
import Derived.Test.YtjohiapgancocaaKf
namespace Go.Proofs.Ytjohiapgancocaa.Ab
open Go.RowKit
set_option linter.unusedVariables false
set_option linter.unusedSimpArgs false
set_option maxRecDepth 100000

def rV (n : Nat) (w : Nat → Value) : List Value := (List.range n).map w
theorem rV_len {n : Nat} {w : Nat → Value} : (rV n w).length = n := by simp [rV]
theorem rV_get {n j : Nat} {w : Nat → Value} (h : j < n) : (rV n w)[j]? = some (w j) := by simp [rV, h]
theorem rV_set {n j : Nat} {w : Nat → Value} {s : Value} : (rV n w).set j s = rV n fun i => if i = j then s else w i := by
  refine List.ext_getElem (by simp [rV]) fun i h1 h2 => ?_
  rw [List.getElem_set]
  simp only [rV, List.getElem_map, List.getElem_range]
  by_cases h : j = i
  · subst h; simp
  · rw [if_neg h, if_neg (fun e => h e.symm)]
theorem sing_flat : ∀ {l : List Value}, (l.map fun u => [u]).flatten = l
  | [] => rfl
  | x :: l => by simp only [List.map_cons, List.flatten_cons, sing_flat, List.singleton_append]

/-- A row of own slices of numbers, no two in one block. -/
structure Bst (B : Hp) (lo n I : Nat) (w : Nat → Value) (f : Nat → List Int) : Prop where
  row : B.blk I = some (.row (rV n w) 0 1)
  acn : ∀ j, j < n → Acn B lo 1 (w j) ((f j).map iC)
  ne : ∀ i j, i < n → j < n → i ≠ j → ∀ id g m c g' m' c', w i = .slice (some ⟨id, 0, some g⟩) m c → w j = .slice (some ⟨id, 0, some g'⟩) m' c' → False
theorem Bst.step {B D : Hp} {lo n I j : Nat} {w : Nat → Value} {f f' : Nat → List Int} {x : Int} {s : Value} (h : Bst B lo n I w f) (hj : j < n) (hI : I < lo) (hac : Acn D lo 1 s ((f j).map iC ++ [iC x])) (hnD : B.next ≤ D.next)
    (hfD : ∀ id, id < B.next → (∀ g n c, w j ≠ .slice (some ⟨id, 0, some g⟩) n c) → D.blk id = B.blk id)
    (hidD : ∀ id g n c, s = .slice (some ⟨id, 0, some g⟩) n c → B.next ≤ id ∨ ∃ g0 n0 c0, w j = .slice (some ⟨id, 0, some g0⟩) n0 c0)
    (h1 : f' j = f j ++ [x]) (h2 : ∀ i, i < n → i ≠ j → f' i = f i) : Bst (D.put I (.row ((rV n w).set j s) 0 1)) lo n I (fun i => if i = j then s else w i) f' := by
  have pb : ∀ id, lo ≤ id → (D.put I (.row ((rV n w).set j s) 0 1)).blk id = D.blk id := fun id hid => by rw [Hp.put_blk, if_neg (by omega)]
  refine ⟨by rw [Hp.put_blk, if_pos rfl, rV_set], fun i hi => ?_, fun i k hi hk hik id g m c g' m' c' e e' => ?_⟩
  · by_cases hij : i = j
    · subst hij
      rw [if_pos rfl, h1, List.map_append]
      exact hac.keep (Nat.le_refl _) fun id g n c _ hl _ => pb id hl
    · rw [if_neg hij, h2 i hi hij]
      refine (h.acn i hi).keep hnD fun id g n c e hl hlt => ?_
      rw [pb id hl]
      exact hfD id hlt fun g' n' c' e' => h.ne i j hi hj hij id g n c g' n' c' e e'
  · have lt : ∀ i, i < n → ∀ id g m c, w i = .slice (some ⟨id, 0, some g⟩) m c → id < B.next := fun i hi id g m c e => (h.acn i hi).lt e
    by_cases hij : i = j
    · subst hij
      rw [if_pos rfl] at e
      rw [if_neg (fun q => hik q.symm)] at e'
      rcases hidD id g m c e with q | ⟨g0, n0, c0, q⟩
      · have := lt k hk id g' m' c' e'; omega
      · exact h.ne i k hi hk hik id g0 n0 c0 g' m' c' q e'
    · rw [if_neg hij] at e
      by_cases hkj : k = j
      · subst hkj
        rw [if_pos rfl] at e'
        rcases hidD id g' m' c' e' with q | ⟨g0, n0, c0, q⟩
        · have := lt i hi id g m c e; omega
        · exact h.ne i k hi hk hik id g m c g0 n0 c0 e q
      · rw [if_neg hkj] at e'
        exact h.ne i k hi hk hik id g m c g' m' c' e e'
theorem Bst.xt {B D : Hp} {lo n I : Nat} {w : Nat → Value} {f : Nat → List Int} (h : Bst B lo n I w f) (hI : I < B.next) (hn : B.next ≤ D.next) (hk : ∀ id, id < B.next → id ≠ I + 1 → D.blk id = B.blk id) (hlo : I + 1 < lo) : Bst D lo n I w f :=
  ⟨by rw [hk I hI (by omega)]; exact h.row, fun j hj => (h.acn j hj).keep hn fun id g n c _ hl hlt => hk id hlt (by omega), h.ne⟩

theorem bkRow_succ {ls : List (List Int)} {k j : Nat} : bkRow ls (k + 1) j = bkRow ls k j ++ if ((ls.length - 1 - j : Nat) : Int) ∈ ls.getD k [] then [((ls.length - 1 - k : Nat) : Int)] else [] := by
  unfold bkRow
  rw [List.range_succ, List.filter_append, List.map_append]
  congr 1
  by_cases h : ((ls.length - 1 - j : Nat) : Int) ∈ ls.getD k []
  · rw [List.filter_cons, decide_eq_true h, if_pos rfl, if_pos h]; rfl
  · rw [List.filter_cons, decide_eq_false h, if_neg (by simp), if_neg h]; rfl
theorem bkRow_len {ls : List (List Int)} {k j : Nat} : (bkRow ls k j).length ≤ k := by
  unfold bkRow
  rw [List.length_map]
  have := List.length_filter_le (fun k => decide (((ls.length - 1 - j : Nat) : Int) ∈ ls.getD k [])) (List.range k)
  rw [List.length_range] at this
  exact this
/-- The rows in the other direction, while row k is worked on. -/
def bkI (ls : List (List Int)) (k : Nat) (l : List Int) (j : Nat) : List Int := bkRow ls k j ++ if ((ls.length - 1 - j : Nat) : Int) ∈ l then [((ls.length - 1 - k : Nat) : Int)] else []
def owj (ls : List (List Int)) (ts : List Int) (k : Nat) : List Int := (List.range ls.length).map fun j => if ls.length - 1 - j < k then ts.getD (ls.length - 1 - j) 0 else 0
theorem owj_set {ls : List (List Int)} {ts : List Int} {k : Nat} (hk : k < ls.length) : (owj ls ts k).set (ls.length - 1 - k) (ts.getD k 0) = owj ls ts (k + 1) := by
  refine List.ext_getElem (by simp [owj]) fun i h1 h2 => ?_
  have hi : i < ls.length := by simpa [owj] using h2
  rw [List.getElem_set]
  simp only [owj, List.getElem_map, List.getElem_range]
  by_cases h : ls.length - 1 - k = i
  · subst h
    rw [if_pos rfl, if_pos (by omega), show ls.length - 1 - (ls.length - 1 - k) = k by omega]
  · rw [if_neg h]
    by_cases h3 : ls.length - 1 - i < k
    · rw [if_pos h3, if_pos (by omega)]
    · rw [if_neg h3, if_neg (by omega)]
theorem owj_end {ls : List (List Int)} {ts : List Int} : owj ls ts ls.length = ow ls ts := by
  unfold owj ow
  refine List.map_congr_left fun j hj => ?_
  have := List.mem_range.1 hj
  rw [if_pos (by omega)]
theorem bk_tok {ls : List (List Int)} {ts : List Int} (hT : TOk ls ts) : TOk (bk ls) (ow ls ts) := ⟨bk_dag hT.dag, by simp [ow, bk], ow_ok hT⟩

section
variable {G : Gl} {fl : Nat} {A : Hp}
set_option maxHeartbeats 8000000 in
theorem latestOf_ok {v u : Value} {ls : List (List Int)} {ts : List Int} (h : Nst A v ls) (hmx : ∀ k, k < ls.length → (ls.getD k []).length ≤ 9223372036854775807) (ht : Sl A 1 u (ts.map iC)) (hT : TOk ls ts) (hnd : ∀ k, (ls.getD k []).Nodup) :
    Sound Try.prog G 32 [v, u] fl A (nlV A ((lats ls ts ls.length).map iC)) (nlH A 1 ((lats ls ts ls.length).map iC)) := by
  refine Sound.of mixed Try.func32 Try.ntmps32 Try.results32 (by kernel_rfl) rfl (by kernel_rfl) (by kernel_rfl) fun hA => ?_
  obtain ⟨vs, hs, hl, hr⟩ := h
  obtain ⟨o, c, rfl⟩ := hs.len
  rw [List.length_map, hl] at hs ⊢
  obtain ⟨o2, c2, rfl⟩ := ht.len
  rw [List.length_map] at ht ⊢
  have hn := hT.dag.len
  have hlen := hT.len
  have n2 : (8 * (ls.length : Int) ≤ 281474976710656) = True := eq_true (by omega)
  have n3 : ((ls.length : Int) ≤ 9223372036854775807) = True := eq_true (by omega)
  have n4 : (((24 : Nat) : Int) * (ls.length : Int) ≤ 281474976710656) = True := eq_true (by omega)
  have hz : zl [Value.int .i64 0] ls.length = rI (owj ls ts 0) := by
    simp only [zl, rI, owj, List.map_map]
    refine List.map_congr_left fun j _ => ?_
    simp [Nat.mod_one]
  have hz2 : zl [Value.slice none 0 0] ls.length = rV ls.length fun _ => .slice none 0 0 := by
    simp only [zl, rV]
    refine List.map_congr_left fun j _ => ?_
    simp [Nat.mod_one]
  simp only [↓R1, R2, R3, R4, TY, reduceIte, Nat.reduceEqDiff, Nat.reduceAdd, Nat.reduceMul, Nat.reduceLT, Nat.reduceLeDiff, reduceCtorEq, decide_true, decide_false, Int.reduceLE, Int.reduceLT, Int.reduceToNat, Int.reduceAdd, Int.reduceSub, Int.reduceMul, Int.reduceEq, FE, n2, n3, n4, hz, hz2]
  have hfl := hA.floor
  refine range_of 24 ls.length (fun k τ B => ∃ w, Xt A.next A B ∧ A.next + 1 < B.next ∧ Bst B (A.next + 2) ls.length A.next w (fun j => bkRow ls k j) ∧ B.blk (A.next + 1) = some (.row (rI (owj ls ts k)) 0 1) ∧
      τ 0 = some (.slice o ls.length c) ∧ τ 1 = some (.slice o2 ts.length c2) ∧ τ 5 = some (.int .i64 ls.length) ∧ τ 6 = some (.slice (some ⟨A.next, 0, some 0⟩) ls.length ls.length) ∧ τ 7 = some (.slice (some ⟨A.next + 1, 0, some 0⟩) ls.length ls.length) ∧
      τ 22 = some (.slice o ls.length c) ∧ τ 23 = some (.int .i64 ls.length) ∧ τ 24 = some (.int .i64 k)) ?_ ?_
  · refine ⟨fun _ => .slice none 0 0, ((Xt.refl A).push _).push _, by simp, ⟨by simp [Hp.push_blk], fun j hj => Acn.none, fun i j _ _ _ id g m c g' m' c' e => (by cases e)⟩, by simp [Hp.push_blk], rfl, rfl, rfl, rfl, rfl, rfl, rfl, rfl⟩
  rintro k τ B hk ⟨w, hx, hAB, hB, hown, q0, q1, q5, q6, q7, q22, q23, q24⟩
  simp only [↓R1, R2, R3, R4, TY, reduceIte, Nat.reduceEqDiff, Nat.reduceAdd, Nat.reduceMul, Nat.reduceLT, Nat.reduceLeDiff, reduceCtorEq, decide_true, decide_false, Int.reduceLE, Int.reduceLT, Int.reduceToNat, Int.reduceAdd, Int.reduceSub, Int.reduceMul, Int.reduceEq, FE, q0, q1, q5, q6, q7, q22, q23, q24]
  refine ⟨fun hlt => ?_, fun hlt => ?_⟩
  rotate_left
  · have e : k = ls.length := by omega
    subst e
    rw [owj_end] at hown
    have hbk : Nst B (.slice (some ⟨A.next, 0, some 0⟩) ls.length ls.length) (bk ls) := by
      refine ⟨rV ls.length w, ⟨fun c hc => ?_, .inr (.inr ⟨_, _, _, 0, _, rfl, by rw [List.length_map, rV_len], rfl, hB.row, fun j x hj => by rw [sing_flat] at hj; simpa using hj⟩)⟩, by rw [rV_len, bk_len], fun i h1 h2 => ?_⟩
      · obtain ⟨x, -, rfl⟩ := List.mem_map.1 hc; rfl
      · rw [rV_len] at h1
        have e1 : (rV ls.length w)[i]'(by rw [rV_len]; exact h1) = w i := by simp [rV]
        have e2 : (bk ls)[i] = bkRow ls ls.length i := by simp [bk]
        rw [e1, e2]
        exact (hB.acn i h1).sl
    have how : Sl B 1 (.slice (some ⟨A.next + 1, 0, some 0⟩) ls.length ls.length) ((ow ls ts).map iC) := rI_sl hown (by simp [ow])
    have hTb := bk_tok hT
    have hst := fun fl => startsOf_ok (G := G) (fl := fl) hbk how hTb (fun k hk => by
      rw [bk_len] at hk
      rw [bk_row hk]
      have := bkRow_len (ls := ls) (k := ls.length) (j := k)
      omega)
    have sx := nlH_xt (A := B) (sz := 1) (css := (earl (bk ls) (ow ls ts) (bk ls).length).map iC)
    have ss := fun C x => nl_later (A := B) (C := C) (sz := 1) (css := (earl (bk ls) (ow ls ts) (bk ls).length).map iC) (i_len _) x
    generalize hr3 : nlV B ((earl (bk ls) (ow ls ts) (bk ls).length).map iC) = r3 at hst ss
    generalize hA3 : nlH B 1 ((earl (bk ls) (ow ls ts) (bk ls).length).map iC) = A3 at hst sx ss
    rw [bk_len] at hst ss
    refine call_of (hst _) ?_
    simp only [↓R1, R2, R3, R4, TY, reduceIte, Nat.reduceEqDiff, Nat.reduceAdd, Nat.reduceMul, Nat.reduceLT, Nat.reduceLeDiff, reduceCtorEq, decide_true, decide_false, Int.reduceLE, Int.reduceLT, Int.reduceToNat, Int.reduceAdd, Int.reduceSub, Int.reduceMul, Int.reduceEq, FE, q0, q1, q5, q6, q7]
    obtain ⟨LR, hLR⟩ : ∃ LR, LR = lats ls ts ls.length := ⟨_, rfl⟩
    have LRl : LR.length = ls.length := by rw [hLR, lats_len]
    have LRg : ∀ j, j < ls.length → LR.getD j 0 = tend (bk ls) (ow ls ts) ls.length - est (bk ls) (ow ls ts) (ls.length - 1 - j) - ts.getD j 0 := fun j hj => by
      rw [hLR, lats_eq hT.dag]
      simp [List.getD, hj]
    have hx3 := sx.next
    rw [← hLR]
    have k1 := q1
    have k5 := q5
    clear q0 q1 q5 q6 q7 q22 q23 q24
    refine range_of 74 ls.length (fun j τ D => ∃ sb, Xt A3.next A3 D ∧ Acn D A3.next 1 sb ((LR.take j).map iC) ∧ τ 1 = some (.slice o2 ts.length c2) ∧ τ 5 = some (.int .i64 ls.length) ∧ τ 12 = some r3 ∧ τ 13 = some (.int .i64 (tend (bk ls) (ow ls ts) ls.length)) ∧
      τ 14 = some sb ∧ τ 73 = some (.int .i64 ls.length) ∧ τ 74 = some (.int .i64 j)) ?_ ?_
    · exact ⟨_, Xt.refl _, Acn.none, k1, k5, rfl, rfl, rfl, rfl, rfl⟩
    rintro j τ D hj ⟨sb, hxD, hac, q1, q5, q12, q13, q14, q73, q74⟩
    have hAx : Xt A.next A D := (hx.trans sx).trans hxD
    simp only [↓R1, R2, R3, R4, TY, reduceIte, Nat.reduceEqDiff, Nat.reduceAdd, Nat.reduceMul, Nat.reduceLT, Nat.reduceLeDiff, reduceCtorEq, decide_true, decide_false, Int.reduceLE, Int.reduceLT, Int.reduceToNat, Int.reduceAdd, Int.reduceSub, Int.reduceMul, Int.reduceEq, FE, q1, q5, q12, q13, q14, q73, q74]
    refine ⟨fun hlt => ?_, fun hlt => ?_⟩
    rotate_left
    · have e : j = ls.length := by omega
      subst e
      rw [List.take_of_length_le (by omega)] at hac
      exact Ended.acn hA hAx (hac.lower (by have := hx.next; omega)) (i_rb _)
    have hs1 := ss D hxD
    have hlen1 : (earl (bk ls) (ow ls ts) ls.length).length = ls.length := earl_len
    obtain ⟨o3, c3, rfl⟩ := hs1.len
    obtain ⟨a3, rfl, -⟩ := hs1.at (G := G) (i := ls.length - 1 - j) (by simp [hlen1]; omega)
    have u3 := int_get (G := G) hs1 (i := ls.length - 1 - j) (by omega)
    rw [← getD_at, earl_get (by omega)] at u3
    have hab3 : a3.block < D.next := by
      have := nl_lt (sz := 1) hr3
      rw [hA3] at this
      have := hxD.next
      omega
    have lm : (List.map iC (earl (bk ls) (ow ls ts) ls.length)).length = ls.length := by rw [List.length_map, hlen1]
    obtain ⟨a2, rfl, -⟩ := ht.at (G := G) (i := j) (by simp; omega)
    have hab2 : a2.block < D.next := Nat.lt_of_lt_of_le (ht.lt hA) hAx.next
    have u4 := int_get (G := G) (ht.xt hA hAx) (i := j) (by omega)
    rw [← getD_at] at u4
    have kt : ((j : Int) < (ts.length : Int)) = True := eq_true (by omega)
    have w1 : IntKind.i64.wrap ((ls.length : Int) - 1) = ((ls.length - 1 : Nat) : Int) := by rw [wrapI (by omega)]; omega
    have w2 : IntKind.i64.wrap (((ls.length - 1 : Nat) : Int) - (j : Int)) = ((ls.length - 1 - j : Nat) : Int) := by rw [wrapI (by omega)]; omega
    have x0 : (0 ≤ ((ls.length - 1 - j : Nat) : Int)) = True := eq_true (by omega)
    have x1 : (((ls.length - 1 - j : Nat) : Int) < (ls.length : Int)) = True := eq_true (by omega)
    have x2 : (((ls.length - 1 - j : Nat) : Int)).toNat = ls.length - 1 - j := by omega
    have bl : (bk ls).length = ls.length := bk_len
    have hE1 := est_le hTb.dag hTb.t (ls.length - 1 - j) (by omega)
    have hE0 := est_ge (ts := ow ls ts) (hTb.dag.el (ls.length - 1 - j) (by omega))
    have hte := tend_le hTb.dag hTb.t (n := ls.length) (by omega)
    have hT1 := hT.t j
    have w3 : IntKind.i64.wrap (tend (bk ls) (ow ls ts) ls.length - est (bk ls) (ow ls ts) (ls.length - 1 - j)) = tend (bk ls) (ow ls ts) ls.length - est (bk ls) (ow ls ts) (ls.length - 1 - j) := wrapI (by omega)
    have w4 : IntKind.i64.wrap (tend (bk ls) (ow ls ts) ls.length - est (bk ls) (ow ls ts) (ls.length - 1 - j) - ts.getD j 0) = LR.getD j 0 := by rw [LRg j hlt]; exact wrapI (by omega)
    have hj63 : j < 9223372036854775807 := by omega
    have k74 := q74
    have k12 := q12
    rw [lm] at k12
    have zs : (1 ≤ (zl [Value.int .i64 0] 1).length) = True := eq_true (by decide)
    have zw : zl [Value.int .i64 0] 1 = [Value.int .i64 0] := rfl
    simp only [↓R1, R2, R3, R4, TY, reduceIte, Nat.reduceEqDiff, Nat.reduceAdd, Nat.reduceMul, Nat.reduceLT, Nat.reduceLeDiff, reduceCtorEq, decide_true, decide_false, Int.reduceLE, Int.reduceLT, Int.reduceToNat, Int.reduceAdd, Int.reduceSub, Int.reduceMul, Int.reduceEq, FE, q1, q5, q12, q13, q14, q73, q74, lm, hab3, u3, hab2, u4, kt, w1, w2, x0, x1, x2, w3, w4, hj63, zs, zw, Nat.mul_one]
    rw [floOf_wr (by kernel_rfl)]
    refine app1 (lo := A3.next) (sz := 1) (cl := iC (LR.getD j 0)) ty40 rfl ty3 rfl (by omega) rfl hac (by have := hx.next; omega) hxD.next rfl (by simp [iC, Value.oneCell']) (by simp; omega) (by simp; omega) ?_
    intro sb' E hac' hxE hnE hfE hidE
    simp only [↓R1, R2, R3, R4, TY, reduceIte, Nat.reduceEqDiff, Nat.reduceAdd, Nat.reduceMul, Nat.reduceLT, Nat.reduceLeDiff, reduceCtorEq, decide_true, decide_false, Int.reduceLE, Int.reduceLT, Int.reduceToNat, Int.reduceAdd, Int.reduceSub, Int.reduceMul, Int.reduceEq, FE, q1, q5, q12, q13, q14, q73, q74, lm, hab3, u3, hab2, u4, kt, w1, w2, x0, x1, x2, w3, w4, hj63, zs, zw, Nat.mul_one]
    refine range_on k74 hlt rfl ⟨sb', ⟨fun id hid => (hxE.blk id hid).trans (hxD.blk id hid), by have := hxD.next; omega⟩, ?_, q1, q5, k12, q13, rfl, q73, rfl⟩
    rw [List.take_succ_eq_append_getElem (by omega), List.map_append, ← getD_at]; exact hac'
  obtain ⟨a, rfl, -⟩ := hs.at (G := G) (i := k) (by simpa [hl] using hlt)
  have hab : a.block < B.next := Nat.lt_of_lt_of_le (hs.lt hA) hx.next
  have u0 := row_get (G := G) (hs.xt hA hx) (i := k) (by omega)
  have hsrA := hr k (by omega) hlt
  obtain ⟨o1, c1, e1⟩ := hsrA.len
  rw [e1, List.length_map] at hsrA
  rw [e1, List.length_map] at u0
  have hL := hmx k hlt
  have hdag := hT.dag.el k hlt
  have hndk := hnd k
  have hsucc : ∀ j, bkRow ls (k + 1) j = bkI ls k (ls.getD k []) j := fun j => bkRow_succ
  rw [getD_row hlt] at hL hdag hndk
  simp only [getD_row hlt] at hsucc
  generalize hrw : ls[k] = l at *
  obtain ⟨a2, rfl, -⟩ := ht.at (G := G) (i := k) (by simp; omega)
  have hab2 : a2.block < B.next := Nat.lt_of_lt_of_le (ht.lt hA) hx.next
  have u4 := int_get (G := G) (ht.xt hA hx) (i := k) (by omega)
  rw [← getD_at] at u4
  have kt : ((k : Int) < (ts.length : Int)) = True := eq_true (by omega)
  have kl : ((k : Int) < (ls.length : Int)) = True := eq_true (by omega)
  have w1 : IntKind.i64.wrap ((ls.length : Int) - 1) = ((ls.length - 1 : Nat) : Int) := by rw [wrapI (by omega)]; omega
  have w2 : IntKind.i64.wrap (((ls.length - 1 : Nat) : Int) - (k : Int)) = ((ls.length - 1 - k : Nat) : Int) := by rw [wrapI (by omega)]; omega
  have x0 : (0 ≤ ((ls.length - 1 - k : Nat) : Int)) = True := eq_true (by omega)
  have x1 : (((ls.length - 1 - k : Nat) : Int) < (ls.length : Int)) = True := eq_true (by omega)
  have x2 : (((ls.length - 1 - k : Nat) : Int)).toNat = ls.length - 1 - k := by omega
  have olen : (owj ls ts k).length = ls.length := by simp [owj]
  have rl : (ls.length - 1 - k + 1 ≤ (rI (owj ls ts k)).length) = True := eq_true (by rw [rI_len, olen]; omega)
  have hfl1 : fl ≤ A.next + 1 := by omega
  simp only [↓R1, R2, R3, R4, TY, reduceIte, Nat.reduceEqDiff, Nat.reduceAdd, Nat.reduceMul, Nat.reduceLT, Nat.reduceLeDiff, reduceCtorEq, decide_true, decide_false, Int.reduceLE, Int.reduceLT, Int.reduceToNat, Int.reduceAdd, Int.reduceSub, Int.reduceMul, Int.reduceEq, FE, q0, q1, q5, q6, q7, q22, q23, q24, hlt, hab, u0, Nat.mul_one, u4, hab2, kt, kl, w1, w2, x0, x1, x2, hAB, hown, rl, hfl1]
  refine range_of 41 l.length (fun i τ D => ∃ w, Xt A.next A D ∧ A.next + 1 < D.next ∧ Bst D (A.next + 2) ls.length A.next w (bkI ls k (l.take i)) ∧ D.blk (A.next + 1) = some (.row (rI (owj ls ts (k + 1))) 0 1) ∧
      τ 0 = some (.slice (some a) ls.length c) ∧ τ 1 = some (.slice (some a2) ts.length c2) ∧ τ 5 = some (.int .i64 ls.length) ∧ τ 6 = some (.slice (some ⟨A.next, 0, some 0⟩) ls.length ls.length) ∧ τ 7 = some (.slice (some ⟨A.next + 1, 0, some 0⟩) ls.length ls.length) ∧
      τ 8 = some (.int .i64 k) ∧ τ 22 = some (.slice (some a) ls.length c) ∧ τ 23 = some (.int .i64 ls.length) ∧ τ 24 = some (.int .i64 k) ∧ τ 39 = some (.slice o1 l.length c1) ∧ τ 40 = some (.int .i64 l.length) ∧ τ 41 = some (.int .i64 i)) ?_ ?_
  · refine ⟨w, hx.put (by omega) _, hAB, ?_, ?_, q0, q1, q5, q6, q7, rfl, q22, q23, q24, rfl, rfl, rfl⟩
    · have hB2 : Bst B (A.next + 2) ls.length A.next w (bkI ls k (l.take 0)) := by
        refine ⟨hB.row, fun j hj => ?_, hB.ne⟩
        have := hB.acn j hj
        rw [show bkI ls k (l.take 0) j = bkRow ls k j by simp [bkI]]; exact this
      exact hB2.xt (by omega) (Nat.le_refl _) (fun id h1 h2 => by rw [Hp.put_blk, if_neg h2]) (by omega)
    · rw [Hp.put_blk, if_pos rfl, rI_set, owj_set hlt]
  clear hB hown q0 q1 q5 q6 q7 q22 q23 u0 u4 hab hab2 hAB
  have k24 := q24
  clear q24
  rintro i τ D hi ⟨w, hx, hAB, hB, hown, q0, q1, q5, q6, q7, q8, q22, q23, q24, q39, q40, q41⟩
  simp only [↓R1, R2, R3, R4, TY, reduceIte, Nat.reduceEqDiff, Nat.reduceAdd, Nat.reduceMul, Nat.reduceLT, Nat.reduceLeDiff, reduceCtorEq, decide_true, decide_false, Int.reduceLE, Int.reduceLT, Int.reduceToNat, Int.reduceAdd, Int.reduceSub, Int.reduceMul, Int.reduceEq, FE, q0, q1, q5, q6, q7, q8, q22, q23, q24, q39, q40, q41]
  have hk63 : k < 9223372036854775807 := by omega
  refine ⟨fun hli => ?_, fun hli => ?_⟩
  rotate_left
  · have e : i = l.length := by omega
    subst e
    rw [List.take_of_length_le (Nat.le_refl _)] at hB
    simp only [↓R1, R2, R3, R4, TY, reduceIte, Nat.reduceEqDiff, Nat.reduceAdd, Nat.reduceMul, Nat.reduceLT, Nat.reduceLeDiff, reduceCtorEq, decide_true, decide_false, Int.reduceLE, Int.reduceLT, Int.reduceToNat, Int.reduceAdd, Int.reduceSub, Int.reduceMul, Int.reduceEq, FE, q0, q1, q5, q6, q7, q8, q22, q23, q24, q39, q40, q41, hk63]
    refine range_on k24 hlt rfl ⟨w, hx, hAB, ?_, hown, q0, q1, q5, q6, q7, q22, q23, rfl⟩
    refine ⟨hB.row, fun j hj => ?_, hB.ne⟩
    rw [hsucc]; exact hB.acn j hj
  obtain ⟨a1, rfl, -⟩ := hsrA.at (G := G) (i := i) (by simpa using hli)
  have hab1 : a1.block < D.next := Nat.lt_of_lt_of_le (hsrA.lt hA) hx.next
  have u1 := int_get (G := G) (hsrA.xt hA hx) (i := i) hli
  have hxm : l[i] ∈ l := List.getElem_mem hli
  have hx2 := hdag _ hxm
  have tk : l.take (i + 1) = l.take i ++ [l[i]] := List.take_succ_eq_append_getElem hli
  have hnew : l[i] ∉ l.take i := by
    intro hm
    obtain ⟨j, hj, e⟩ := List.mem_take_iff_getElem.1 hm
    exact List.pairwise_iff_getElem.1 hndk j i (by omega) hli (by omega) e
  generalize hxx : l[i] = x at *
  obtain ⟨jx, hjx⟩ : ∃ jx, jx = ls.length - 1 - x.toNat := ⟨_, rfl⟩
  have hjn : jx < ls.length := by omega
  have hxe : ((ls.length - 1 - jx : Nat) : Int) = x := by omega
  have w3 : IntKind.i64.wrap (((ls.length - 1 : Nat) : Int) - x) = (jx : Int) := by rw [wrapI (by omega)]; omega
  have y0 : (0 ≤ (jx : Int)) = True := eq_true (by omega)
  have y1 : ((jx : Int) < (ls.length : Int)) = True := eq_true (by omega)
  have v1 : D.get G ⟨A.next, jx, some 0⟩ = some (w jx) := by simp only [Hp.get, hB.row, if_true]; exact rV_get hjn
  have hAD : A.next < D.next := by omega
  have hi63 : i < 9223372036854775807 := by omega
  have k41 := q41
  have zs : (1 ≤ (zl [Value.int .i64 0] 1).length) = True := eq_true (by decide)
  have zw : zl [Value.int .i64 0] 1 = [Value.int .i64 0] := rfl
  have hacj := hB.acn jx hjn
  obtain ⟨ow_, cw_, ew⟩ := hacj.sl.len
  simp only [↓R1, R2, R3, R4, TY, reduceIte, Nat.reduceEqDiff, Nat.reduceAdd, Nat.reduceMul, Nat.reduceLT, Nat.reduceLeDiff, reduceCtorEq, decide_true, decide_false, Int.reduceLE, Int.reduceLT, Int.reduceToNat, Int.reduceAdd, Int.reduceSub, Int.reduceMul, Int.reduceEq, FE, q0, q1, q5, q6, q7, q8, q22, q23, q24, q39, q40, q41, hli, hab1, u1, Nat.mul_one, w1, w2, w3, y0, y1, v1, hAD, hi63, zs, zw]
  have blen : (bkI ls k (l.take i) jx).length ≤ k + 1 := by
    have := bkRow_len (ls := ls) (k := k) (j := jx)
    unfold bkI
    rw [List.length_append]
    split <;> simp <;> omega
  refine app1 (lo := A.next + 2) (sz := 1) (cl := iC ((ls.length - 1 - k : Nat) : Int)) ty40 rfl ty3 rfl (by omega) rfl hacj (by omega) (by omega) rfl (by simp [iC, Value.oneCell']) (by simp; omega) (by simp; omega) ?_
  intro s' E hac' hxE hnE hfE hidE
  have eA : E.blk A.next = some (.row (rV ls.length w) 0 1) := by rw [hxE.blk _ (by omega)]; exact hB.row
  have hAE : A.next < E.next := by omega
  have rl2 : (jx + 1 ≤ (rV ls.length w).length) = True := eq_true (by rw [rV_len]; omega)
  have sc : s'.cells = [s'].toArray := by obtain ⟨_, _, rfl⟩ := hac'.sl.len; rfl
  have so : s'.oneCell' = true := by obtain ⟨_, _, rfl⟩ := hac'.sl.len; rfl
  simp only [↓R1, R2, R3, R4, TY, reduceIte, Nat.reduceEqDiff, Nat.reduceAdd, Nat.reduceMul, Nat.reduceLT, Nat.reduceLeDiff, reduceCtorEq, decide_true, decide_false, Int.reduceLE, Int.reduceLT, Int.reduceToNat, Int.reduceAdd, Int.reduceSub, Int.reduceMul, Int.reduceEq, FE, q0, q1, q5, q6, q7, q8, q22, q23, q24, q39, q40, q41, hi63, w1, w2, w3, y0, y1, eA, hAE, rl2, hfl, sc, so]
  refine range_on k41 hli rfl ⟨_, ⟨fun id hid => ?_, ?_⟩, ?_, hB.step hjn (by omega) hac' hnE hfE hidE ?_ ?_, ?_, q0, q1, q5, q6, q7, q8, q22, q23, q24, q39, q40, rfl⟩
  · rw [Hp.put_blk, if_neg (by omega), hxE.blk _ (by omega), hx.blk id hid]
  · show A.next ≤ E.next; omega
  · show A.next + 1 < E.next; omega
  · have e3 : bkI ls k (l.take i) jx = bkRow ls k jx := by unfold bkI; rw [if_neg (by rw [hxe]; exact hnew), List.append_nil]
    rw [e3]
    unfold bkI
    rw [if_pos (by rw [hxe, tk]; simp)]
  · intro j hj hne
    unfold bkI
    have : (((ls.length - 1 - j : Nat) : Int) ∈ l.take (i + 1)) = (((ls.length - 1 - j : Nat) : Int) ∈ l.take i) := by
      rw [tk]
      simp only [List.mem_append, List.mem_singleton, eq_iff_iff]
      exact ⟨fun h => h.resolve_right (by omega), .inl⟩
    simp only [this]
  · rw [Hp.put_blk, if_neg (by omega), hxE.blk _ (by omega)]; exact hown
end
end Go.Proofs.Ytjohiapgancocaa.Ab
