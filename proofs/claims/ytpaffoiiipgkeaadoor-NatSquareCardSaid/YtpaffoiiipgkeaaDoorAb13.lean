/- Code of the abstract machine, and its soundness; what a function's call comes to. -/
import Derived.Test.YtpaffoiiipgkeaaDoorAb12
import Derived.Deep.LoopGhost
namespace Go.Proofs.YtpaffoiiipgkeaaDoor.Ab
open Go.RowKit
set_option linter.unusedVariables false
set_option linter.unusedSimpArgs false

/-! what the text of a drawn region is asked -/
def maskOf (acc : List Nat) (o : Oper) : Nat := o.after.toList.foldl (fun s e => if Region.binds .any e then s ||| 2 ^ e.on ||| acc.getD e.on 0 else s) 0
def masksGo : List Oper → List Nat → List Nat
  | [], acc => acc
  | o :: os, acc => masksGo os (acc ++ [maskOf acc o])

/-- Does it write? 'cw': calls count as writes. -/
def isWr (cw : Bool) (o : Oper) : Bool :=
  match o.op with
  | .store .. => true
  | .call c => match c.callee with
    | .builtin .append => true
    | .value _ => cw
    | _ => false
  | _ => false

def okPair (P : Program) (cw : Bool) (ops : Array Oper) (m : List Nat) (i j : Nat) (x y : Oper) : Bool :=
  (x.apart ops y || (m.getD j 0).testBit i) && (!(!pureOp P x.op && !pureOp P y.op && (isWr cw x || isWr cw y)) || (m.getD j 0).testBit i)
def okPairs (P : Program) (cw : Bool) (ops : Array Oper) (m : List Nat) : List Oper → Nat → Bool
  | [], _ => true
  | y :: ys, j => ((List.range j).all fun i => match ops[i]? with | some x => okPair P cw ops m i j x y | none => true) && y.after.toList.all (fun e => !Region.binds .any e || e.on < j) && okPairs P cw ops m ys (j + 1)
def okRegion (P : Program) (cw : Bool) (ops : Array Oper) : Bool := okPairs P cw ops (masksGo ops.toList []) ops.toList 0

section
variable {P : Program} {G : Gl}

theorem maskOf_spec (acc : List Nat) (o : Oper) (i : Nat) (h : (maskOf acc o).testBit i = true) : ∃ e ∈ o.after, Region.binds .any e = true ∧ (e.on = i ∨ (acc.getD e.on 0).testBit i = true) := by
  have go : ∀ (l : List Edge) (s : Nat), (l.foldl (fun s e => if Region.binds .any e then s ||| 2 ^ e.on ||| acc.getD e.on 0 else s) s).testBit i = true →
      s.testBit i = true ∨ ∃ e ∈ l, Region.binds .any e = true ∧ (e.on = i ∨ (acc.getD e.on 0).testBit i = true) := by
    intro l
    induction l with
    | nil => intro s h; exact .inl h
    | cons e l ih =>
      intro s h
      simp only [List.foldl_cons] at h
      rcases ih _ h with h | ⟨e', h1, h2⟩
      · split at h
        · rename_i hb
          simp only [Nat.testBit_or, Bool.or_eq_true] at h
          rcases h with (h | h) | h
          · exact .inl h
          · refine .inr ⟨e, by simp, hb, .inl ?_⟩
            rw [Nat.testBit_two_pow] at h
            simpa using h
          · exact .inr ⟨e, by simp, hb, .inr h⟩
        · exact .inl h
      · exact .inr ⟨e', by simp [h1], h2⟩
  rcases go _ _ h with h | ⟨e, h1, h2⟩
  · simp at h
  · exact ⟨e, by simpa using h1, h2⟩

theorem masks_ord (ops : Array Oper) : ∀ (os : List Oper) (acc : List Nat), (∀ (k : Nat) (o : Oper), os[k]? = some o → ops[acc.length + k]? = some o) →
    (∀ j i, j < acc.length → (acc.getD j 0).testBit i = true → Ord ops i j) → ∀ j i, ((masksGo os acc).getD j 0).testBit i = true → Ord ops i j
  | [], acc, _, hacc, j, i, h => by
    rcases Nat.lt_or_ge j acc.length with hj | hj
    · exact hacc j i hj h
    · simp only [masksGo] at h
      rw [List.getD_eq_getElem?_getD, List.getElem?_eq_none hj] at h
      simp at h
  | o :: os, acc, hos, hacc, j, i, h => by
    refine masks_ord ops os (acc ++ [maskOf acc o]) (fun k o' hk => ?_) (fun j' i' hj' h' => ?_) j i h
    · have := hos (k + 1) o' (by simpa using hk)
      rw [List.length_append, List.length_singleton]
      rwa [show acc.length + (k + 1) = acc.length + 1 + k by omega] at this
    · simp only [List.length_append, List.length_singleton] at hj'
      by_cases hlt : j' < acc.length
      · rw [List.getD_eq_getElem?_getD, List.getElem?_append_left hlt, ← List.getD_eq_getElem?_getD] at h'
        exact hacc j' i' hlt h'
      · have hje : j' = acc.length := by omega
        subst hje
        rw [List.getD_eq_getElem?_getD, List.getElem?_append_right (Nat.le_refl _)] at h'
        simp only [Nat.sub_self, List.getElem?_cons_zero, Option.getD_some] at h'
        obtain ⟨e, he, hb, hh⟩ := maskOf_spec acc o i' h'
        intro L hC hL
        have ho := hos 0 o (by simp)
        simp only [Nat.add_zero] at ho
        have hLe := hC _ o ho hL e he hb
        rcases hh with rfl | hh
        · exact hLe
        · have hel : e.on < acc.length := by
            rcases Nat.lt_or_ge e.on acc.length with h | h
            · exact h
            · rw [List.getD_eq_getElem?_getD, List.getElem?_eq_none h] at hh; simp at hh
          exact hacc e.on i' hel hh L hC hLe

theorem okPairs_spec {cw : Bool} {ops : Array Oper} {m : List Nat} : ∀ (ys : List Oper) (k : Nat), okPairs P cw ops m ys k = true → ∀ (d : Nat) (y : Oper), ys[d]? = some y →
    (∀ (i : Nat) (x : Oper), i < k + d → ops[i]? = some x → okPair P cw ops m i (k + d) x y = true) ∧ ∀ e ∈ y.after, Region.binds .any e = true → e.on < k + d
  | [], k, h, d, y, hy => by simp at hy
  | z :: zs, k, h, d, y, hy => by
    simp only [okPairs, Bool.and_eq_true] at h
    obtain ⟨⟨h1, h2⟩, h3⟩ := h
    cases d with
    | zero =>
      simp only [List.getElem?_cons_zero, Option.some.injEq] at hy
      subst hy
      refine ⟨fun i x hi hx => ?_, fun e he hb => ?_⟩
      · have := List.all_eq_true.1 h1 i (List.mem_range.2 (by omega))
        simp only [hx] at this
        exact this
      · have := List.all_eq_true.1 h2 e (by simpa using he)
        simpa [hb] using this
    | succ d =>
      have := okPairs_spec zs (k + 1) h3 d y (by simpa using hy)
      rwa [show k + 1 + d = k + (d + 1) by omega] at this

theorem okRegion_spec {cw : Bool} {ops : Array Oper} (h : okRegion P cw ops = true) :
    (∀ (i : Nat) (o : Oper), ops[i]? = some o → ∀ e ∈ o.after, Region.binds .any e = true → e.on < i) ∧
    (∀ (i j : Nat) (x y : Oper), i < j → ops[i]? = some x → ops[j]? = some y → x.apart ops y = false → Ord ops i j) ∧
    (∀ (i j : Nat) (x y : Oper), i < j → ops[i]? = some x → ops[j]? = some y → (isWr cw x || isWr cw y) = true → pureOp P x.op = false → pureOp P y.op = false → Ord ops i j) := by
  have ord : ∀ j i, ((masksGo ops.toList []).getD j 0).testBit i = true → Ord ops i j := masks_ord ops ops.toList [] (fun k o hk => by simpa using hk) (fun j i hj => by simp at hj)
  have sp := fun (d : Nat) (y : Oper) (hy : ops[d]? = some y) => okPairs_spec ops.toList 0 h d y (by simpa using hy)
  refine ⟨fun i o ho e he hb => ?_, fun i j x y hij hx hy hap => ?_, fun i j x y hij hx hy hw hpx hpy => ?_⟩
  · have := (sp i o ho).2 e he hb; omega
  · have := (sp j y hy).1 i x (by omega) hx
    simp only [okPair, hap, Bool.false_or, Bool.and_eq_true, Nat.zero_add] at this
    exact ord j i this.1
  · have := (sp j y hy).1 i x (by omega) hx
    simp only [okPair, hw, hpx, hpy, Bool.not_false, Bool.and_true, Bool.not_true, Bool.false_or, Bool.and_eq_true, Nat.zero_add] at this
    exact ord j i this.2

theorem isWr_pure {cw : Bool} {o : Oper} (h : isWr cw o = true) : pureOp P o.op = false := by
  unfold isWr at h
  cases ho : o.op <;> simp only [ho] at h <;> first | rfl | cases h

/-! code -/
def okCode (P : Program) (n : Nat) : Code → Bool
  | .skip | .exit _ | .ret => true
  | .region _ ops draw => ops.toList.all (okOper n) && (!draw || okRegion P false ops || okRegion P true ops)
  | .seq a b => okCode P n a && okCode P n b
  | .cond c a b => okOperand c && okCode P n a && okCode P n b
  | .block _ c => okCode P n c
  | .loop c => okCode P n c
  | _ => false

def setb (τ : Tm) (c : Operand) (b : Bool) : Tm := match c with | .tmp t => upd τ t (.bool b) | _ => τ
def keep (ks : List Nat) (τ : Tm) : Tm := fun t => if t ∈ ks then τ t else none
/-- The floors of a region's operations. -/
def floOf (P : Program) (fl : Nat) (ops : Array Oper) (draw : Bool) : Oper → Hp → Nat := fun o A => if draw && !isWr (!okRegion P false ops) o then A.next else fl

def Hp.trunc (A : Hp) (n : Nat) : Hp := ⟨n, fun id => if id < n then A.blk id else none⟩

/-- A heap told more briefly: as it is, or without the blocks that are new since A0. -/
def Weak (A0 : Hp) (τ : Tm) (A B : Hp) : Prop :=
  B = A ∨ (B = A.trunc A0.next ∧ (∀ id, id < A0.next → ∀ cs g e, A.blk id = some (.row cs g e) → A0.blk id = some (.row cs g e) ∨ ∀ v ∈ cs, RB A0.next v) ∧ ∀ t v, τ t = some v → RB A0.next v)

variable (P G) in
def acode (fl : Nat) : Code → Tm → Hp → (Exit → Tm → Hp → Prop) → Prop
  | .skip, τ, A, K => K .normal τ A
  | .exit id, τ, A, K => K (.exit id) τ A
  | .ret, τ, A, K => K .ret τ A
  | .region _ ops draw, τ, A, K => aops P G (floOf P fl ops draw) ops.toList ops.toList τ A (K .normal)
  | .seq a b, τ, A, K => acode fl a τ A fun e τ A => match e with | .normal => acode fl b τ A K | e => K e τ A
  | .cond c x y, τ, A, K => ∃ b, ev τ c = some (.bool b) ∧ (b = true → acode fl x (setb τ c true) A K) ∧ (b = false → acode fl y (setb τ c false) A K)
  | .block id c, τ, A, K => acode fl c τ A fun e τ A => match e with | .exit i => if i = id then K .normal τ A else K (.exit i) τ A | e => K e τ A
  | .loop c, τ, A, K => ∃ (I : Tm → Hp → Prop) (m : Tm → Hp → Nat), I τ A ∧ ∀ τ A, I τ A → acode fl c τ A fun e τ' A' => match e with
      | .normal => ∃ σ B, (∀ t v, σ t = some v → τ' t = some v) ∧ Weak A σ A' B ∧ I σ B ∧ m σ B < m τ A
      | e => K e τ' A'
  | _, _, _, _ => False

theorem Trans.forget {fl n : Nat} {μ μ' : Mu} {A A' B : Hp} {w w' : World} {τ : Tm} {a : Act} (H0 : HR G μ fl A w) (hfl : fl ≤ A.next) (T : Trans fl μ A w μ' A' w') (H : HR G μ' fl A' w') (hτ : TR n μ' A' τ a) (hw : Weak A τ A' B) :
    ∃ ν, HR G ν fl B w' ∧ TR n ν B τ a ∧ Trans fl μ A w ν B w' := by
  rcases hw with rfl | ⟨rfl, hc, ht⟩
  · exact ⟨μ', H, hτ, T⟩
  · have hn := T.ext.next
    have hrb : ∀ id, id < A.next → ∀ cs g e, A'.blk id = some (.row cs g e) → ∀ v ∈ cs, RB A.next v := fun id hid cs g e hb v hv => by
      rcases hc id hid cs g e hb with h | h
      · exact H0.refs id cs g e h v hv
      · exact h v hv
    have hblk : ∀ id, id < A.next → (A'.trunc A.next).blk id = A'.blk id := fun id h => by simp only [Hp.trunc, if_pos h]
    have hsub : Sub (A'.trunc A.next) A' := ⟨hn, fun id hid => (hblk id hid).symm⟩
    have hrefs : ∀ id cs g e, (A'.trunc A.next).blk id = some (.row cs g e) → ∀ v ∈ cs, RB (A'.trunc A.next).next v := fun id cs g e hb => by
      by_cases h : id < A.next
      · rw [hblk id h] at hb; exact hrb id h cs g e hb
      · simp only [Hp.trunc, if_neg h] at hb; cases hb
    refine ⟨μ'.cut A.next, H.down hsub (fun id hid => by simp only [Hp.trunc, if_neg (show ¬ id < A.next from fun h => by simp only [Hp.trunc] at hid; omega)]) hrefs, ⟨hτ.size, hτ.defers, fun t v hv => ?_⟩, ?_⟩
    · exact (hτ.tmp t v hv).down (B := A'.trunc A.next) (fun id hid => hsub.blk id hid) (fun id hid => Mu.cut_lt _ hid) (ht t v hv)
    · refine ⟨T.os, T.tape, T.output, T.size, ⟨Nat.le_refl _, fun id hid cs g e hb => ?_⟩, fun id hid => ?_, fun id hid hm => ?_, T.frame, fun b ⟨id, o, S, hf, hb, hm⟩ => ?_⟩
      · rw [hblk id hid] at hb
        obtain ⟨c0, g0, e0, h1, h2⟩ := T.ext.row id hid cs g e hb
        refine ⟨c0, g0, e0, h1, ?_⟩
        rcases h2 with ⟨h3, h4, h5⟩ | h2
        · exact .inl ⟨h3, h4, fun p hp => by rw [Mu.cut_lt _ hid]; exact h5 p hp⟩
        · exact .inr h2
      · rw [hblk id (by omega), Mu.cut_lt _ (by omega)]; exact T.low id hid
      · rw [Mu.cut_lt _ hid]; exact T.dom id hid hm
      · by_cases h : id < A.next
        · rw [hblk id h] at hb; rw [Mu.cut_lt _ h] at hm
          exact T.own b ⟨id, o, S, hf, hb, hm⟩
        · rw [Mu.cut_low _ _ id (by omega)] at hm; cases hm

theorem TR.keep {n : Nat} {μ : Mu} {A : Hp} {τ σ : Tm} {a : Act} (h : TR n μ A τ a) (hs : ∀ t v, σ t = some v → τ t = some v) : TR n μ A σ a :=
  ⟨h.size, h.defers, fun t v hv => h.tmp t v (hs t v hv)⟩

theorem TR.setb {n : Nat} {μ : Mu} {A : Hp} {τ : Tm} {a : Act} (h : TR n μ A τ a) {c : Operand} {b : Bool} (hc : ev τ c = some (.bool b)) : TR n μ A (setb τ c b) a := by
  cases c with
  | tmp t =>
    have : Ab.setb τ (.tmp t) b = τ := upd_same hc
    rw [this]; exact h
  | _ => exact h

/-- The code of the abstract machine is sound. -/
theorem acode_sound {n fl : Nat} (hmx : P.follows .mixedOrders = true) : ∀ (c : Code), okCode P n c = true → ∀ {τ : Tm} {A : Hp} {K : Exit → Tm → Hp → Prop} {μ : Mu} {a : Act} {w : World} {Q : Exit → Act → World → Prop},
    acode P G fl c τ A K → TR n μ A τ a → HR G μ fl A w → fl ≤ A.next →
    (∀ e τ' A' μ' a' w', K e τ' A' → TR n μ' A' τ' a' → HR G μ' fl A' w' → Trans fl μ A w μ' A' w' → Q e a' w') → c.wp P Q a w
  | .skip, _, τ, A, K, μ, a, w, Q, h, T, H, hfl, hQ => wp_skip (hQ _ _ _ _ _ _ h T H (Trans.refl _ _ _ _))
  | .exit id, _, τ, A, K, μ, a, w, Q, h, T, H, hfl, hQ => wp_exit (hQ _ _ _ _ _ _ h T H (Trans.refl _ _ _ _))
  | .ret, _, τ, A, K, μ, a, w, Q, h, T, H, hfl, hQ => wp_ret (hQ _ _ _ _ _ _ h T H (Trans.refl _ _ _ _))
  | .region id ops draw, hok, τ, A, K, μ, a, w, Q, h, T, H, hfl, hQ => by
    simp only [okCode, Bool.and_eq_true] at hok
    simp only [acode] at h
    obtain ⟨S, hS0, hK, hst⟩ := aops_trace _ _ _ h
    have hops : ∀ (i : Nat) (o : Oper), ops[i]? = some o → okOper n o = true := fun i o ho => List.all_eq_true.1 hok.1 o (by simpa using Array.mem_of_getElem? ho)
    have hst' : ∀ (i : Nat) (o : Oper), ops[i]? = some o → StepAt P G ops.toList (floOf P fl ops draw o (S i).2) o (S i) (S (i + 1)) := fun i o ho => hst i o (by simpa using ho)
    rw [Array.length_toList] at hK
    have T0 : TR n μ (S 0).2 (S 0).1 a := by rw [hS0]; exact T
    have H0 : HR G μ fl (S 0).2 w := by rw [hS0]; exact H
    have h0 : fl ≤ (S 0).2.next := by rw [hS0]; exact hfl
    have hend : ∀ μ' a' w', TR n μ' (S ops.size).2 (S ops.size).1 a' → HR G μ' fl (S ops.size).2 w' → Trans fl μ (S 0).2 w μ' (S ops.size).2 w' → Q .normal a' w' := fun μ' a' w' h1 h2 h3 =>
      hQ _ _ _ μ' a' w' hK h1 h2 (by rw [hS0] at h3; exact h3)
    cases draw with
    | false =>
      refine wp_region ?_
      rw [List.range_eq_range']
      exact seq_sound hops (fun i o ho => by have := hst' i o ho; simpa [floOf] using this) ops.size 0 μ a w (by omega) T0 H0 h0 hend
    | true =>
      have hreg : okRegion P (!okRegion P false ops) ops = true := by
        have := hok.2
        cases hf : okRegion P false ops with
        | true => simpa using hf
        | false => simpa [hf] using this
      obtain ⟨p1, p2, p3⟩ := okRegion_spec hreg
      refine draw_sound (S := S) (isW := isWr (!okRegion P false ops)) hmx ⟨hops, fun i o ho => ?_, p1, p2, p3, fun o ho => isWr_pure ho⟩ T0 H0 h0 hend
      have := hst' i o ho
      simp only [floOf, Bool.true_and] at this
      cases hw : isWr (!okRegion P false ops) o <;> simpa [hw] using this
  | .seq x y, hok, τ, A, K, μ, a, w, Q, h, T, H, hfl, hQ => by
    simp only [okCode, Bool.and_eq_true] at hok
    simp only [acode] at h
    refine wp_seq (acode_sound hmx x hok.1 h T H hfl fun e τ' A' μ' a' w' hK T' H' Tr' => ?_)
    have hfl' : fl ≤ A'.next := Nat.le_trans hfl Tr'.ext.next
    cases e with
    | normal => exact acode_sound hmx y hok.2 hK T' H' hfl' fun e τ2 A2 μ2 a2 w2 hK2 T2 H2 Tr2 => hQ e τ2 A2 μ2 a2 w2 hK2 T2 H2 (Tr'.trans Tr2)
    | exit id => exact hQ _ _ _ _ _ _ hK T' H' Tr'
    | goto l => exact hQ _ _ _ _ _ _ hK T' H' Tr'
    | ret => exact hQ _ _ _ _ _ _ hK T' H' Tr'
    | panic ch => exact hQ _ _ _ _ _ _ hK T' H' Tr'
    | outgrown => exact hQ _ _ _ _ _ _ hK T' H' Tr'
  | .cond c x y, hok, τ, A, K, μ, a, w, Q, h, T, H, hfl, hQ => by
    simp only [okCode, Bool.and_eq_true] at hok
    simp only [acode] at h
    obtain ⟨b, hb, h1, h2⟩ := h
    have hcv := (T.eval hok.1.1 hb).bool_inv
    cases b with
    | true => exact wp_cond hcv (acode_sound hmx x hok.1.2 (h1 rfl) (T.setb hb) H hfl hQ)
    | false => exact wp_cond hcv (acode_sound hmx y hok.2 (h2 rfl) (T.setb hb) H hfl hQ)
  | .block id c, hok, τ, A, K, μ, a, w, Q, h, T, H, hfl, hQ => by
    simp only [okCode] at hok
    simp only [acode] at h
    refine wp_block (acode_sound hmx c hok h T H hfl fun e τ' A' μ' a' w' hK T' H' Tr' => ?_)
    cases e with
    | exit i =>
      simp only [Exit.inBlock]
      simp only at hK
      split
      · rename_i hi; rw [if_pos hi] at hK; exact hQ _ _ _ _ _ _ hK T' H' Tr'
      · rename_i hi; rw [if_neg hi] at hK; exact hQ _ _ _ _ _ _ hK T' H' Tr'
    | normal => exact hQ _ _ _ _ _ _ hK T' H' Tr'
    | goto l => exact hQ _ _ _ _ _ _ hK T' H' Tr'
    | ret => exact hQ _ _ _ _ _ _ hK T' H' Tr'
    | panic ch => exact hQ _ _ _ _ _ _ hK T' H' Tr'
    | outgrown => exact hQ _ _ _ _ _ _ hK T' H' Tr'
  | .loop c, hok, τ, A, K, μ, a, w, Q, h, T, H, hfl, hQ => by
    simp only [okCode] at hok
    simp only [acode] at h
    obtain ⟨I, m, hI, hround⟩ := h
    refine wp_loop_ghost (fun k a' w' => ∃ τ' A' μ', I τ' A' ∧ TR n μ' A' τ' a' ∧ HR G μ' fl A' w' ∧ Trans fl μ A w μ' A' w' ∧ m τ' A' = k) (m τ A) ⟨τ, A, μ, hI, T, H, Trans.refl _ _ _ _, rfl⟩ ?_
    rintro k a1 w1 ⟨τ1, A1, μ1, hI1, T1, H1, Tr1, rfl⟩
    have hfl1 : fl ≤ A1.next := Nat.le_trans hfl Tr1.ext.next
    refine acode_sound hmx c hok (hround τ1 A1 hI1) T1 H1 hfl1 fun e τ' A' μ' a' w' hK T' H' Tr' => ?_
    cases e with
    | normal =>
      obtain ⟨σ, B, hs, hw, hI2, hm⟩ := hK
      obtain ⟨ν, HB, TB, TrB⟩ := Trans.forget H1 hfl1 Tr' H' (T'.keep hs) hw
      exact ⟨_, hm, _, _, ν, hI2, TB, HB, Tr1.trans TrB, rfl⟩
    | exit id => exact hQ _ _ _ _ _ _ hK T' H' (Tr1.trans Tr')
    | goto l => exact hQ _ _ _ _ _ _ hK T' H' (Tr1.trans Tr')
    | ret => exact hQ _ _ _ _ _ _ hK T' H' (Tr1.trans Tr')
    | panic ch => exact hQ _ _ _ _ _ _ hK T' H' (Tr1.trans Tr')
    | outgrown => exact hQ _ _ _ _ _ _ hK T' H' (Tr1.trans Tr')

end
end Go.Proofs.YtpaffoiiipgkeaaDoor.Ab
