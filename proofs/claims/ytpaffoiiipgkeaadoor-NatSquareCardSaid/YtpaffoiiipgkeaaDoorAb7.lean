/- Each operation of the abstract machine is sound: new rows, conversions, slices, append, calls; and all of them in one theorem. -/
import Derived.Test.YtpaffoiiipgkeaaDoorAb6
import Derived.Laws.MakeOwn
import Derived.Laws.IdiomStrings
namespace Go.Proofs.YtpaffoiiipgkeaaDoor.Ab
open Go.RowKit
set_option linter.unusedVariables false
set_option linter.unusedSimpArgs false

section
variable {P : Program} {G : Gl} {fl : Nat} {τ : Tm} {A : Hp} {o : Oper}

theorem VR.of_zc {μ : Mu} {A : Hp} {v : Value} (h : zc v = true) : VR μ A v v := by
  cases v with
  | bool b => exact .bool b
  | int k n => exact .int k n
  | float k n => exact .float k n
  | string s => exact .string s
  | pointer a => cases a with | none => exact .ptr0 | some a => simp [zc] at h
  | slice a n c => cases a with | none => exact .sl0 n c | some a => simp [zc] at h
  | map r => cases r with | none => exact .map0 | some a => simp [zc] at h
  | nilFunc => exact .nilFunc
  | nilIface => exact .nilIface
  | _ => simp [zc] at h

theorem zl_zc {zero : List Value} (h : zero.all zc = true) (n : Nat) : ∀ v ∈ zl zero n, zc v = true := by
  intro v hv
  simp only [zl, List.mem_map] at hv
  obtain ⟨j, _, rfl⟩ := hv
  rw [List.getD_eq_getElem?_getD]
  cases hx : zero[j % zero.length]? with
  | none => rfl
  | some u => exact List.all_eq_true.1 h u (List.mem_of_getElem? hx)

theorem madeCells_zl (z : Array Value) (n : Nat) : (madeCells z n).toList = zl z.toList n := by
  simp only [madeCells, zl, Array.toList_map, Array.toList_range, Array.length_toList]
  congr 1
  funext j
  rw [List.getD_eq_getElem?_getD, Array.getElem?_toList]
  simp [Array.getElem!_eq_getD, Array.getD_eq_getD_getElem?]

theorem self_rel {μ : Mu} {A : Hp} {l : List Value} (h : ∀ v ∈ l, zc v = true) : VRa μ A l.toArray l.toArray :=
  ⟨rfl, fun i hi hi' => VR.of_zc (h _ (List.getElem_mem _))⟩

theorem ok_buildSlice {t : TypeId} {len : Nat} {ps : Array (Nat × Operand)} (ho : o.op = .buildSlice t len ps) {T : Ty} (hT : tyOf P t = some T) {e : TypeId} {E : Ty} (hd : T.d = .sl e) (hE : tyOf P e = some E)
    (hz : E.zero.all zc = true) (h24 : len * E.size ≤ 16777216) {pvs : List (Nat × Value)}
    (hp : ∀ (μ : Mu) (A : Hp) (ρ : Operand → Value), (∀ x ∈ ps.toList.map (·.2), ∀ u, ev τ x = some u → VR μ A u (ρ x)) → PR μ A pvs (ps.toList.map fun p => (p.1, ρ p.2)))
    {cs : List Value} (hb : buildL (fun i => some (i * E.size, E.size)) (zl E.zero (len * E.size)) pvs = some cs) :
    OpOK P G o fl τ A (.slice (some ⟨A.next, 0, some 0⟩) len len) (A.push (.row cs 0 E.size)) := by
  obtain ⟨inf, d, z, hi, hund, hz', rfl⟩ := tyOf_inv hT
  obtain ⟨ie, de, ze, hie, hde, hze, rfl⟩ := tyOf_inv hE
  have hd' := td_sl hd; subst hd'
  simp only at hb hz h24
  have hlen : ∀ (ps : List (Nat × Value)) (pl : Nat → Option (Nat × Nat)) (xs ys : List Value), buildL pl xs ps = some ys → ys.length = xs.length := by
    intro ps
    induction ps with
    | nil => intro pl xs ys h; simp only [buildL, Option.some.injEq] at h; rw [h]
    | cons p ps ih =>
      intro pl xs ys h
      obtain ⟨i, v⟩ := p
      simp only [buildL] at h
      split at h
      · cases h
      · split at h
        · rw [ih _ _ _ h, wr_length]
        · cases h
  refine .make (n := len) (c := len) (.inr ⟨rfl, Nat.le_refl _⟩) fun μ w a H hop => ?_
  have hpr := hp μ A a.eval fun x hx => hop x (by simpa [ho, Op.operands] using hx)
  have hmc : ((Array.range (len * ie.size)).map fun x => (if len * ie.size = 0 then #[] else ze.cells)[x % (if len * ie.size = 0 then #[] else ze.cells).size]!) = madeCells ze.cells (len * ie.size) := by
    by_cases h0 : len * ie.size = 0
    · simp [h0, madeCells]
    · simp [h0, madeCells]
  have hrel : VRa μ A (zl ze.cells.toList (len * ie.size)).toArray (madeCells ze.cells (len * ie.size)) := by
    have h0 := self_rel (μ := μ) (A := A) (zl_zc hz (len * ie.size))
    have e1 : (zl ze.cells.toList (len * ie.size)).toArray = madeCells ze.cells (len * ie.size) := by rw [← madeCells_zl]
    rw [e1] at h0 ⊢
    exact h0
  obtain ⟨rs', h1, h2⟩ := fill_rel _ _ _ _ _ _ hpr hrel hb
  have hsz : cs.length = rs'.size := by have := h2.1; simpa using this
  have hcl : cs.length = len * ie.size := by rw [hlen _ _ _ _ hb]; simp [zl]
  refine ⟨rs', e, (0, 0), w.alloc (.cells rs' e (0, 0)), len, by omega, fun j u hj => h2.get (by simpa using hj), by simp, rfl, rfl, rfl, rfl, Nat.le_refl _, by simp only; omega, ?_⟩
  have hfill : Instr.fill (fun i => some (i * ie.size, ie.size)) (madeCells ze.cells (len * ie.size)) (ps.map fun x => (x.1, a.eval x.2)).toList = some rs' := by
    rw [← h1, Array.toList_map]
  have hnot : ¬ (len * ie.size > 2 ^ 24) := by omega
  by_cases h0 : len * ie.size = 0
  · simp only [if_pos h0] at hmc
    simp [execOp, ho, Instr.buildSlice, run_underlying hund, run_sizeOf' hie, h0, newRow]
    rw [h0] at hfill
    have hm2 : (madeCells ze.cells 0) = #[] := by simp [madeCells]
    rw [hm2] at hfill
    rw [Array.toList_map] at hfill
    have hr0 : Array.map (fun x : Nat => (default : Value)) (Array.range 0) = #[] := by simp
    rw [hr0, hfill]
    simp
  · simp only [if_neg h0] at hmc
    have hn2 : ¬ (16777216 < len * ie.size) := by omega
    rw [Array.toList_map] at hfill
    simp [execOp, ho, Instr.buildSlice, run_underlying hund, run_sizeOf' hie, h0, hn2, run_zero' hie hze, newRow, hmc, hfill]

theorem ok_makeSlice {t : TypeId} {x y : Operand} (ho : o.op = .makeSlice t x y) {T : Ty} (hT : tyOf P t = some T) {e : TypeId} {E : Ty} (hd : T.d = .sl e) (hE : tyOf P e = some E)
    (hz : E.zero.all zc = true) {k k' : IntKind} {l c : Int} (hx : ev τ x = some (.int k l)) (hy : ev τ y = some (.int k' c)) (h0 : 0 ≤ l) (hlc : l ≤ c) (hbytes : (E.bytes : Int) * c ≤ 281474976710656) (h63 : c ≤ 9223372036854775807) :
    OpOK P G o fl τ A (.slice (some ⟨A.next, 0, some 0⟩) l.toNat c.toNat) (A.push (.row (zl E.zero (c.toNat * E.size)) 0 E.size)) := by
  obtain ⟨inf, d, z, hi, hund, hz', rfl⟩ := tyOf_inv hT
  obtain ⟨ie, de, ze, hie, hde, hze, rfl⟩ := tyOf_inv hE
  have hd' := td_sl hd; subst hd'
  simp only at hbytes hz
  refine .make (n := l.toNat) (c := c.toNat) (.inr ⟨rfl, by omega⟩) fun μ w a H hop => ?_
  have h1 := (hop x (by simp [ho, Op.operands]) _ hx).int_inv
  have h2 := (hop y (by simp [ho, Op.operands]) _ hy).int_inv
  have hr := run_make (P := P) w t e ie ze hund hie hze k k' l c h0 hlc hbytes h63
  have hrel := self_rel (μ := μ) (A := A) (zl_zc hz (c.toNat * ie.size))
  refine ⟨madeCells ze.cells (c.toNat * ie.size), e, (0, 0), w.alloc (.cells (madeCells ze.cells (c.toNat * ie.size)) e), c.toNat, by simp [zl, size_madeCells], fun j u hj => ?_, by simp, rfl, rfl, rfl, rfl, Nat.le_refl _, by simp [size_madeCells], ?_⟩
  · refine ⟨u, ?_, VR.of_zc (zl_zc hz _ u (List.mem_of_getElem? hj))⟩
    rw [← Array.getElem?_toList, madeCells_zl]; exact hj
  · simp only [execOp, ho, h1, h2, Sem.run_bind, hr, Result.andThen_ok, Sem.run_pure]

theorem ok_makeFunc {f : FuncId} {xs ys : Array Operand} (ho : o.op = .makeFunc (.func f) xs ys) {us vs : List Value}
    (hu : ∀ (μ : Mu) (A : Hp) (ρ : Operand → Value), (∀ x ∈ xs.toList, ∀ u, ev τ x = some u → VR μ A u (ρ x)) → VRa μ A us.toArray (xs.toList.map ρ).toArray)
    (hv : ∀ (μ : Mu) (A : Hp) (ρ : Operand → Value), (∀ x ∈ ys.toList, ∀ u, ev τ x = some u → VR μ A u (ρ x)) → VRa μ A vs.toArray (ys.toList.map ρ).toArray) :
    OpOK P G o fl τ A (.func (.func f) us.toArray vs.toArray) A :=
  .same fun μ w a H hop => by
    have h1 := hu μ A a.eval fun x hx => hop x (by simp [ho, Op.operands]; exact .inl (by simpa using hx))
    have h2 := hv μ A a.eval fun x hx => hop x (by simp [ho, Op.operands]; exact .inr (by simpa using hx))
    refine ⟨.func (.func f) (xs.map a.eval) (ys.map a.eval), by simp [execOp, ho, Instr.makeFunc], .func _ ?_ ?_ ?_ ?_⟩
    · have := h1.1; simpa using this
    · intro i hi hi'; have := h1.2 i hi (by simpa using hi'); simpa using this
    · have := h2.1; simpa using this
    · intro i hi hi'; have := h2.2 i hi (by simpa using hi'); simpa using this

/-! conversions -/
theorem ok_conv_int {s d : TypeId} {x : Operand} (ho : o.op = .convert s d x) {S D : Ty} (hS : tyOf P s = some S) (hD : tyOf P d = some D) {k k' : IntKind} {n : Int} (hd : D.d = .int k) (hx : ev τ x = some (.int k' n)) :
    OpOK P G o fl τ A (.int k (k.wrap n)) A :=
  .same fun μ w a H hop => by
    obtain ⟨i1, d1, z1, hi1, hu1, _, rfl⟩ := tyOf_inv hS
    obtain ⟨i2, d2, z2, hi2, hu2, _, rfl⟩ := tyOf_inv hD
    have hd' := td_int hd; subst hd'
    have h := (hop x (by simp [ho, Op.operands]) _ hx).int_inv
    exact ⟨_, by simp [execOp, ho, h, convert, run_underlying hu1, run_underlying hu2, Conv.intToInt], .int _ _⟩

theorem ok_conv_str {s d : TypeId} {x : Operand} (ho : o.op = .convert s d x) {S D : Ty} (hS : tyOf P s = some S) (hD : tyOf P d = some D) {b : ByteArray} (hd : D.d = .str) (hx : ev τ x = some (.string b)) :
    OpOK P G o fl τ A (.string b) A :=
  .same fun μ w a H hop => by
    obtain ⟨i1, d1, z1, hi1, hu1, _, rfl⟩ := tyOf_inv hS
    obtain ⟨i2, d2, z2, hi2, hu2, _, rfl⟩ := tyOf_inv hD
    have hd' := td_str hd; subst hd'
    have h := (hop x (by simp [ho, Op.operands]) _ hx).string_inv
    exact ⟨_, by simp [execOp, ho, h, convert, run_underlying hu1, run_underlying hu2], .string _⟩

theorem ok_conv_bytes {s d : TypeId} {x : Operand} (ho : o.op = .convert s d x) {S D : Ty} (hS : tyOf P s = some S) (hD : tyOf P d = some D) {e : TypeId} {E : Ty} {b : ByteArray} (hs : S.d = .str) (hd : D.d = .sl e) (hE : tyOf P e = some E) (he : E.d = .int .u8) (hx : ev τ x = some (.string b)) :
    OpOK P G o fl τ A (.slice (some ⟨A.next, 0, some 0⟩) b.size b.size) (A.push (.row (b.data.toList.map fun c => Value.int .u8 (c.toNat : Int)) 0 1)) := by
  obtain ⟨i1, d1, z1, hi1, hu1, _, rfl⟩ := tyOf_inv hS
  obtain ⟨i2, d2, z2, hi2, hu2, _, rfl⟩ := tyOf_inv hD
  obtain ⟨i3, d3, z3, hi3, hu3, _, rfl⟩ := tyOf_inv hE
  have hs' := td_str hs; subst hs'
  have hd' := td_sl hd; subst hd'
  have he' := td_int he; subst he'
  refine .make (n := b.size) (c := b.size) (.inr ⟨rfl, Nat.le_refl _⟩) fun μ w a H hop => ?_
  have h := (hop x (by simp [ho, Op.operands]) _ hx).string_inv
  have hr := run_bytes_of_string (P := P) w s d e b hu1 hu2 hu3
  have hge := grownCap_ge w b.size 0 e
  have hsz : (bytesRow b (grownCap w b.size 0 e)).size = grownCap w b.size 0 e := by
    simp only [bytesRow, Array.size_append, Array.size_map, Array.size_replicate]
    have : b.data.size = b.size := rfl
    omega
  refine ⟨bytesRow b (grownCap w b.size 0 e), e, ((bytesRow b (grownCap w b.size 0 e)).size, (bytesRow b (grownCap w b.size 0 e)).size + 1), w.drew.alloc (.cells (bytesRow b (grownCap w b.size 0 e)) e ((bytesRow b (grownCap w b.size 0 e)).size, (bytesRow b (grownCap w b.size 0 e)).size + 1)), grownCap w b.size 0 e, ?_, fun j u hj => ?_, fun j hj => ?_, rfl, rfl, rfl, rfl, hge, ?_, ?_⟩
  · simp only [List.length_map, Array.length_toList, hsz]
    exact hge
  · refine ⟨u, ?_, ?_⟩
    · have hjl : j < b.data.size := by have := (List.getElem?_eq_some_iff.1 hj).1; simpa using this
      rw [bytesRow_at _ _ _ hjl]
      simp only [List.getElem?_map, Array.getElem?_toList, Array.getElem?_eq_getElem hjl, Option.map_some] at hj
      exact hj
    · simp only [List.getElem?_map] at hj
      cases hq : b.data.toList[j]? with
      | none => simp [hq] at hj
      | some q => simp only [hq, Option.map_some, Option.some.injEq] at hj; subst hj; exact .int _ _
  · exact fun hh => by have := hh.1; simp only at this; omega
  · rw [hsz]; omega
  · simp only [execOp, ho, h, Sem.run_bind, hr, Result.andThen_ok, Sem.run_pure]

theorem ok_conv_back {s d : TypeId} {x : Operand} (ho : o.op = .convert s d x) {S D : Ty} (hS : tyOf P s = some S) (hD : tyOf P d = some D) {e : TypeId} {E : Ty} (hs : S.d = .sl e) (hd : D.d = .str) (hE : tyOf P e = some E) (he : E.d = .int .u8)
    {a : Addr} {n c : Nat} {l : List UInt8} (hx : ev τ x = some (.slice (some a) n c)) (hsp : a.spot ≠ none) (hl : l.length = n) (hc : ∀ (j : Nat) (u : UInt8), l[j]? = some u → A.get G (aadd a j) = some (.int .u8 (u.toNat : Int))) :
    OpOK P G o fl τ A (.string ⟨l.toArray⟩) A :=
  .same fun μ w ac H hop => by
    obtain ⟨i1, d1, z1, hi1, hu1, _, rfl⟩ := tyOf_inv hS
    obtain ⟨i2, d2, z2, hi2, hu2, _, rfl⟩ := tyOf_inv hD
    obtain ⟨i3, d3, z3, hi3, hu3, _, rfl⟩ := tyOf_inv hE
    have hs' := td_sl hs; subst hs'
    have hd' := td_str hd; subst hd'
    have he' := td_int he; subst he'
    have h := hop x (by simp [ho, Op.operands]) _ hx
    cases hxe : ac.eval x with
    | slice a' n' c' =>
      rw [hxe] at h
      cases h with
      | @sl _ a' _ _ _ hlt hcc hn hl' =>
        refine ⟨_, ?_, .string _⟩
        have har : n ≠ 0 → AR μ A a a' := fun hn0 => by
          obtain ⟨g', hg', hl'⟩ := hl'
          refine .inr ⟨hlt, g', hg', fun cs g e hb => ⟨(hl' cs g e hb).1, fun hgg => ?_⟩⟩
          obtain ⟨b, o, S, hm, hh⟩ := (hl' cs g e hb).2 hgg
          exact ⟨b, o, S, hm, (hh (by omega)).1⟩
        have hr := run_convert_bytes_back (P := P) w s d e a' c' l hu1 hu3 hu2 (fun j hj => by
          obtain ⟨v', h1, h2⟩ := H.get ((har (by omega)).add j) (hc j _ (List.getElem?_eq_getElem hj))
          rw [h1, h2.int_inv])
        rw [hl] at hr
        simp only [execOp, ho, hxe, Sem.run_bind, hr, Result.andThen_ok, Sem.run_pure]
    | _ => rw [hxe] at h; cases h

theorem ok_conv_back_nil {s d : TypeId} {x : Operand} (ho : o.op = .convert s d x) {S D : Ty} (hS : tyOf P s = some S) (hD : tyOf P d = some D) {e : TypeId} {E : Ty} (hs : S.d = .sl e) (hd : D.d = .str) (hE : tyOf P e = some E) (he : E.d = .int .u8)
    {n c : Nat} (hx : ev τ x = some (.slice none n c)) : OpOK P G o fl τ A (.string ByteArray.empty) A :=
  .same fun μ w ac H hop => by
    obtain ⟨i1, d1, z1, hi1, hu1, _, rfl⟩ := tyOf_inv hS
    obtain ⟨i2, d2, z2, hi2, hu2, _, rfl⟩ := tyOf_inv hD
    obtain ⟨i3, d3, z3, hi3, hu3, _, rfl⟩ := tyOf_inv hE
    have hs' := td_sl hs; subst hs'
    have hd' := td_str hd; subst hd'
    have he' := td_int he; subst he'
    have h := (hop x (by simp [ho, Op.operands]) _ hx).sl0_inv
    exact ⟨_, by simp [execOp, ho, h, convert, run_underlying hu1, run_underlying hu2, run_underlying hu3, Conv.bytesToString], .string _⟩

end
end Go.Proofs.YtpaffoiiipgkeaaDoor.Ab
