/- Each operation of the abstract machine is sound: the operations that leave the world alone, and those that make, read and write rows. -/
import Derived.Test.YtpaffoiiipgkeaaDoorAb4
namespace Go.Proofs.YtpaffoiiipgkeaaDoor.Ab
open Go.RowKit
set_option linter.unusedVariables false
set_option linter.unusedSimpArgs false

section
variable {P : Program} {G : Gl} {fl : Nat} {τ : Tm} {A : Hp} {o : Oper}

theorem ok_move {x : Operand} (ho : o.op = .move x) {v : Value} (hv : ev τ x = some v) : OpOK P G o fl τ A v A :=
  .same fun μ w a H hop => ⟨a.eval x, by simp [execOp, ho], hop x (by simp [ho, Op.operands]) v hv⟩

theorem ok_assign {x : Operand} (ho : o.op = .assign x) {v : Value} (hv : ev τ x = some v) : OpOK P G o fl τ A v A :=
  .same fun μ w a H hop => ⟨a.eval x, by simp [execOp, ho], hop x (by simp [ho, Op.operands]) v hv⟩

theorem VR.bool_inv {μ : Mu} {A : Hp} {b : Bool} {v : Value} (h : VR μ A (.bool b) v) : v = .bool b := by cases h; rfl
theorem VR.int_inv {μ : Mu} {A : Hp} {k : IntKind} {n : Int} {v : Value} (h : VR μ A (.int k n) v) : v = .int k n := by cases h; rfl
theorem VR.string_inv {μ : Mu} {A : Hp} {s : ByteArray} {v : Value} (h : VR μ A (.string s) v) : v = .string s := by cases h; rfl
theorem VR.ptr_inv {μ : Mu} {A : Hp} {p : Addr} {v : Value} (h : VR μ A (.pointer (some p)) v) : ∃ p', v = .pointer (some p') ∧ AR μ A p p' := by cases h; exact ⟨_, rfl, ‹_›⟩
theorem VR.agg_inv {μ : Mu} {A : Hp} {cs : Array Value} {v : Value} (h : VR μ A (.agg cs) v) : ∃ ds, v = .agg ds ∧ VRa μ A cs ds := by cases h; exact ⟨_, rfl, ‹_›, ‹_›⟩
theorem VR.tuple_inv {μ : Mu} {A : Hp} {cs : Array Value} {v : Value} (h : VR μ A (.tuple cs) v) : ∃ ds, v = .tuple ds ∧ VRa μ A cs ds := by cases h; exact ⟨_, rfl, ‹_›, ‹_›⟩
theorem VR.sl0_inv {μ : Mu} {A : Hp} {n c : Nat} {v : Value} (h : VR μ A (.slice none n c) v) : v = .slice none n c := by cases h; rfl

theorem ok_pick {c x y : Operand} (ho : o.op = .pick c x y) {b : Bool} {v : Value} (hc : ev τ c = some (.bool b)) (hv : ev τ (if b then x else y) = some v) : OpOK P G o fl τ A v A :=
  .same fun μ w a H hop => by
    have h1 := (hop c (by simp [ho, Op.operands]) _ hc).bool_inv
    have h2 := hop (if b then x else y) (by cases b <;> simp [ho, Op.operands]) v hv
    refine ⟨_, ?_, h2⟩
    cases b <;> simp [execOp, ho, h1, asBool]

theorem ok_alloc {t : TypeId} (ho : o.op = .alloc t) {T : Ty} (hT : tyOf P t = some T) (hz : ∀ (μ : Mu) (A : Hp), ∀ u ∈ T.zero, VR μ A u u) :
    OpOK P G o fl τ A (.pointer (some ⟨A.next, 0, some 0⟩)) (A.push (.row T.zero 0 T.esz)) := by
  obtain ⟨i, d, z, hi, hd, hz', rfl⟩ := tyOf_inv hT
  refine .make (n := 0) (c := 0) (.inl rfl) fun μ w a H hop => ⟨z.cells, t, (0, 0), w.alloc (.cells z.cells t (0, 0)), 0, by simp, fun j u hj => ?_, by simp, rfl, rfl, rfl, rfl, by simp, by simp, ?_⟩
  · refine ⟨u, by simpa using hj, hz μ A u ?_⟩
    exact List.mem_of_getElem? hj
  · simp [execOp, ho, Instr.alloc, run_zero' hi hz', newVar, newRow]

theorem ok_box {t : TypeId} {x : Operand} (ho : o.op = .box t x) {e : Nat} {v : Value} (hv : ev τ x = some v) :
    OpOK P G o fl τ A (.pointer (some ⟨A.next, 0, some 0⟩)) (A.push (.row v.cells.toList 0 e)) := by
  refine .make (n := 0) (c := 0) (.inl rfl) fun μ w a H hop => ?_
  obtain ⟨h1, h2⟩ := (hop x (by simp [ho, Op.operands]) v hv).cells
  refine ⟨(a.eval x).cells, t, (0, 0), w.alloc (.cells (a.eval x).cells t (0, 0)), 0, by simp [h1], fun j u hj => h2 j u (by simpa using hj), by simp, rfl, rfl, rfl, rfl, by simp, by simp, ?_⟩
  simp [execOp, ho, Instr.box, newVar, newRow]

theorem ok_load_agg {t : TypeId} {x : Operand} (ho : o.op = .load t x) {p : Addr} (hp : ev τ x = some (.pointer (some p))) {T : Ty} (hT : tyOf P t = some T) (hagg : T.agg = true)
    {vs : List Value} (hl : vs.length = T.size) (hg : ∀ (j : Nat) (v : Value), vs[j]? = some v → A.get G (aadd p j) = some v) : OpOK P G o fl τ A (.agg vs.toArray) A :=
  .same fun μ w a H hop => by
    obtain ⟨i, d, z, hi, hd, hz', rfl⟩ := tyOf_inv hT
    obtain ⟨p', hp', har⟩ := (hop x (by simp [ho, Op.operands]) _ hp).ptr_inv
    obtain ⟨vs', h1, h2, h3⟩ := loads H har vs hg
    have hl' : (loadCells p' i.size).run P w = .ok vs'.toArray w := by
      simp only at hl
      rw [← hl, h1]
      exact run_loadCells_list w p' vs' h2
    have hagg' : aggB P t = true := hagg
    refine ⟨.agg vs'.toArray, ?_, .agg (by simp [h1]) fun j hj hj' => ?_⟩
    · simp [execOp, ho, hp', Instr.loadAt, Instr.sureAddr, loadVar, run_isAgg' hd, hagg', run_sizeOf' hi, hl']
    · obtain ⟨v', h5, h6⟩ := h3 j _ (List.getElem?_eq_getElem (by simpa using hj))
      rw [List.getElem?_eq_getElem (by simpa using hj')] at h5
      cases h5
      simpa using h6

theorem ok_load_one {t : TypeId} {x : Operand} (ho : o.op = .load t x) {p : Addr} (hp : ev τ x = some (.pointer (some p))) {T : Ty} (hT : tyOf P t = some T) (hagg : T.agg = false)
    {v : Value} (hg : A.get G p = some v) : OpOK P G o fl τ A v A :=
  .same fun μ w a H hop => by
    obtain ⟨i, d, z, hi, hd, hz', rfl⟩ := tyOf_inv hT
    obtain ⟨p', hp', har⟩ := (hop x (by simp [ho, Op.operands]) _ hp).ptr_inv
    obtain ⟨v', h1, h2⟩ := H.get har hg
    have hagg' : aggB P t = false := hagg
    refine ⟨v', ?_, h2⟩
    simp [execOp, ho, hp', Instr.loadAt, Instr.sureAddr, loadVar, run_isAgg' hd, hagg', h1]

theorem AR.live {μ : Mu} {A : Hp} {p p' : Addr} (h : AR μ A p p') {g : Nat} (hg : p.spot = some g) {cs : List Value} {e : Nat} (hb : A.blk p.block = some (.row cs g e)) :
    ∃ b o S, μ p.block = some (b, o, S) ∧ p' = ⟨b, o + p.off, none⟩ := by
  rcases h with ⟨hs, _⟩ | ⟨_, g', hg', hl⟩
  · rw [hs] at hg; cases hg
  · rw [hg'] at hg; cases hg
    exact (hl cs _ e hb).2 rfl

theorem ok_store {t : TypeId} {x y : Operand} (ho : o.op = .store t x y) {p : Addr} (hp : ev τ x = some (.pointer (some p))) {v : Value} (hv : ev τ y = some v) {T : Ty} (hT : tyOf P t = some T)
    (hsz : v.cells.size = T.size) (hone : ones v = true) {g e : Nat} {cs : List Value} (hsp : p.spot = some g) (hb : A.blk p.block = some (.row cs g e)) (hfl : fl ≤ p.block) (hlen : p.off + v.cells.size ≤ cs.length) :
    OpOK P G o fl τ A undef (A.put p.block (.row (wr cs p.off v.cells.toList) g e)) := by
  obtain ⟨i, d, z, hi, hd, hz', rfl⟩ := tyOf_inv hT
  intro μ w a next Q H hfl' hop hk
  obtain ⟨p', hp', har⟩ := (hop x (by simp [ho, Op.operands]) _ hp).ptr_inv
  have hvr := hop y (by simp [ho, Op.operands]) _ hv
  obtain ⟨hc1, hc2⟩ := hvr.cells
  obtain ⟨b, off, S, hm, rfl⟩ := har.live hsp hb
  obtain ⟨H', T'⟩ := HR.setCells (G := G) (e := e) (g := g) hfl hm v.cells.toList (a.eval y).cells.toList A w cs p.off H hb (by simpa using hlen) (by simp [hc1]) (fun j u u' h1 h2 => by
    obtain ⟨u2, h3, h4⟩ := hc2 j u (by simpa using h1)
    rw [Array.getElem?_toList, h3] at h2; cases h2; exact h4)
  obtain ⟨c, tt, fr, hw, hS, hle, hcc⟩ := H.row _ _ _ _ _ _ _ hb hm
  have hst := run_storeCells_cells (P := P) b (off + p.off) (a.eval y).cells.toList 0 w (fun j hj => by
      simp only [Array.length_toList, ← hc1] at hj
      rw [cell?_plain w b _ hw]
      simp only [Option.isSome_iff_exists, Nat.add_zero]
      exact ⟨_, Array.getElem?_eq_getElem (by omega)⟩)
    (fun j hj => by
      simp only [Array.length_toList, ← hc1] at hj
      exact H.free _ _ _ _ _ _ _ hfl hb hm _ (by omega))
    (fun u hu => by
      obtain ⟨j, hj⟩ := List.mem_iff_getElem?.1 hu
      have hjl := (List.getElem?_eq_some_iff.1 hj).1
      simp only [Array.length_toList, ← hc1] at hjl
      obtain ⟨u2, h3, h4⟩ := hc2 j _ (Array.getElem?_eq_getElem hjl)
      rw [Array.getElem?_toList, h3] at hj; cases hj
      rw [← h4.one]
      have := List.all_eq_true.1 hone (v.cells[j]) (by simp)
      exact this)
  simp only [Nat.add_zero] at hst
  refine Oper.wp_skip (w' := w.setCells b (off + p.off) (a.eval y).cells.toList) ?_ (hk undef _ μ (.tuple rfl fun i h _ => absurd h (by simp)) H' T')
  simp [execOp, ho, hp', Instr.storeAt, Instr.sureAddr, storeVar, run_sizeOf' hi, ← hc1, hsz, hst]

theorem ok_nilCheck {x : Operand} (ho : o.op = .nilCheck x) {p : Addr} (hp : ev τ x = some (.pointer (some p))) : OpOK P G o fl τ A (.pointer (some p)) A :=
  .same fun μ w a H hop => by
    have h := hop x (by simp [ho, Op.operands]) _ hp
    obtain ⟨p', hp', har⟩ := h.ptr_inv
    exact ⟨.pointer (some p'), by simp [execOp, ho, hp'], .ptr har⟩

theorem ok_nilCheckF {x : Operand} (ho : o.op = .nilCheck x) {f : FuncId} {xs ys : Array Value} (hp : ev τ x = some (.func (.func f) xs ys)) : OpOK P G o fl τ A (.func (.func f) xs ys) A :=
  .same fun μ w a H hop => by
    have h := hop x (by simp [ho, Op.operands]) _ hp
    cases hx : a.eval x with
    | func fn xs' ys' =>
      rw [hx] at h
      have : fn = .func f := by cases h; rfl
      subst this
      exact ⟨_, by simp [execOp, ho, hx], h⟩
    | _ => rw [hx] at h; cases h

theorem ok_not {t : TypeId} {x : Operand} (ho : o.op = .unOp .not t x) {b : Bool} (hx : ev τ x = some (.bool b)) : OpOK P G o fl τ A (.bool (!b)) A :=
  .same fun μ w a H hop => by
    have h := (hop x (by simp [ho, Op.operands]) _ hx).bool_inv
    exact ⟨_, by simp [execOp, ho, h, Op.unary], .bool _⟩

theorem ok_neg {t : TypeId} {x : Operand} (ho : o.op = .unOp .neg t x) {k : IntKind} {n : Int} (hx : ev τ x = some (.int k n)) : OpOK P G o fl τ A (.int k (k.wrap (0 - n))) A :=
  .same fun μ w a H hop => by
    have h := (hop x (by simp [ho, Op.operands]) _ hx).int_inv
    exact ⟨_, by simp [execOp, ho, h, Op.unary, Op.intArith], .int _ _⟩

theorem ok_extract {x : Operand} {i : Nat} (ho : o.op = .extract x i) {vs : Array Value} (hx : ev τ x = some (.tuple vs)) {v : Value} (hi : vs[i]? = some v) : OpOK P G o fl τ A v A :=
  .same fun μ w a H hop => by
    obtain ⟨ds, hds, hvr⟩ := (hop x (by simp [ho, Op.operands]) _ hx).tuple_inv
    obtain ⟨v', h1, h2⟩ := hvr.get hi
    exact ⟨v', by simp [execOp, ho, hds, Instr.extract, h1], h2⟩

theorem ok_fieldAddr {s : TypeId} {x : Operand} {i : Nat} (ho : o.op = .fieldAddr s x i) {p : Addr} (hp : ev τ x = some (.pointer (some p))) {S : Ty} (hS : tyOf P s = some S) {f : Nat × Nat × TypeId}
    (hf : (placesOf S.d)[i]? = some f) (h0 : f.2.1 ≠ 0) : OpOK P G o fl τ A (.pointer (some (aadd p f.1))) A :=
  .same fun μ w a H hop => by
    obtain ⟨inf, d, z, hi, hd, hz', rfl⟩ := tyOf_inv hS
    obtain ⟨p', hp', har⟩ := (hop x (by simp [ho, Op.operands]) _ hp).ptr_inv
    have hf0 := hf
    obtain ⟨gs, rfl, hall, hfs⟩ : ∃ gs : Array Field, d = .struct gs ∧ (∀ f ∈ gs.toList, (P.info? f.type).isSome = true) ∧ placesOf (toTD P d) = gs.toList.map fun f => (f.offset, sizeB P f.type, f.type) := by
      cases htd : toTD P d with
      | st fs => obtain ⟨gs, h1, h2, h3⟩ := td_st htd; exact ⟨gs, h1, h2, by rw [placesOf]; exact h3⟩
      | _ => simp only [htd, placesOf] at hf0; simp at hf0
    simp only at hf
    rw [hfs] at hf
    simp at hf
    obtain ⟨fd, hfd, rfl⟩ := hf
    simp only [sizeB] at h0
    cases hif : P.info? fd.type with
    | none => simp [hif] at h0
    | some j =>
      simp only [hif, Option.map_some, Option.getD_some] at h0
      refine ⟨.pointer (some (p'.add fd.offset)), ?_, .ptr (har.add _)⟩
      simp [execOp, ho, hp', Instr.fieldAt, run_underlying hd, hfd, Instr.sureAddr, fieldPlace, run_sizeOf' hif, h0]

theorem run_part' {t : TypeId} {i : TypeInfo} {d : TypeDesc} (hi : P.info? t = some i) (hd : P.underlying t = some d) (cs : Array Value) (off : Nat) (w : World) :
    (aggB P t = true → (part t cs off).run P w = .ok (.agg (cs.extract off (off + i.size))) w) ∧ (aggB P t = false → ∀ v, cs[off]? = some v → (part t cs off).run P w = .ok v w) := by
  refine ⟨fun h => ?_, fun h v hv => ?_⟩
  · simp [part, run_isAgg' hd, h, run_sizeOf' hi]
  · simp [part, run_isAgg' hd, h, hv]

theorem VRa.extract {μ : Mu} {A : Hp} {xs ys : Array Value} (h : VRa μ A xs ys) (l r : Nat) : VRa μ A (xs.extract l r) (ys.extract l r) := by
  have h1 := h.1
  refine ⟨by simp [h1], fun i hi hi' => ?_⟩
  simp only [Array.getElem_extract]
  exact h.2 _ _ _

theorem ok_part {t : TypeId} {T : Ty} (hT : tyOf P t = some T) {μ : Mu} {A : Hp} {cs ds : Array Value} (h : VRa μ A cs ds) (off : Nat) {v : Value}
    (hv : (T.agg = true ∧ v = .agg (cs.extract off (off + T.size))) ∨ (T.agg = false ∧ cs[off]? = some v)) (w : World) : ∃ v', (part t ds off).run P w = .ok v' w ∧ VR μ A v v' := by
  obtain ⟨i, d, z, hi, hd, hz', rfl⟩ := tyOf_inv hT
  obtain ⟨h1, h2⟩ := run_part' hi hd ds off w
  rcases hv with ⟨ha, rfl⟩ | ⟨ha, hv⟩
  · exact ⟨_, h1 ha, .agg (h.extract _ _).1 (h.extract _ _).2⟩
  · obtain ⟨v', h3, h4⟩ := h.get hv
    exact ⟨v', h2 ha v' h3, h4⟩

theorem ok_field {s : TypeId} {x : Operand} {i : Nat} (ho : o.op = .field s x i) {cs : Array Value} (hx : ev τ x = some (.agg cs)) {S : Ty} (hS : tyOf P s = some S) {f : Nat × Nat × TypeId}
    (hf : (placesOf S.d)[i]? = some f) {T : Ty} (hT : tyOf P f.2.2 = some T) {v : Value} (hv : (T.agg = true ∧ v = .agg (cs.extract f.1 (f.1 + T.size))) ∨ (T.agg = false ∧ cs[f.1]? = some v)) : OpOK P G o fl τ A v A :=
  .same fun μ w a H hop => by
    obtain ⟨inf, d, z, hi, hd, hz', rfl⟩ := tyOf_inv hS
    obtain ⟨ds, hds, hvr⟩ := (hop x (by simp [ho, Op.operands]) _ hx).agg_inv
    have hf0 := hf
    obtain ⟨gs, rfl, hall, hfs⟩ : ∃ gs : Array Field, d = .struct gs ∧ (∀ f ∈ gs.toList, (P.info? f.type).isSome = true) ∧ placesOf (toTD P d) = gs.toList.map fun f => (f.offset, sizeB P f.type, f.type) := by
      cases htd : toTD P d with
      | st fs => obtain ⟨gs, h1, h2, h3⟩ := td_st htd; exact ⟨gs, h1, h2, by rw [placesOf]; exact h3⟩
      | _ => simp only [htd, placesOf] at hf0; simp at hf0
    simp only at hf
    rw [hfs] at hf
    simp at hf
    obtain ⟨fd, hfd, rfl⟩ := hf
    obtain ⟨v', h1, h2⟩ := ok_part hT hvr fd.offset hv w
    exact ⟨v', by simp [execOp, ho, hds, Instr.field, run_underlying hd, hfd, asAgg, h1], h2⟩

theorem ok_indexAddr_sl {t : TypeId} {x i : Operand} (ho : o.op = .indexAddr t x i) {T : Ty} (hT : tyOf P t = some T) {k : IntKind} {n : Int} (hi : ev τ i = some (.int k n)) (h0 : 0 ≤ n)
    {e : TypeId} (hd : T.d = .sl e) {E : Ty} (hE : tyOf P e = some E) {a : Addr} {len c : Nat} (hx : ev τ x = some (.slice (some a) len c)) (hn : n < len) :
    OpOK P G o fl τ A (.pointer (some (aadd a (n.toNat * E.size)))) A :=
  .same fun μ w ac H hop => by
    obtain ⟨inf, d, z, hinf, hund, hz', rfl⟩ := tyOf_inv hT
    obtain ⟨ie, de, ze, hie, hde, hze, rfl⟩ := tyOf_inv hE
    have hd' := td_sl hd; subst hd'
    have h1 := (hop i (by simp [ho, Op.operands]) _ hi).int_inv
    have h2 := hop x (by simp [ho, Op.operands]) _ hx
    cases hxe : ac.eval x with
    | slice a' n' c' =>
      rw [hxe] at h2
      cases h2 with
      | sl hlt hc hnn hl =>
        rename_i a'
        have hpos : c' ≠ 0 := by omega
        have har : AR μ A a a' := by
          obtain ⟨g', hg', hl⟩ := hl
          refine .inr ⟨hlt, g', hg', fun cs g e hb => ⟨(hl cs g e hb).1, fun hgg => ?_⟩⟩
          obtain ⟨b, o, S, hm, hh⟩ := (hl cs g e hb).2 hgg
          exact ⟨b, o, S, hm, (hh hpos).1⟩
        refine ⟨.pointer (some (a'.add (n.toNat * ie.size))), ?_, .ptr (har.add _)⟩
        simp [execOp, ho, h1, hxe, Instr.indexAt, asIntOf, run_underlying hund, h0, hn, run_sizeOf' hie]
    | _ => rw [hxe] at h2; cases h2

theorem ok_indexAddr_arr {t : TypeId} {x i : Operand} (ho : o.op = .indexAddr t x i) {T : Ty} (hT : tyOf P t = some T) {k : IntKind} {n : Int} (hi : ev τ i = some (.int k n)) (h0 : 0 ≤ n)
    {e : TypeId} {len : Nat} (hd : T.d = .arr len e) {E : Ty} (hE : tyOf P e = some E) {a : Addr} (hx : ev τ x = some (.pointer (some a))) (hn : n < len) :
    OpOK P G o fl τ A (.pointer (some (aadd a (n.toNat * E.size)))) A :=
  .same fun μ w ac H hop => by
    obtain ⟨inf, d, z, hinf, hund, hz', rfl⟩ := tyOf_inv hT
    obtain ⟨ie, de, ze, hie, hde, hze, rfl⟩ := tyOf_inv hE
    have hd' := td_arr hd; subst hd'
    have h1 := (hop i (by simp [ho, Op.operands]) _ hi).int_inv
    obtain ⟨p', hp', har⟩ := (hop x (by simp [ho, Op.operands]) _ hx).ptr_inv
    refine ⟨.pointer (some (p'.add (n.toNat * ie.size))), ?_, .ptr (har.add _)⟩
    simp [execOp, ho, h1, hp', Instr.indexAt, asIntOf, run_underlying hund, h0, hn, run_sizeOf' hie, Instr.sureAddr]

theorem ok_index_str {t : TypeId} {x i : Operand} (ho : o.op = .index t x i) {T : Ty} (hT : tyOf P t = some T) {k : IntKind} {n : Int} (hi : ev τ i = some (.int k n)) (h0 : 0 ≤ n)
    (hd : T.d = .str) {s : ByteArray} (hx : ev τ x = some (.string s)) (hn : n < s.size) : OpOK P G o fl τ A (.int .u8 (byteAt s n)) A :=
  .same fun μ w ac H hop => by
    obtain ⟨inf, d, z, hinf, hund, hz', rfl⟩ := tyOf_inv hT
    have hd' := td_str hd; subst hd'
    have h1 := (hop i (by simp [ho, Op.operands]) _ hi).int_inv
    have h2 := (hop x (by simp [ho, Op.operands]) _ hx).string_inv
    have hlt : n.toNat < s.size := by omega
    have hb : s[n.toNat]? = some s[n.toNat] := by simp [hlt]
    have hbt : byteAt s n = ((s[n.toNat]).toNat : Int) := by
      unfold byteAt
      rw [List.getD_eq_getElem?_getD, List.getElem?_eq_getElem (by simpa using hlt)]
      rfl
    refine ⟨_, ?_, .int _ _⟩
    simp [execOp, ho, h1, h2, Instr.index, asIntOf, run_underlying hund, h0, hb, hbt]

theorem ok_index_arr {t : TypeId} {x i : Operand} (ho : o.op = .index t x i) {T : Ty} (hT : tyOf P t = some T) {k : IntKind} {n : Int} (hi : ev τ i = some (.int k n)) (h0 : 0 ≤ n)
    {e : TypeId} {len : Nat} (hd : T.d = .arr len e) {E : Ty} (hE : tyOf P e = some E) {cs : Array Value} (hx : ev τ x = some (.agg cs)) (hn : n < len) {v : Value}
    (hv : (E.agg = true ∧ v = .agg (cs.extract (n.toNat * E.size) (n.toNat * E.size + E.size))) ∨ (E.agg = false ∧ cs[n.toNat * E.size]? = some v)) : OpOK P G o fl τ A v A :=
  .same fun μ w ac H hop => by
    obtain ⟨inf, d, z, hinf, hund, hz', rfl⟩ := tyOf_inv hT
    have hd' := td_arr hd; subst hd'
    have h1 := (hop i (by simp [ho, Op.operands]) _ hi).int_inv
    obtain ⟨ds, hds, hvr⟩ := (hop x (by simp [ho, Op.operands]) _ hx).agg_inv
    obtain ⟨v', h3, h4⟩ := ok_part hE hvr (n.toNat * E.size) hv w
    obtain ⟨ie, de, ze, hie, hde, hze, rfl⟩ := tyOf_inv hE
    refine ⟨v', ?_, h4⟩
    simp [execOp, ho, h1, hds, Instr.index, asIntOf, run_underlying hund, h0, hn, run_sizeOf' hie, h3]

end
end Go.Proofs.YtpaffoiiipgkeaaDoor.Ab
