/- append is sound; and all operations in one theorem. -/
import Derived.Test.YtpaffoiiipgkeaaDoorAb8
namespace Go.Proofs.YtpaffoiiipgkeaaDoor.Ab
open Go.RowKit
set_option linter.unusedVariables false
set_option linter.unusedSimpArgs false

section
variable {P : Program} {G : Gl} {fl : Nat} {τ : Tm} {A : Hp} {o : Oper}

theorem VRa.list {μ : Mu} {A : Hp} {vs vs' : List Value} (h1 : vs.length = vs'.length) (h : ∀ (j : Nat) (v : Value), vs[j]? = some v → ∃ v' : Value, vs'[j]? = some v' ∧ VR μ A v v') : VRa μ A vs.toArray vs'.toArray :=
  VRa.of_get (by simpa using h1) fun i u hi => by
    obtain ⟨v', h2, h3⟩ := h i u (by simpa using hi)
    exact ⟨v', by simpa using h2, h3⟩

theorem sl_AR {μ : Mu} {A : Hp} {a a' : Addr} {n c c' : Nat} (h : VR μ A (.slice (some a) n c) (.slice (some a') n c')) (hc : c' ≠ 0) : AR μ A a a' := by
  cases h with
  | sl hlt hcc hn hl =>
    obtain ⟨g', hg', hl⟩ := hl
    refine .inr ⟨hlt, g', hg', fun cs g e hb => ⟨(hl cs g e hb).1, fun hgg => ?_⟩⟩
    obtain ⟨b, o, S, hm, hh⟩ := (hl cs g e hb).2 hgg
    exact ⟨b, o, S, hm, (hh hc).1⟩

theorem news_run {μ : Mu} {w : World} (H : HR G μ fl A w) {size m : Nat} {x x' : Value} {vs : List Value} (hn : news G A size x m vs) (hx : VR μ A x x') :
    ∃ vs' : List Value, VRa μ A vs.toArray vs'.toArray ∧ (∀ w2 : World, (Builtin.lenOf x').run P w2 = .ok m w2) ∧ ∀ w2 : World, w2.heap = w.heap → (Builtin.firstCells size m x').run P w2 = .ok vs'.toArray w2 := by
  obtain ⟨hl, h⟩ := hn
  rcases h with ⟨c, rfl, rfl⟩ | ⟨a, c, rfl, hsp, hg⟩ | ⟨s, rfl, rfl, rfl, rfl⟩
  · have : vs = [] := List.eq_nil_of_length_eq_zero (by simpa using hl)
    subst this
    have := hx.sl0_inv; subst this
    exact ⟨[], ⟨rfl, fun i hi => by simp at hi⟩, fun w2 => by simp [Builtin.lenOf], fun w2 _ => by simp [Builtin.firstCells]⟩
  · obtain ⟨a', c', rfl⟩ : ∃ a' c', x' = .slice (some a') m c' := by cases hx; exact ⟨_, _, rfl⟩
    by_cases h0 : m * size = 0
    · rw [h0] at hl
      have : vs = [] := List.eq_nil_of_length_eq_zero hl
      subst this
      refine ⟨[], ⟨rfl, fun i hi => by simp at hi⟩, fun w2 => by simp [Builtin.lenOf], fun w2 _ => ?_⟩
      simp [Builtin.firstCells, h0, loadCells, loadCellsFrom]
    · have hc0 : c' ≠ 0 := by
        have hm : m ≠ 0 := fun h => h0 (by simp [h])
        cases hx with
        | sl hlt hcc hn hl => omega
      obtain ⟨vs', h1, h2, h3⟩ := loads H (sl_AR hx hc0) vs hg
      refine ⟨vs', VRa.list h1 h3, fun w2 => by simp [Builtin.lenOf], fun w2 hw2 => ?_⟩
      exact run_firstCells_some (P := P) w2 size m a' m c' vs' (by omega) fun j v hj => by
        have := h2 j v hj
        simp only [World.cell?, hw2] at this ⊢
        exact this
  · have := hx.string_inv; subst this
    refine ⟨s.data.toList.map fun b => Value.int .u8 (b.toNat : Int), ⟨rfl, fun i hi hi' => ?_⟩, fun w2 => by simp [Builtin.lenOf], fun w2 _ => ?_⟩
    · simp only [List.getElem_toArray, List.getElem_map]; exact .int _ _
    · have hx : (Array.map (fun b : UInt8 => Value.int IntKind.u8 (b.toNat : Int)) s.data).extract 0 s.size = Array.map (fun b : UInt8 => Value.int IntKind.u8 (b.toNat : Int)) s.data := by
        have hs : s.size = (Array.map (fun b : UInt8 => Value.int IntKind.u8 (b.toNat : Int)) s.data).size := by rw [Array.size_map]; rfl
        rw [hs, Array.extract_size]
      simp only [Builtin.firstCells, Sem.run_pure]
      congr 1
      have e1 : (s.extract 0 s.size).data = s.data := by
        have : s.extract 0 s.size = s := by simp
        rw [this]
      rw [e1]
      apply Array.ext'
      simp

theorem run_app_in (w w1 : World) {t u ty e : TypeId} {ud : TypeDesc} (hud : (∃ e', ud = .slice e') ∨ ud = .string) {i : TypeInfo} (ht : P.underlying t = some (.slice e)) (hu : P.underlying u = some ud) (hi : P.info? e = some i)
    {a : Option Addr} {sLen sCap m : Nat} {x' : Value} {vs' : List Value} (hlen : ∀ w2 : World, (Builtin.lenOf x').run P w2 = .ok m w2) (hfc : (Builtin.firstCells i.size m x').run P w = .ok vs'.toArray w)
    (hroom : sLen + m ≤ sCap) (hst : ∀ b, a = some b → (storeCells (b.add (sLen * i.size)) vs').run P w = .ok () w1) (hst0 : a = none → w1 = w) :
    (Builtin.append_ #[t, u] ty #[.slice a sLen sCap, x']).run P w = .ok (.slice a (sLen + m) sCap) w1 := by
  have hsz := run_sizeOf' (P := P) hi w
  cases a with
  | none =>
    have := hst0 rfl; subst this
    rcases hud with ⟨e', rfl⟩ | rfl <;> simp [Builtin.append_, run_underlying ht, run_underlying hu, hsz, hlen, hroom, hfc]
  | some b =>
    have h := hst b rfl
    rcases hud with ⟨e', rfl⟩ | rfl <;> simp [Builtin.append_, run_underlying ht, run_underlying hu, hsz, hlen, hroom, hfc, h]

theorem run_app_out (w : World) {t u ty e : TypeId} {ud : TypeDesc} (hud : (∃ e', ud = .slice e') ∨ ud = .string) {i : TypeInfo} {z : Value} (ht : P.underlying t = some (.slice e)) (hu : P.underlying u = some ud) (hi : P.info? e = some i) (hz : i.zero = some z)
    {a : Option Addr} {sLen sCap m : Nat} {x' : Value} {vs' olds : List Value} (hlen : ∀ w2 : World, (Builtin.lenOf x').run P w2 = .ok m w2) (hfc : (Builtin.firstCells i.size m x').run P w.drew = .ok vs'.toArray w.drew)
    (hfo : (Builtin.firstCells i.size sLen (.slice a sLen sCap)).run P w.drew = .ok olds.toArray w.drew)
    (hroom : sCap < sLen + m) (h63 : ((sLen + m : Nat) : Int) ≤ 9223372036854775807) (hfit : Builtin.nextslicecap (sLen + m) sCap * i.bytes ≤ 281474976710656) :
    (Builtin.append_ #[t, u] ty #[.slice a sLen sCap, x']).run P w = .ok (.slice (some ⟨w.heap.size, 0, none⟩) (sLen + m) (grownCap w (sLen + m) sCap e))
      (w.drew.alloc (.cells (olds.toArray ++ vs'.toArray ++ Builtin.zeroCells z.cells (grownCap w (sLen + m) sCap e - (sLen + m))) e)) := by
  have hn : ¬ (sLen + m ≤ sCap) := by omega
  have h63' : ¬ (9223372036854775807 < ((sLen : Int) + (m : Int))) := by omega
  have h48' : ¬ (281474976710656 < Builtin.nextslicecap (sLen + m) sCap * i.bytes) := by omega
  have hsz := fun w => run_sizeOf' (P := P) hi w
  have hzr := fun w => run_zero' (P := P) hi hz w
  have hti := fun w => run_typeInfo' (P := P) hi w
  rcases hud with ⟨e', rfl⟩ | rfl
  · simp [Builtin.append_, run_underlying ht, run_underlying hu, hsz, hti, hzr, hlen, hn, h63', h48', Question.forced, hfc, hfo, newRow, grownCap]
    congr 2
    apply Array.ext'
    simp [List.append_assoc]
  · simp [Builtin.append_, run_underlying ht, run_underlying hu, hsz, hti, hzr, hlen, hn, h63', h48', Question.forced, hfc, hfo, newRow, grownCap]
    congr 2
    apply Array.ext'
    simp [List.append_assoc]

theorem ok_append {c : Call} (ho : o.op = .call c) (hc : c.callee = .builtin .append) {s x : Value}
    (hxs : ∀ (μ : Mu) (A : Hp) (ρ : Operand → Value), (∀ x ∈ c.args.toList, ∀ u, ev τ x = some u → VR μ A u (ρ x)) → VRa μ A [s, x].toArray (c.args.toList.map ρ).toArray) {K : Value → Hp → Prop}
    (h : aappend P G fl A c.argTypes s x K) : ∃ v A', K v A' ∧ OpOK P G o fl τ A v A' := by
  obtain ⟨t, u, e, T, E, m, vs, hat, hT, hd, hE, hU, hsz0, hzl, hone, hnews, h⟩ := h
  obtain ⟨it, dt, zt, hit, hut, _, rfl⟩ := tyOf_inv hT
  obtain ⟨ie, de, ze, hie, hue, hze, rfl⟩ := tyOf_inv hE
  have := td_sl hd; subst this
  cases hUt : tyOf P u with
  | none => simp [hUt] at hU
  | some U =>
  obtain ⟨iu, du, zu, hiu, huu, _, rfl⟩ := tyOf_inv hUt
  have hud : (∃ e', du = .slice e') ∨ du = .string := by
    simp only [hUt, Option.map_some, Option.some.injEq] at hU
    cases hdd : toTD P du with
    | sl e' => exact .inl ⟨e', td_sl hdd⟩
    | str => exact .inr (td_str hdd)
    | _ => simp [hdd] at hU
  have args : ∀ {μ : Mu} {ac : Act}, (∀ x ∈ o.op.operands, ∀ u, ev τ x = some u → VR μ A u (ac.eval x)) → ∃ s' x', c.args.map ac.eval = #[s', x'] ∧ VR μ A s s' ∧ VR μ A x x' := fun {μ ac} hop => by
    have hr := hxs μ A ac.eval fun x hx => hop x (by simp [ho, Op.operands, Call.operands, hc]; simpa using hx)
    have hsz := hr.1
    simp only [List.size_toArray, List.length_cons, List.length_nil, List.length_map, Array.length_toList] at hsz
    obtain ⟨u0, a0, b0⟩ := hr.get (i := 0) (u := s) rfl
    obtain ⟨u1, a1, b1⟩ := hr.get (i := 1) (u := x) rfl
    refine ⟨u0, u1, ?_, b0, b1⟩
    apply Array.ext'
    apply List.ext_getElem?
    intro j
    match j with
    | 0 => simpa using a0
    | 1 => simpa using a1
    | j + 2 => rw [List.getElem?_eq_none (by simp; omega), List.getElem?_eq_none (by simp)]
  simp only at hnews hsz0 hzl
  have hvl : vs.length = m * ie.size := hnews.1
  rcases h with ⟨rfl, rfl, hK⟩ | ⟨rfl, hm, hby, hmx, hK⟩ | ⟨a, n, cp, g, cs, rfl, hsp, hb, hfl, hlen, hones, hby, hmx, hK⟩
  · refine ⟨_, _, hK, .same fun μ w ac H hop => ?_⟩
    obtain ⟨s', x', ha, hs', hx'⟩ := args hop
    have := hs'.sl0_inv; subst this
    obtain ⟨vs', r1, r2, r3⟩ := news_run (P := P) H hnews hx'
    obtain ⟨cst, hrb⟩ := run_builtin (P := P) ho hc ac w
    have hrun := run_app_in (P := P) w w (ty := o.type) hud hut huu hie (a := none) (sLen := 0) (sCap := 0) r2 (r3 w rfl) (by omega) (fun b hb => by cases hb) (fun _ => rfl)
    refine ⟨.slice none 0 0, ?_, .sl0 _ _⟩
    rw [hrb, ha, hat]
    simp only [Go.builtin, Sem.run_bind, hrun, Result.andThen_ok, Sem.run_pure]
  · refine ⟨_, _, hK, .make (n := m) (c := m) (.inr ⟨rfl, Nat.le_refl _⟩) fun μ w ac H hop => ?_⟩
    obtain ⟨s', x', ha, hs', hx'⟩ := args hop
    have := hs'.sl0_inv; subst this
    obtain ⟨vs', r1, r2, r3⟩ := news_run (P := P) H hnews hx'
    obtain ⟨cst, hrb⟩ := run_builtin (P := P) ho hc ac w
    have hrun := run_app_out (P := P) w (ty := o.type) hud hut huu hie hze (a := none) (sLen := 0) (sCap := 0) (olds := []) r2 (r3 w.drew rfl) (by simp [Builtin.firstCells]) (by omega) (by omega)
      (growslice_fits (by omega) (by simpa using hby))
    have hvl' : vs.length = vs'.length := by have := r1.1; simpa using this
    have hge := grownCap_ge w (0 + m) 0 e
    simp only [Nat.zero_add] at hrun hge
    have hzs : ze.cells.size = ie.size := by simpa using hzl
    refine ⟨vs'.toArray ++ Builtin.zeroCells ze.cells (grownCap w m 0 e - m), e, (0, 0), w.drew.alloc (.cells (vs'.toArray ++ Builtin.zeroCells ze.cells (grownCap w m 0 e - m)) e), grownCap w m 0 e, ?_, fun j v hj => ?_, by simp, ?_, ?_, ?_, ?_, hge, ?_, ?_⟩
    · simp [hvl']
    · obtain ⟨v', h1, h2⟩ := r1.get (i := j) (u := v) (by simpa using hj)
      have hlt := (Array.getElem?_eq_some_iff.1 h1).1
      exact ⟨v', by rw [Array.getElem?_append_left hlt]; exact h1, h2⟩
    · rfl
    · rfl
    · rfl
    · rfl
    · simp only [Array.size_append, List.size_toArray, size_zeroCells, hzs, ← hvl', hvl, ← Nat.add_mul]
      exact Nat.mul_le_mul_right _ (by omega)
    · rw [hrb, ha, hat]
      simp only [Go.builtin, Sem.run_bind, hrun, Result.andThen_ok, Sem.run_pure]
      simp
  · refine ⟨_, _, hK, ?_⟩
    intro μ w ac next Q H hfl' hop hk
    obtain ⟨s', x', ha, hs', hx'⟩ := args hop
    obtain ⟨a', cp', rfl⟩ : ∃ a' c', s' = .slice (some a') n c' := by cases hs'; exact ⟨_, _, rfl⟩
    obtain ⟨vs', r1, r2, r3⟩ := news_run (P := P) H hnews hx'
    obtain ⟨cst, hrb⟩ := run_builtin (P := P) ho hc ac w
    have hvl' : vs.length = vs'.length := by have := r1.1; simpa using this
    have hzs : ze.cells.size = ie.size := by simpa using hzl
    simp only at hb hlen hfl hby hK ⊢
    -- where the row lies
    have hs'' := hs'
    cases hs'' with
    | @sl _ _ _ _ _ hlt hcc hn hl =>
    obtain ⟨g', hg', hl⟩ := hl
    rw [hsp] at hg'; cases hg'
    obtain ⟨b, ob, S, hm, hplace⟩ := (hl cs g ie.size hb).2 rfl
    obtain ⟨c, tt, fr, hw, hS, hle, hcc2⟩ := H.row _ _ _ _ _ _ _ hb hm
    have hidx : a.block < A.next := hlt
    -- the elder elements
    have hold : ∀ (j : Nat) (v : Value), ((cs.drop a.off).take (n * ie.size))[j]? = some v → ∃ v' : Value, c[ob + a.off + j]? = some v' ∧ VR μ A v v' := fun j v hj => by
      have hjl : j < n * ie.size := by
        have := (List.getElem?_eq_some_iff.1 hj).1
        simp only [List.length_take, List.length_drop] at this; omega
      rw [List.getElem?_take_of_lt hjl, List.getElem?_drop] at hj
      obtain ⟨v', h1, h2⟩ := hcc2 (a.off + j) v hj
      exact ⟨v', by rw [Nat.add_assoc]; exact h1, h2⟩
    have holdlen : ((cs.drop a.off).take (n * ie.size)).length = n * ie.size := by
      simp only [List.length_take, List.length_drop]; omega
    by_cases hroom : n + m ≤ cp'
    · by_cases hz : cp' = 0
      · -- nothing at all is stored
        have hm0 : m = 0 := by omega
        have hn0 : n = 0 := by omega
        subst hm0; subst hn0
        have hvs0 : vs = [] := List.eq_nil_of_length_eq_zero (by simpa using hvl)
        have hvs0' : vs' = [] := List.eq_nil_of_length_eq_zero (by rw [← hvl', hvs0]; rfl)
        subst hvs0; subst hvs0'
        have hrun := run_app_in (P := P) w w (ty := o.type) hud hut huu hie (a := some a') (sLen := 0) (sCap := cp') r2 (r3 w rfl) (by omega) (fun b hb => by simp [storeCells]) (fun h => by cases h)
        obtain ⟨HN, TN⟩ := H.retell (w' := w) (e2 := ie.size) (g2 := g + 1) (ds := []) (b' := b) (o' := ob) (S' := S) hfl (by omega) hb hm (fun _ _ _ => rfl) (Nat.le_refl _) rfl rfl rfl hw hS (by simp; omega)
          (fun j hj hh => by
            have := H.free _ _ _ _ _ _ _ hfl hb hm j hj
            simp only [World.frozen?, hw, Bool.and_eq_false_iff, decide_eq_false_iff_not] at this
            omega) (fun j v hj => by simp at hj) (.inl rfl)
        refine Oper.wp_value (v := .slice (some a') 0 cp') ?_ (hk _ w _ ?_ (by simpa using HN) (by simpa using TN))
        · rw [hrb, ha, hat]
          simp only [Go.builtin, Sem.run_bind, hrun, Result.andThen_ok, Sem.run_pure]
        · refine .sl (by simpa using hidx) (by omega) (by omega) ⟨g + 1, rfl, fun cs2 g2 e2 hb2 => ?_⟩
          simp only [Hp.put_blk, if_true] at hb2
          cases hb2
          exact ⟨Nat.le_refl _, fun _ => ⟨b, ob, S, by simp [Mu.add], fun hne => absurd hz hne⟩⟩
      · obtain ⟨rfl, hSr⟩ := hplace hz
        have hmul : (n + m) * ie.size = n * ie.size + m * ie.size := Nat.add_mul _ _ _
        have hmul2 : (n + m) * ie.size ≤ cp' * ie.size := Nat.mul_le_mul_right _ hroom
        have hst := run_storeCells_cells (P := P) b (ob + a.off + n * ie.size) vs' 0 w (fun j hj => by
            rw [cell?_plain w b _ hw]
            simp only [Option.isSome_iff_exists, Nat.add_zero]
            exact ⟨_, Array.getElem?_eq_getElem (by omega)⟩)
          (fun j hj => H.free _ _ _ _ _ _ _ hfl hb hm _ (by omega))
          (fun v hv => by
            obtain ⟨j, hj⟩ := List.mem_iff_getElem?.1 hv
            have hjl := (List.getElem?_eq_some_iff.1 hj).1
            obtain ⟨v2, h3, h4⟩ := r1.get (i := j) (u := vs[j]) (by simp [hvl', hjl])
            simp only [List.getElem?_toArray, hj, Option.some.injEq] at h3
            subst h3
            rw [← h4.one]
            exact List.all_eq_true.1 hone _ (List.getElem_mem _))
        simp only [Nat.add_zero] at hst
        have hrun := run_app_in (P := P) w (w.setCells b (ob + a.off + n * ie.size) vs') (ty := o.type) hud hut huu hie (a := some ⟨b, ob + a.off, none⟩) (sLen := n) (sCap := cp') r2 (r3 w rfl) hroom
          (fun b2 hb2 => by
            cases hb2
            rw [Addr.add_lit]
            exact hst) (fun h => by cases h)
        -- the world behind
        have hwc : ∀ (us : List Value) (off : Nat) (w : World) (c : Array Value), w.heap[b]? = some (.cells c tt fr) → off + us.length ≤ c.size →
            ∃ c2 : Array Value, (w.setCells b off us).heap[b]? = some (.cells c2 tt fr) ∧ c2.size = c.size ∧ (∀ k, k ≠ b → (w.setCells b off us).heap[k]? = w.heap[k]?) ∧ (w.setCells b off us).heap.size = w.heap.size ∧
              (w.setCells b off us).os = w.os ∧ (w.setCells b off us).tape = w.tape ∧ (w.setCells b off us).output = w.output ∧ (∀ j, j < off → c2[j]? = c[j]?) ∧ ∀ j, j < us.length → c2[off + j]? = us[j]? := by
          intro us
          induction us with
          | nil => intro off w c hw _; exact ⟨c, hw, rfl, fun _ _ => rfl, rfl, rfl, rfl, rfl, fun _ _ => rfl, fun j hj => by simp at hj⟩
          | cons v us ih =>
            intro off w c hw hlen
            simp only [List.length_cons] at hlen
            have h1 : (w.setCell ⟨b, off, none⟩ v).heap[b]? = some (.cells (c.setIfInBounds off v) tt fr) := by simp [World.setCell, Array.getElem?_modify, hw]
            obtain ⟨c2, q1, q2, q3, q4, q5, q6, q7, q8, q9⟩ := ih (off + 1) (w.setCell ⟨b, off, none⟩ v) _ h1 (by simp; omega)
            refine ⟨c2, q1, by simpa using q2, fun k hk => (q3 k hk).trans (Below.heap_setCell _ _ _ _ hk), by rw [World.setCells, q4]; simp [World.setCell], q5, q6, q7, fun j hj => ?_, fun j hj => ?_⟩
            · rw [q8 j (by omega), Array.getElem?_setIfInBounds_ne (by omega)]
            · cases j with
              | zero =>
                rw [Nat.add_zero, q8 off (by omega), Array.getElem?_setIfInBounds_self_of_lt (by omega)]; rfl
              | succ j =>
                have := q9 j (by simpa using hj)
                rw [show off + (j + 1) = off + 1 + j by omega, this]; rfl
        obtain ⟨c2, q1, q2, q3, q4, q5, q6, q7, q8, q9⟩ := hwc vs' (ob + a.off + n * ie.size) w c hw (by omega)
        obtain ⟨HN, TN⟩ := H.retell (w' := w.setCells b (ob + a.off + n * ie.size) vs') (e2 := ie.size) (g2 := g + 1) (ds := (cs.drop a.off).take (n * ie.size) ++ vs) (b' := b) (o' := ob + a.off) (S' := S) hfl (by omega) hb hm
          (fun k hk _ => q3 k hk) (by omega) q5 q6 q7 q1 (by omega) (by rw [List.length_append, holdlen, hvl]; omega)
          (fun j hj hh => by
            have := H.free _ _ _ _ _ _ _ hfl hb hm j hj
            simp only [World.frozen?, hw, Bool.and_eq_false_iff, decide_eq_false_iff_not] at this
            omega)
          (fun j v hj => by
            by_cases hjl : j < n * ie.size
            · rw [List.getElem?_append_left (by omega)] at hj
              obtain ⟨v', h1, h2⟩ := hold j v hj
              exact ⟨v', by rw [q8 _ (by omega)]; exact h1, h2⟩
            · rw [List.getElem?_append_right (by omega), holdlen] at hj
              obtain ⟨v', h1, h2⟩ := r1.get (i := j - n * ie.size) (u := v) (by simpa using hj)
              have hjv := (Array.getElem?_eq_some_iff.1 h1).1
              simp only [List.size_toArray] at hjv
              have := q9 (j - n * ie.size) hjv
              rw [show ob + a.off + n * ie.size + (j - n * ie.size) = ob + a.off + j by omega] at this
              exact ⟨v', by rw [this]; simpa using h1, h2⟩) (.inl rfl)
        refine Oper.wp_value (v := .slice (some ⟨b, ob + a.off, none⟩) (n + m) cp') ?_ (hk _ _ _ ?_ HN TN)
        · rw [hrb, ha, hat]
          simp only [Go.builtin, Sem.run_bind, hrun, Result.andThen_ok, Sem.run_pure]
        · refine .sl (by simpa using hidx) hroom hroom ⟨g + 1, rfl, fun cs2 g2 e2 hb2 => ?_⟩
          simp only [Hp.put_blk, if_true] at hb2
          cases hb2
          exact ⟨Nat.le_refl _, fun _ => ⟨b, ob + a.off, S, by simp [Mu.add], fun _ => ⟨rfl, by simpa using hSr⟩⟩⟩
    · -- a new row
      have hfo : ∃ olds : List Value, olds.length = n * ie.size ∧ (Builtin.firstCells ie.size n (.slice (some a') n cp')).run P w.drew = .ok olds.toArray w.drew ∧ ∀ (j : Nat) (v : Value), ((cs.drop a.off).take (n * ie.size))[j]? = some v → ∃ v' : Value, olds[j]? = some v' ∧ VR μ A v v' := by
        by_cases hz : cp' = 0
        · have hn0 : n = 0 := by omega
          subst hn0
          exact ⟨[], by simp, by simp [Builtin.firstCells, loadCells, loadCellsFrom], fun j v hj => by simp at hj⟩
        · obtain ⟨olds, h1, h2, h3⟩ := loads H (sl_AR hs' hz) ((cs.drop a.off).take (n * ie.size)) (fun j v hj => by
            have hjl : j < n * ie.size := by
              have := (List.getElem?_eq_some_iff.1 hj).1
              simp only [List.length_take, List.length_drop] at this; omega
            rw [List.getElem?_take_of_lt hjl, List.getElem?_drop] at hj
            simp only [Hp.get, aadd, hsp, hb, if_true]
            exact hj)
          exact ⟨olds, by omega, run_firstCells_some (P := P) w.drew ie.size n a' n cp' olds (by omega) (fun j v hj => by
            have := h2 j v hj
            exact this), h3⟩
      obtain ⟨olds, ho1, ho2, ho3⟩ := hfo
      have hrun := run_app_out (P := P) w (ty := o.type) hud hut huu hie hze (a := some a') (sLen := n) (sCap := cp') (olds := olds) r2 (r3 w.drew rfl) ho2 (by omega) (by omega) (growslice_fits (by omega) hby)
      have hge := grownCap_ge w (n + m) cp' e
      have hsize : (olds.toArray ++ vs'.toArray ++ Builtin.zeroCells ze.cells (grownCap w (n + m) cp' e - (n + m))).size = grownCap w (n + m) cp' e * ie.size := by
        simp only [Array.size_append, List.size_toArray, size_zeroCells, hzs, ho1, ← hvl', hvl, ← Nat.add_mul]
        congr 1; omega
      have hnewb : (w.drew.alloc (.cells (olds.toArray ++ vs'.toArray ++ Builtin.zeroCells ze.cells (grownCap w (n + m) cp' e - (n + m))) e)).heap[w.heap.size]? = some (.cells (olds.toArray ++ vs'.toArray ++ Builtin.zeroCells ze.cells (grownCap w (n + m) cp' e - (n + m))) e (0, 0)) := by
        show (w.heap.push _)[w.heap.size]? = _
        simp
      obtain ⟨HN, TN⟩ := H.retell (w' := w.drew.alloc (.cells (olds.toArray ++ vs'.toArray ++ Builtin.zeroCells ze.cells (grownCap w (n + m) cp' e - (n + m))) e)) (e2 := ie.size) (g2 := g + 1)
        (ds := (cs.drop a.off).take (n * ie.size) ++ vs) (b' := w.heap.size) (o' := 0) (S' := grownCap w (n + m) cp' e * ie.size) hfl (by omega) hb hm
        (fun k _ hk => by show (w.heap.push _)[k]? = _; exact getElem?_push_lt _ hk) (by show _ ≤ (w.heap.push _).size; simp) rfl rfl rfl hnewb hsize
        (by rw [List.length_append, holdlen, hvl, ← Nat.add_mul, Nat.zero_add]; exact Nat.mul_le_mul_right _ hge) (by simp)
        (fun j v hj => by
          rw [Nat.zero_add]
          by_cases hjl : j < n * ie.size
          · rw [List.getElem?_append_left (by omega)] at hj
            obtain ⟨v', h1, h2⟩ := ho3 j v hj
            refine ⟨v', ?_, h2⟩
            rw [Array.getElem?_append_left (by simp; omega), Array.getElem?_append_left (by simp; omega)]
            simpa using h1
          · rw [List.getElem?_append_right (by omega), holdlen] at hj
            obtain ⟨v', h1, h2⟩ := r1.get (i := j - n * ie.size) (u := v) (by simpa using hj)
            have hjv := (Array.getElem?_eq_some_iff.1 h1).1
            simp only [List.size_toArray] at hjv
            refine ⟨v', ?_, h2⟩
            rw [Array.getElem?_append_left (by simp; omega), Array.getElem?_append_right (by simp; omega)]
            simpa [ho1] using h1) (.inr (Nat.le_refl _))
      refine Oper.wp_value (v := .slice (some ⟨w.heap.size, 0, none⟩) (n + m) (grownCap w (n + m) cp' e)) ?_ (hk _ _ _ ?_ HN TN)
      · rw [hrb, ha, hat]
        simp only [Go.builtin, Sem.run_bind, hrun, Result.andThen_ok, Sem.run_pure]
      · refine .sl (by simpa using hidx) hge hge ⟨g + 1, rfl, fun cs2 g2 e2 hb2 => ?_⟩
        simp only [Hp.put_blk, if_true] at hb2
        cases hb2
        exact ⟨Nat.le_refl _, fun _ => ⟨w.heap.size, 0, grownCap w (n + m) cp' e * ie.size, by simp [Mu.add], fun _ => ⟨rfl, by simp⟩⟩⟩


/-- Operations that neither read nor write memory. -/
def toInt (P : Program) (d : TypeId) : Bool := match tyOf P d with | some T => (match T.d with | .int _ => true | _ => false) | none => false
def pureOp (P : Program) : Op → Bool
  | .move _ | .assign _ | .pick .. | .nilCheck _ | .binOp .. | .unOp .. | .makeFunc .. | .fieldAddr .. | .field .. | .indexAddr .. | .index .. | .extract .. => true
  | .build .. => true
  | .convert _ d _ => toInt P d
  | _ => false

theorem zc_all {l : List Value} (h : l.all zc = true) : ∀ (μ : Mu) (A : Hp), ∀ u ∈ l, VR μ A u u := fun μ A u hu => VR.of_zc (List.all_eq_true.1 h u hu)

/-- Every operation is sound. -/
theorem aop_sound {K : Value → Hp → Prop} (h : aop P G fl o τ A K) : ∃ v A', K v A' ∧ OpOK P G o fl τ A v A' ∧ (pureOp P o.op = true → A' = A ∧ ∀ (fl : Nat) (A : Hp), OpOK P G o fl τ A v A) := by
  obtain ⟨q, hq⟩ : ∃ q, pureOp P o.op = q := ⟨_, rfl⟩
  rw [hq]
  have np : ∀ {v : Value} {A' : Hp}, K v A' → OpOK P G o fl τ A v A' → pureOp P o.op = false → ∃ v A', K v A' ∧ OpOK P G o fl τ A v A' ∧ (q = true → A' = A ∧ ∀ (fl : Nat) (A : Hp), OpOK P G o fl τ A v A) :=
    fun {v A'} hK hO hp => ⟨v, A', hK, hO, fun h => by rw [← hq, hp] at h; cases h⟩
  have pr : ∀ {v : Value}, K v A → (∀ (fl : Nat) (A : Hp), OpOK P G o fl τ A v A) → ∃ v A', K v A' ∧ OpOK P G o fl τ A v A' ∧ (q = true → A' = A ∧ ∀ (fl : Nat) (A : Hp), OpOK P G o fl τ A v A) :=
    fun {v} hK hO => ⟨v, A, hK, hO fl A, fun _ => ⟨rfl, hO⟩⟩
  cases ho : o.op <;> simp only [aop, ho] at h <;> (try exact h.elim)
  case move x => obtain ⟨v, hv, hK⟩ := h; exact pr hK fun _ _ => ok_move ho hv
  case assign x => obtain ⟨v, hv, hK⟩ := h; exact pr hK fun _ _ => ok_assign ho hv
  case pick c x y =>
    obtain ⟨b, hc, h1, h2⟩ := h
    cases b with
    | true => obtain ⟨v, hv, hK⟩ := h1 rfl; exact pr hK fun _ _ => ok_pick ho hc (by simpa using hv)
    | false => obtain ⟨v, hv, hK⟩ := h2 rfl; exact pr hK fun _ _ => ok_pick ho hc (by simpa using hv)
  case alloc t => obtain ⟨T, hT, hz, hK⟩ := h; exact np hK (ok_alloc ho hT (zc_all hz)) (by rw [ho]; rfl)
  case box t x => obtain ⟨T, hT, v, hv, hK⟩ := h; exact np hK (ok_box ho hv) (by rw [ho]; rfl)
  case build t ps =>
    obtain ⟨T, hT, hz, h⟩ := h
    obtain ⟨pvs, h, hp⟩ := evp_spec _ _ _ h
    simp only [List.nil_append] at h
    rcases h with ⟨fs, hd, cs, hb, hK⟩ | ⟨n, e, E, hd, hE, cs, hb, hK⟩
    · exact pr hK fun _ _ => ok_build_st ho hT (zc_all hz) hd hp hb
    · exact pr hK fun _ _ => ok_build_arr ho hT (zc_all hz) hd hE hp hb
  case buildSlice t len ps =>
    obtain ⟨T, hT, e, E, hd, hE, hz, h24, h⟩ := h
    obtain ⟨pvs, h, hp⟩ := evp_spec _ _ _ h
    simp only [List.nil_append] at h
    obtain ⟨cs, hb, hK⟩ := h
    exact np hK (ok_buildSlice ho hT hd hE hz h24 hp hb) (by rw [ho]; rfl)
  case load t x =>
    obtain ⟨p, hp, T, hT, h⟩ := h
    rcases h with ⟨ha, h⟩ | ⟨ha, v, hv, hK⟩
    · obtain ⟨vs, hK, hl, hg⟩ := rdn_spec _ _ _ _ h
      simp only [List.nil_append, Nat.zero_add] at hK hg
      exact np hK (ok_load_agg ho hp hT ha hl hg) (by rw [ho]; rfl)
    · exact np hK (ok_load_one ho hp hT ha hv) (by rw [ho]; rfl)
  case store t x y =>
    obtain ⟨p, hp, v, hv, T, hT, hsz, hone, g, cs, e, hsp, hb, hfl, hlen, hK⟩ := h
    exact np hK (ok_store ho hp hv hT hsz hone hsp hb hfl hlen) (by rw [ho]; rfl)
  case nilCheck x =>
    rcases h with ⟨p, hp, hK⟩ | ⟨f, a, b, hp, hK⟩
    · exact pr hK fun _ _ => ok_nilCheck ho hp
    · exact pr hK fun _ _ => ok_nilCheckF ho hp
  case binOp op t x y yt =>
    obtain ⟨a, ha, b, hb, h⟩ := h
    obtain ⟨r, hK, hO⟩ := ok_abin ho ha hb h
    exact pr hK hO
  case unOp op t x =>
    cases op <;> simp only at h <;> (try exact h.elim)
    case neg => obtain ⟨k, n, hx, hK⟩ := h; exact pr hK fun _ _ => ok_neg ho hx
    case not => obtain ⟨b, hx, hK⟩ := h; exact pr hK fun _ _ => ok_not ho hx
  case convert s d x =>
    obtain ⟨S, hS, D, hD, v, hv, h⟩ := h
    rcases h with ⟨k, k', n, hd, rfl, hK⟩ | ⟨b, hd, rfl, hK⟩ | ⟨e, E, b, hs, hd, hE, he, rfl, hK⟩ | ⟨e, E, hs, hd, hE, he, h⟩
    · exact pr hK fun _ _ => ok_conv_int ho hS hD hd hv
    · exact np hK (ok_conv_str ho hS hD hd hv) (by rw [ho]; simp [pureOp, toInt, hD, hd])
    · exact np hK (ok_conv_bytes ho hS hD hs hd hE he hv) (by rw [ho]; simp [pureOp, toInt, hD, hd])
    · rcases h with ⟨n, c, rfl, hK⟩ | ⟨a, n, c, l, rfl, hsp, hl, hg, hK⟩
      · exact np hK (ok_conv_back_nil ho hS hD hs hd hE he hv) (by rw [ho]; simp [pureOp, toInt, hD, hd])
      · exact np hK (ok_conv_back ho hS hD hs hd hE he hv hsp hl hg) (by rw [ho]; simp [pureOp, toInt, hD, hd])
  case makeFunc fn first captured =>
    obtain ⟨f, rfl, h⟩ := h
    obtain ⟨us, h, hu⟩ := evs_spec _ _ _ h
    obtain ⟨vs, h, hv⟩ := evs_spec _ _ _ h
    simp only [List.nil_append] at h
    exact pr h fun _ _ => ok_makeFunc ho hu hv
  case makeSlice t x y =>
    obtain ⟨T, hT, e, E, hd, hE, hz, k, k', l, c, hx, hy, h0, hlc, hby, h63, hK⟩ := h
    exact np hK (ok_makeSlice ho hT hd hE hz hx hy h0 hlc hby h63) (by rw [ho]; rfl)
  case slice t x lo hi mx =>
    obtain ⟨rfl, v, hv, h⟩ := h
    obtain ⟨l, h, hl⟩ := alo_spec h
    obtain ⟨hh, h, hhi⟩ := ahi_spec h
    obtain ⟨r, hK, hO⟩ := ok_slice (G := G) (fl := fl) ho hv hl hhi h
    exact np hK hO (by rw [ho]; rfl)
  case fieldAddr s x i =>
    obtain ⟨p, hp, S, hS, f, hf, h0, hK⟩ := h
    exact pr hK fun _ _ => ok_fieldAddr ho hp hS hf h0
  case field s x i =>
    obtain ⟨cs, hx, S, hS, f, hf, T, hT, h⟩ := h
    rcases h with ⟨ha, hK⟩ | ⟨ha, v, hv, hK⟩
    · exact pr hK fun _ _ => ok_field ho hx hS hf hT (.inl ⟨ha, rfl⟩)
    · exact pr hK fun _ _ => ok_field ho hx hS hf hT (.inr ⟨ha, hv⟩)
  case indexAddr t x i =>
    obtain ⟨T, hT, k, n, hi, h0, v, hv, h⟩ := h
    rcases h with ⟨e, E, a, len, c, hd, hE, rfl, hn, hK⟩ | ⟨len, e, E, a, hd, hE, rfl, hn, hK⟩
    · exact pr hK fun _ _ => ok_indexAddr_sl ho hT hi h0 hd hE hv hn
    · exact pr hK fun _ _ => ok_indexAddr_arr ho hT hi h0 hd hE hv hn
  case index t x i =>
    obtain ⟨T, hT, k, n, hi, h0, v, hv, h⟩ := h
    rcases h with ⟨s, hd, rfl, hn, hK⟩ | ⟨len, e, E, cs, hd, hE, rfl, hn, h⟩
    · exact pr hK fun _ _ => ok_index_str ho hT hi h0 hd hv hn
    · rcases h with ⟨ha, hK⟩ | ⟨ha, u, hu, hK⟩
      · exact pr hK fun _ _ => ok_index_arr ho hT hi h0 hd hE hv hn (.inl ⟨ha, rfl⟩)
      · exact pr hK fun _ _ => ok_index_arr ho hT hi h0 hd hE hv hn (.inr ⟨ha, hu⟩)
  case extract x i =>
    obtain ⟨vs, hx, v, hv, hK⟩ := h
    exact pr hK fun _ _ => ok_extract ho hx hv
  case call c =>
    cases hc : c.callee with
    | value f =>
      simp only [hc] at h
      obtain ⟨fid, first, captured, hf, h⟩ := h
      obtain ⟨xs, h, hxs⟩ := evs_spec _ _ _ h
      simp only [List.nil_append] at h
      obtain ⟨v, A', hs, hK⟩ := h
      exact np hK (ok_call ho hc hf hxs hs) (by rw [ho]; rfl)
    | invoke r m => simp only [hc] at h
    | builtin b =>
      cases b <;> simp only [hc] at h <;> (try exact h.elim)
      case len =>
        obtain ⟨t, T, ht, hT, h⟩ := h
        obtain ⟨xs, h, hxs⟩ := evs_spec _ _ _ h
        simp only [List.nil_append] at h
        obtain ⟨v, hv, h⟩ := h
        obtain ⟨r, hK, hO⟩ := ok_len (G := G) (fl := fl) ho hc ht hT hxs hv h
        exact np hK hO (by rw [ho]; rfl)
      case append =>
        obtain ⟨xs, h, hxs⟩ := evs_spec _ _ _ h
        simp only [List.nil_append] at h
        obtain ⟨s, x, rfl, h⟩ := h
        obtain ⟨v, A', hK, hO⟩ := ok_append ho hc hxs h
        exact np hK hO (by rw [ho]; rfl)
      case min =>
        obtain ⟨xs, h, hxs⟩ := evs_spec _ _ _ h
        simp only [List.nil_append] at h
        obtain ⟨k, x, y, rfl, hK⟩ := h
        exact np hK (by simpa using ok_minmax (P := P) (G := G) (fl := fl) (A := A) false ho (by simpa using hc) hxs) (by rw [ho]; rfl)
      case max =>
        obtain ⟨xs, h, hxs⟩ := evs_spec _ _ _ h
        simp only [List.nil_append] at h
        obtain ⟨k, x, y, rfl, hK⟩ := h
        exact np hK (by simpa using ok_minmax (P := P) (G := G) (fl := fl) (A := A) true ho (by simpa using hc) hxs) (by rw [ho]; rfl)

end
end Go.Proofs.YtpaffoiiipgkeaaDoor.Ab
