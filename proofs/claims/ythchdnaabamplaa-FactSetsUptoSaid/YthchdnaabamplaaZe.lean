/- slices.SortFunc over structs: the shelf's contract as one of the machine's. -/
import Derived.Test.YthchdnaabamplaaAb21
import Derived.Shelf.SlSortCmp.NoneTotal
namespace Go.Proofs.Ythchdnaabamplaa.Ab
open Go.RowKit Go.Shelf Go.Lib Go.Sort
set_option linter.unusedVariables false
set_option linter.unusedSimpArgs false
set_option maxRecDepth 100000

theorem wr_eq : ∀ (vs cs : List Value) (o : Nat), o + vs.length ≤ cs.length → wr cs o vs = cs.take o ++ (vs ++ cs.drop (o + vs.length))
  | [], cs, o, h => by rw [wr]; simp
  | v :: vs, cs, o, h => by
    simp only [List.length_cons] at h
    rw [wr, wr_eq vs (cs.set o v) (o + 1) (by simp; omega)]
    have h1 : (cs.set o v).take (o + 1) = cs.take o ++ [v] := by
      rw [List.take_add_one, List.getElem?_set_self (by omega), List.take_set_of_le (Nat.le_refl _)]; rfl
    have h2 : (cs.set o v).drop (o + 1 + vs.length) = cs.drop (o + (v :: vs).length) := by
      rw [List.drop_set_of_lt (by omega), List.length_cons]
      congr 1; omega
    rw [h1, h2]; simp
theorem wr_full {cs vs : List Value} (h : vs.length = cs.length) : wr cs 0 vs = vs := by
  rw [wr_eq vs cs 0 (by omega)]; simp [h]

/-- The sorted list. -/
def srt {α : Type} (cf : α → α → Int) (l : List α) : List α := l.mergeSort fun x y => !(ltOf cf) y x
theorem srt_perm {α : Type} (cf : α → α → Int) (l : List α) : (srt cf l).Perm l := List.mergeSort_perm _ _
theorem srt_len {α : Type} (cf : α → α → Int) (l : List α) : (srt cf l).length = l.length := (srt_perm cf l).length_eq

section
variable {α : Type} [Inhabited α]
theorem flatK_at {enc : α → List Value} {k : Nat} (hk : ∀ x, (enc x).length = k) {l : List α} {j : Nat} {v : Value} (h : (l.map enc).flatten[j]? = some v) : (flatK enc k l.toArray)[j]! = v := by
  have hl : ∀ c ∈ l.map enc, c.length = k := fun c hc => by obtain ⟨x, _, rfl⟩ := List.mem_map.1 hc; exact hk x
  have hjl := (List.getElem?_eq_some_iff.1 h).1
  rw [flat_len hl, List.length_map] at hjl
  have k0 : 0 < k := by
    rcases Nat.eq_zero_or_pos k with h0 | h0
    · subst h0; omega
    · exact h0
  obtain ⟨c, h1, h2⟩ := flatten_split k0 hl h
  rw [List.getElem?_map] at h1
  obtain ⟨x, hx, rfl⟩ := Option.map_eq_some_iff.1 h1
  rw [get_flatK _ _ _ _ (by simpa using hjl)]
  have e1 : l.toArray[j / k]! = x := by simp [hx]
  rw [e1]
  simp [h2]

set_option maxHeartbeats 1000000 in
theorem sort_sound {P : Program} {ρ : Ren} {G : Gl} {fl : Nat} {A : Hp} (L : SlLaysF0.n6 P ρ) (k : Nat) (aE : ∀ w, (isAgg (ρ.t 24)).run P w = .ok true w) (zE : ∀ w, (Go.sizeOf (ρ.t 24)).run P w = .ok k w) (enc : α → List Value) (hk : ∀ x, (enc x).length = k) (h1 : ∀ x, ∀ v ∈ enc x, v.oneCell' = true)
    (hz : ∀ x, ∀ v ∈ enc x, zcA v = true ∧ ∀ (μ : Mu) (A : Hp) (u' : Value), VR μ A v u' → u' = v)
    (cf : α → α → Int) (hO : SWO (ltOf cf)) (hT : ∀ x y, (ltOf cf) x y = false → (ltOf cf) y x = false → x = y) (gc : Nat)
    (eg : ∀ args w, (callFunc gc args).run P w = .ok (.enter gc args) w)
    (hcmp : ∀ (x y : α) (W : World), Calls P gc #[.agg (enc x).toArray, .agg (enc y).toArray] W fun e w' => e = .returned (.int .i64 (cf x y)) ∧ ∃ q os', w' = Go.Sort.grow (W.drewN q) os')
    (hfn : ∃ fn, P.funcs[ρ.f 6]? = some fn ∧ (fn.name == "runtime.NumGoroutine") = false ∧ fn.body.isNone = false)
    {l : List α} {id g c : Nat} (hid : fl ≤ id) (hb : A.blk id = some (.row (l.map enc).flatten g k)) (hl0 : l ≠ []) (hk0 : 0 < k) (hlc : l.length ≤ c) (hl : l.length < 4611686018427387904) :
    Sound P G (ρ.f 6) [.slice (some ⟨id, 0, some g⟩) l.length c, .func (.func gc) #[] #[]] fl A (.tuple #[]) (A.put id (.row ((srt cf l).map enc).flatten g k)) := by
  intro μ w args' H hfl hargs
  obtain ⟨hsz, hall⟩ := hargs
  have hlen : ∀ c ∈ l.map enc, c.length = k := fun c hc => by obtain ⟨x, _, rfl⟩ := List.mem_map.1 hc; exact hk x
  have hlen' : ∀ c ∈ (srt cf l).map enc, c.length = k := fun c hc => by obtain ⟨x, _, rfl⟩ := List.mem_map.1 hc; exact hk x
  have hs : args'.size = 2 := by simpa using hsz.symm
  obtain ⟨s', f', rfl⟩ : ∃ s' f', args' = #[s', f'] := ⟨args'[0], args'[1], by
    apply Array.ext
    · simpa using hs
    · intro i h1 h2
      have : i = 0 ∨ i = 1 := by simp at h2; omega
      rcases this with rfl | rfl <;> rfl⟩
  have v0 := hall 0 (by simp) (by simp)
  have v1 := hall 1 (by simp) (by simp)
  simp at v0 v1
  cases v1 with
  | @func _ xs ys cs ds e1 _ e2 _ =>
  have ey : ys = #[] := Array.size_eq_zero_iff.1 (by simpa using e1.symm)
  have ed : ds = #[] := Array.size_eq_zero_iff.1 (by simpa using e2.symm)
  subst ey ed
  cases v0 with
  | @sl a a' n c0 c' hlt hc hn hsl =>
  obtain ⟨g', hg', hsl⟩ := hsl
  obtain ⟨hgg, hsl⟩ := hsl _ _ _ hb
  cases hg'
  obtain ⟨b, o, S, hm, hsl⟩ := hsl rfl
  have hlp : 0 < l.length := List.length_pos_iff.2 hl0
  obtain ⟨rfl, hS⟩ := hsl (by omega)
  rw [Nat.add_zero] at hS ⊢
  obtain ⟨cc, t, fr, hw, hcS, hrow, hcells⟩ := H.row id _ _ _ b o S hb hm
  rw [flat_len hlen, List.length_map] at hrow
  have hsize := flat_len hlen
  rw [List.length_map] at hsize
  have hH : HoldsK enc k w b o l.toArray := by
    intro j hj
    have hj' : j < (l.map enc).flatten.length := by rw [hsize]; simpa using hj
    obtain ⟨v, hv⟩ : ∃ v, (l.map enc).flatten[j]? = some v := ⟨_, List.getElem?_eq_getElem hj'⟩
    obtain ⟨v', h2, h3⟩ := hcells j v hv
    have hmem : v ∈ (l.map enc).flatten := List.mem_of_getElem? hv
    obtain ⟨cx, hcx, hvx⟩ := List.mem_flatten.1 hmem
    obtain ⟨x, _, rfl⟩ := List.mem_map.1 hcx
    have h4 := (hz x v hvx).2 _ _ _ h3
    subst h4
    refine ⟨?_, H.free id _ _ _ b o S hid hb hm (o + j) (by omega)⟩
    rw [cell?_plain w b (o + j) hw, h2, flatK_at hk hv]; rfl
  have hbl := live_lt H (by rw [hb]; simp) hm
  have hcon := AnyQ.slices_SortFunc_total L k aE zE enc hk h1 cf hO gc #[] b o c' l.toArray w eg (fun m os dk _ x y => hcmp x y _) hH hbl (by simpa using hl) hT
  rw [List.size_toArray] at hcon
  refine .inl ⟨hfn, hcon.mono fun e w' he => ⟨_, he.1, μ, ?_⟩⟩
  obtain ⟨-, n, os, rfl⟩ := he
  have h5 : (HR G μ fl A (Sort.ahead w n)) := H.of_heap rfl
  have hvl : (((srt cf l).map enc).flatten).length = ((l.map enc).flatten).length := by
    rw [flat_len hlen', hsize, List.length_map, srt_len]
  have h6 := HR.setCells hid hm ((srt cf l).map enc).flatten ((srt cf l).map enc).flatten A (Sort.ahead w n) _ 0 h5 hb (by omega) rfl (fun j v v' e1 e2 => by
    rw [e1] at e2; cases e2
    have hmem : v ∈ ((srt cf l).map enc).flatten := List.mem_of_getElem? e1
    obtain ⟨cx, hcx, hvx⟩ := List.mem_flatten.1 hmem
    obtain ⟨x, _, rfl⟩ := List.mem_map.1 hcx
    exact VR.of_zcA (hz x v hvx).1)
  rw [wr_full hvl] at h6
  have h7 : putRowK enc k (Sort.ahead w n) b o (l.toArray.toList.mergeSort fun x y => !(ltOf cf) y x).toArray = (Sort.ahead w n).setCells b (o + 0) ((srt cf l).map enc).flatten := by
    have hH2 : Holds _root_.id (Sort.ahead w n) b o (flatK enc k l.toArray) := hH
    have hp := setCells_putRow (Sort.ahead w n) b o ((srt cf l).map enc).flatten 0 (flatK enc k l.toArray) (by rw [size_flatK, hvl, hsize]; simp)
    rw [putRow_self _ _ _ _ _ hH2] at hp
    rw [hp]
    show putRow _root_.id _ b o (flatK enc k (srt cf l).toArray) = _
    congr 1
    refine ext_get! (by simp [srt_len]) fun t ht => ?_
    have ht' : t < ((srt cf l).map enc).flatten.length := by rw [flat_len hlen', List.length_map]; simpa using ht
    rw [get_setMany _ _ _ _ (by rw [size_flatK]; simpa [srt_len] using ht), if_pos ⟨Nat.zero_le _, by omega⟩, Nat.sub_zero]
    rw [flatK_at hk (List.getElem?_eq_getElem ht')]
    rw [getElem!_pos _ t ht']
  have h8 : sortWorldK enc k w b o n (l.toArray.toList.mergeSort fun x y => !(ltOf cf) y x).toArray os = Go.Sort.grow ((Sort.ahead w n).setCells b (o + 0) ((srt cf l).map enc).flatten) os := by
    rw [← h7]; rfl
  rw [h8]
  have h9 : Go.RowKit.Below ((Sort.ahead w n).setCells b (o + 0) ((srt cf l).map enc).flatten).heap.size ((Sort.ahead w n).setCells b (o + 0) ((srt cf l).map enc).flatten) (Go.Sort.grow ((Sort.ahead w n).setCells b (o + 0) ((srt cf l).map enc).flatten) os) :=
    ⟨rfl, rfl, rfl, by simp [Go.Sort.grow], fun i hi => by
      show (_ ++ os)[i]? = _
      rw [Array.getElem?_append_left hi]⟩
  obtain ⟨k1, k2⟩ := h6.1.of_below hfl h9
  exact ⟨VR.of_zcA rfl, k1, (Trans.of_heap fl μ A (w := w) (w' := Sort.ahead w n) rfl rfl rfl rfl).trans (h6.2.trans k2)⟩
end
end Go.Proofs.Ythchdnaabamplaa.Ab
