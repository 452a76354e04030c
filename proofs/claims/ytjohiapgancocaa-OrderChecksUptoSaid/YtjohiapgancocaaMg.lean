/- slices.Sorted(slices.Values(p)) of numbers: the contract. -/
import Derived.Test.YtjohiapgancocaaMe
import Derived.Test.YtjohiapgancocaaMf
namespace Go.Proofs.Ytjohiapgancocaa.Ab
open Go.RowKit
set_option linter.unusedVariables false
set_option linter.unusedSimpArgs false
set_option maxRecDepth 100000

/-- A block that a call has made is taken into the abstract heap. -/
theorem HR.adopt {G : Gl} {μ : Mu} {fl : Nat} {A : Hp} {w w' : World} (H : HR G μ fl A w) (hfl : fl ≤ A.next) (hB : Below w.heap.size w w') (cs : List Value) {c : Array Value} {t : TypeId} {g : Nat} (e : Nat)
    (hg : w.heap.size ≤ g) (hlen : cs.length ≤ c.size) (hcs : ∀ (j : Nat) (v : Value), cs[j]? = some v → ∃ v' : Value, c[j]? = some v' ∧ VR μ A v v')
    (hnew : w'.heap[g]? = some (.cells c t (0, 0))) :
    HR G (μ.add A.next (g, 0, c.size)) fl (A.push (.row cs 0 e)) w' ∧
      Trans fl μ A w (μ.add A.next (g, 0, c.size)) (A.push (.row cs 0 e)) w' := by
  have E : Ext μ A (μ.add A.next (g, 0, c.size)) (A.push (.row cs 0 e)) := Ext.push _ _
  have hold : ∀ b, b < w.heap.size → w'.heap[b]? = w.heap[b]? := fun b hb => hB.block b hb
  have mo : ∀ i, i ≠ A.next → (μ.add A.next (g, 0, c.size)) i = μ i := fun i hi => by simp only [Mu.add, if_neg hi]
  have mn : (μ.add A.next (g, 0, c.size)) A.next = some (g, 0, c.size) := by simp only [Mu.add, if_true]
  have bo : ∀ i, i ≠ A.next → (A.push (.row cs 0 e)).blk i = A.blk i := fun i hi => by rw [Hp.push_blk, if_neg hi]
  have bn : (A.push (.row cs 0 e)).blk A.next = some (.row cs 0 e) := by rw [Hp.push_blk, if_pos rfl]
  refine ⟨⟨fun id hi => ?_, fun id cs' g e' hb v hv => ?_, fun id cs' g e' b o S hb hm => ?_, fun id cs' g e' b o S hf hb hm j hj => ?_, fun id id' b o S b' o' S' hne hf hb hb' hm hm' => ?_, fun g gs hg => ?_, fun g gs id b o S hg hf hb hm => ?_, fun id k hb => ?_, fun id k b o S hb ho hm => ?_⟩, ?_⟩
  · simp only [Hp.push_next] at hi
    rw [bo id (by omega)]; exact H.wf id (by omega)
  · by_cases hid : id = A.next
    · subst hid
      rw [bn] at hb; cases hb
      obtain ⟨j, hj⟩ := List.mem_iff_getElem?.1 hv
      obtain ⟨v', _, h6⟩ := hcs j v hj
      exact h6.rb.mono (by simp)
    · rw [bo id hid] at hb
      exact (H.refs id cs' g e' hb v hv).mono (by simp)
  · by_cases hid : id = A.next
    · subst hid
      rw [bn] at hb; cases hb
      rw [mn] at hm; cases hm
      refine ⟨c, t, (0, 0), hnew, rfl, by omega, fun j v hj => ?_⟩
      obtain ⟨v', h5, h6⟩ := hcs j v hj
      exact ⟨v', by rw [Nat.zero_add]; exact h5, h6.mono E⟩
    · rw [bo id hid] at hb; rw [mo id hid] at hm
      obtain ⟨c', t', fr', hw', hS, hl, hc⟩ := H.row id cs' g e' b o S hb hm
      refine ⟨c', t', fr', ?_, hS, hl, fun j v hj => ?_⟩
      · rw [hold b (Array.getElem?_eq_some_iff.1 hw').1]; exact hw'
      · obtain ⟨v', h5, h6⟩ := hc j v hj
        exact ⟨v', h5, h6.mono E⟩
  · by_cases hid : id = A.next
    · subst hid
      rw [mn] at hm; cases hm
      simp only [World.frozen?, hnew]
      simp
    · rw [bo id hid] at hb; rw [mo id hid] at hm
      have hx := H.free id cs' g e' b o S hf hb hm j hj
      have hbl := live_lt H (by rw [hb]; simp) hm
      simp only [World.frozen?, hold b hbl] at hx ⊢
      exact hx
  · by_cases hid : id = A.next
    · subst hid
      rw [bo id' (Ne.symm hne)] at hb'; rw [mo id' (Ne.symm hne)] at hm'
      rw [mn] at hm; cases hm
      have := live_lt H hb' hm'
      omega
    · rw [bo id hid] at hb; rw [mo id hid] at hm
      have hbl := live_lt H hb hm
      by_cases hid' : id' = A.next
      · subst hid'
        rw [mn] at hm'; cases hm'
        omega
      · rw [bo id' hid'] at hb'; rw [mo id' hid'] at hm'
        exact H.apart id id' b o S b' o' S' hne hf hb hb' hm hm'
  · obtain ⟨c', t', fr', hw', hc⟩ := H.glob g gs hg
    exact ⟨c', t', fr', (hold g (Array.getElem?_eq_some_iff.1 hw').1).trans hw', hc⟩
  · obtain ⟨c', t', fr', hw', hc⟩ := H.glob g gs hg
    have hgl := (Array.getElem?_eq_some_iff.1 hw').1
    by_cases hid : id = A.next
    · subst hid
      rw [mn] at hm; cases hm
      omega
    · rw [bo id hid] at hb; rw [mo id hid] at hm
      exact H.globApart g gs id b o S hg hf hb hm
  · by_cases hid : id = A.next
    · subst hid
      rw [bn] at hb; cases hb
      exact trivial
    · rw [bo id hid] at hb
      exact (H.orefs id k hb).mono (by simp)
  · by_cases hid : id = A.next
    · subst hid
      rw [bn] at hb; cases hb
      cases ho
    · rw [bo id hid] at hb; rw [mo id hid] at hm
      obtain ⟨ob, hw', hk⟩ := H.obj id k b o S hb ho hm
      exact ⟨ob, (hold b (Array.getElem?_eq_some_iff.1 hw').1).trans hw', hk.mono E⟩
  · refine ⟨hB.os, hB.tape, hB.output, hB.size, E, fun id hi => ⟨bo id (by omega), mo id (by omega)⟩, fun id hi hm => by rw [mo id (by omega)]; exact hm, fun b hb _ => hold b hb, fun b ⟨id, o, S, hf, hb, hm⟩ => ?_⟩
    by_cases hid : id = A.next
    · subst hid
      rw [mn] at hm; cases hm
      exact .inr hg
    · rw [bo id hid] at hb; rw [mo id hid] at hm
      exact .inl ⟨id, o, S, hf, hb, hm⟩

theorem msI_len (zs : List Int) : (msI zs).length = zs.length := List.length_mergeSort _
theorem iC_flat (zs : List Int) : (zs.map iC).flatten = zs.map (Value.int .i64) := by
  induction zs with
  | nil => rfl
  | cons z zs ih => simp [iC, ih]

section
variable {G : Gl} {fl : Nat} {A : Hp}
/-- What slices.Sorted hands back, and the heap then. -/
def srtV (A : Hp) (zs : List Int) : Value := if zs = [] then .slice none 0 0 else .slice (some ⟨A.next, 0, some 0⟩) zs.length zs.length
def srtA (A : Hp) (zs : List Int) : Hp := if zs = [] then A else A.push (.row ((msI zs).map (Value.int .i64)) 0 1)

theorem sorted_ok {v : Value} {zs : List Int} {bx g e : Nat} (hbx : A.blk bx = some (.row [v] g e)) (hs : Sl A 1 v (zs.map iC)) (hN : zs.length ≤ 1048576) :
    Sound Try.prog G 40 [.func (.func 54) #[] #[.pointer (some ⟨bx, 0, some g⟩)]] fl A (srtV A zs) (srtA A zs) := by
  have hfn : ∃ fn, Try.prog.funcs[40]? = some fn ∧ (fn.name == "runtime.NumGoroutine") = false ∧ fn.body.isNone = false := ⟨_, Try.func40, by kernel_rfl, by kernel_rfl⟩
  intro μ w args' H hfl ⟨hsz, hall⟩
  have hsa : args'.size = 1 := by simpa using hsz.symm
  obtain ⟨f', rfl⟩ : ∃ f', args' = #[f'] := ⟨args'[0], by
    apply Array.ext
    · simpa using hsa
    · intro i h1 h2
      have : i = 0 := by simp at h2; omega
      subst this; rfl⟩
  have v0 := hall 0 (by simp) (by simp)
  simp at v0
  cases v0 with
  | @func _ xs ys cs ds e1 _ e2 h4 =>
  have ey : ys = #[] := Array.size_eq_zero_iff.1 (by simpa using e1.symm)
  subst ey
  have hd : ds.size = 1 := by simpa using e2.symm
  obtain ⟨p', rfl⟩ : ∃ p', ds = #[p'] := ⟨ds[0], by
    apply Array.ext
    · simpa using hd
    · intro i h1 h2
      have : i = 0 := by simp at h2; omega
      subst this; rfl⟩
  have vp := h4 0 (by simp) (by simp)
  simp at vp
  cases vp with
  | @ptr _ a' h =>
  rcases h with ⟨h, _⟩ | ⟨hlt, g', hg', hl⟩
  · cases h
  cases hg'
  obtain ⟨-, hl⟩ := hl _ _ _ hbx
  obtain ⟨Bs, Bo, S0, hm0, rfl⟩ := hl rfl
  obtain ⟨c0, t0, fr0, hw0, -, -, hcell0⟩ := H.row bx _ _ _ Bs Bo S0 hbx hm0
  obtain ⟨v', hv', hvr⟩ := hcell0 0 v rfl
  have hBl := live_lt H (by rw [hbx]; simp) hm0
  have hc : w.cell? ⟨Bs, Bo + 0, none⟩ = some v' := by rw [cell?_plain w Bs _ hw0]; exact hv'
  have hI : HoldsI w.heap.size w v' zs := by
    by_cases hz : zs = []
    · subst hz
      obtain ⟨o, c, rfl⟩ := hs.len
      cases hvr with
      | sl0 n c => exact .inl ⟨_, _, rfl, rfl⟩
      | sl hlt hc hn hl => exact .inl ⟨_, _, rfl, rfl⟩
    · have hpos : 0 < zs.length := List.length_pos_iff.2 hz
      rcases hs.2 with ⟨_, h⟩ | ⟨a, g, _, h, _⟩ | ⟨a, n, c, g, ds, rfl, hn, hg, hb, hds⟩
      · exact absurd (by simpa using h) hz
      · exact absurd (by simpa using h) hz
      rw [List.length_map] at hn
      cases hvr with
      | @sl a a' n c0 c' hlt hc hnc hsl =>
      obtain ⟨g', hg', hsl⟩ := hsl
      rw [hg] at hg'
      cases hg'
      obtain ⟨hgg, hsl⟩ := hsl _ _ _ hb
      obtain ⟨b, o, Sz, hmu, hsl⟩ := hsl rfl
      obtain ⟨rfl, hS⟩ := hsl (by omega)
      obtain ⟨cc, t, fr, hw, hcS, hrow, hcells⟩ := H.row _ _ _ _ b o Sz hb hmu
      have hbl := live_lt H (by rw [hb]; simp) hmu
      subst hn
      refine .inr ⟨b, o + a.off, c', rfl, hbl, fun j hj => ?_⟩
      have h1 : (zs.map iC).flatten[j]? = some (.int .i64 (zs[j]?.getD 0)) := by
        rw [iC_flat, List.getElem?_map, List.getElem?_eq_getElem hj]; rfl
      obtain ⟨v', h3, h4⟩ := hcells _ _ (hds j _ h1)
      cases h4
      rw [cell?_plain w b _ hw, Nat.add_assoc]; exact h3
  have hcon := sorted_in 5 (by omega) Bs (Bo + 0) v' zs (by simp [maxLen]; omega) (by omega) w hBl hc hI
  refine .inl ⟨hfn, (callsIn_wide.1 hcon).mono fun e' w' he => ?_⟩
  obtain ⟨rv, rfl, hrow, hnil, hB⟩ := he
  refine ⟨rv, rfl, ?_⟩
  by_cases hz : zs = []
  · subst hz
    have : rv = .slice none 0 0 := hnil.2 (by simp [msI])
    subst this
    obtain ⟨k1, k2⟩ := H.of_below hfl hB
    exact ⟨μ, .sl0 _ _, by simpa [srtA] using k1, by simpa [srtA] using k2⟩
  · have hpos : 0 < zs.length := List.length_pos_iff.2 hz
    rcases hrow.2 with ⟨rfl, hz'⟩ | ⟨gb, cap, cur, rfl, hbase, hgb, r1, r2, r3, r4⟩
    · rw [msI_len] at hz'; omega
    · rw [msI_len] at r1 r4 ⊢
      obtain ⟨k1, k2⟩ := H.adopt hfl hB ((msI zs).map (Value.int .i64)) 1 hbase (by rw [List.length_map, msI_len]; omega) (fun j x hj => by
        rw [← r4, List.getElem?_take] at hj
        split at hj
        · have hm : x ∈ (msI zs).map (Value.int .i64) := by
            rw [← r4]; exact List.mem_of_getElem? (i := j) (by rw [List.getElem?_take, if_pos (by assumption)]; exact hj)
          obtain ⟨z, _, rfl⟩ := List.mem_map.1 hm
          exact ⟨_, by simpa using hj, .int _ _⟩
        · cases hj) hgb
      refine ⟨_, ?_, by rw [srtA, if_neg hz]; exact k1, by rw [srtA, if_neg hz]; exact k2⟩
      rw [srtV, if_neg hz, srtA, if_neg hz]
      refine .sl (by simp) r1 r1 ⟨0, rfl, fun cs g e hb => ⟨Nat.zero_le _, fun hg => ⟨gb, 0, cur.size, by simp [Mu.add], fun _ => ⟨by simp, ?_⟩⟩⟩⟩
      rw [Hp.push_blk, if_pos rfl] at hb
      cases hb
      simp [r3]
end
end Go.Proofs.Ytjohiapgancocaa.Ab
