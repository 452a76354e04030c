/- Words: strings.Join. -/
import Derived.Test.YtjgkodhadgfbmaaDoorDl
import Derived.Test.YtjgkodhadgfbmaaDoorSj
namespace Go.Proofs.YtjgkodhadgfbmaaDoor.Ab
open Go.RowKit
set_option linter.unusedVariables false
set_option linter.unusedSimpArgs false
set_option maxRecDepth 100000

section
variable {G : Gl} {fl : Nat} {A : Hp}
theorem join_ok {v : Value} {xs : List (List UInt8)} (hs : Sl A 1 v (xs.map sC)) (hN : xs.length ≤ 1048576) (hm : ∀ x ∈ xs, x.length ≤ 1048576) :
    Sound Tryd.prog G 28 [v, .string (S [32])] fl A (.string (S (jn xs))) A := by
  have hfn : ∃ fn, Tryd.prog.funcs[28]? = some fn ∧ (fn.name == "runtime.NumGoroutine") = false ∧ fn.body.isNone = false := ⟨_, Tryd.func28, by kernel_rfl, by kernel_rfl⟩
  have hjl := jn_len hm
  have hjl2 : xs.length * (1048576 + 1) ≤ 1048576 * (1048576 + 1) := Nat.mul_le_mul_right _ hN
  intro μ w args' H hfl ⟨hsz, hall⟩
  have hsa : args'.size = 2 := by simpa using hsz.symm
  obtain ⟨s', f', rfl⟩ : ∃ s' f', args' = #[s', f'] := ⟨args'[0], args'[1], by
    apply Array.ext
    · simpa using hsa
    · intro i h1 h2
      have : i = 0 ∨ i = 1 := by simp at h2; omega
      rcases this with rfl | rfl <;> rfl⟩
  have v0 := hall 0 (by simp) (by simp)
  have v1 := hall 1 (by simp) (by simp)
  simp at v0 v1
  cases v1
  by_cases hx0 : xs = []
  · subst hx0
    obtain ⟨o, c, rfl⟩ := hs.len
    obtain ⟨o', c', rfl⟩ : ∃ o' c', s' = .slice o' 0 c' := by
      cases v0 with
      | sl0 n c => exact ⟨_, _, rfl⟩
      | sl hlt hc hn hl => exact ⟨_, _, rfl⟩
    have hcon := Tryd.strings_Join_none o' c' (S [32]) w
    refine .inl ⟨hfn, hcon.mono fun e w' he => ⟨_, he.1, μ, ?_⟩⟩
    rw [he.2]
    exact ⟨.string _, H, Trans.refl _ _ _ _⟩
  have hpos : 0 < xs.length := List.length_pos_iff.2 hx0
  rcases hs.2 with ⟨_, h⟩ | ⟨a, g, _, h, _⟩ | ⟨a, n, c, g, ds, rfl, hn, hg, hb, hds⟩
  · exact absurd (by simpa using h) hx0
  · exact absurd (by simpa using h) hx0
  rw [List.length_map] at hn
  cases v0 with
  | @sl a a' n c0 c' hlt hc hnc hsl =>
  obtain ⟨g', hg', hsl⟩ := hsl
  rw [hg] at hg'
  cases hg'
  obtain ⟨hgg, hsl⟩ := hsl _ _ _ hb
  obtain ⟨b, o, Sz, hmu, hsl⟩ := hsl rfl
  obtain ⟨rfl, hS⟩ := hsl (by omega)
  obtain ⟨cc, t, fr, hw, hcS, hrow, hcells⟩ := H.row _ _ _ _ b o Sz hb hmu
  have hbl := live_lt H (by rw [hb]; simp) hmu
  have hcell : ∀ (j : Nat) x, (xs.map S)[j]? = some x → w.cell? ⟨b, o + a.off + j, none⟩ = some (.string x) := by
    intro j x hj
    rw [List.getElem?_map] at hj
    obtain ⟨y, hy, rfl⟩ := Option.map_eq_some_iff.1 hj
    have h1 : (xs.map sC).flatten[j]? = some (.string (S y)) := by
      rw [sC_flat, List.getElem?_map, hy]; rfl
    obtain ⟨v', h3, h4⟩ := hcells _ _ (hds j _ h1)
    rw [str_same h4] at h3
    rw [cell?_plain w b _ hw, Nat.add_assoc]; exact h3
  have hmap : (xs.map S).map (·.data.toList) = xs := by rw [List.map_map]; simp [Function.comp_def]
  have hcon := Tryd.strings_Join b (o + a.off) c' (xs.map S) (S [32]) w hcell hbl (by simp; omega) (by simp; omega) (by
    rw [hmap]; show (jn xs).length ≤ _; omega)
  rw [hmap, List.length_map, hn] at hcon
  refine .inl ⟨hfn, hcon.mono fun e w' he => ⟨_, he.1, μ, ?_⟩⟩
  obtain ⟨k1, k2⟩ := H.of_below hfl he.2
  exact ⟨.string _, k1, k2⟩
end
end Go.Proofs.YtjgkodhadgfbmaaDoor.Ab
