/- Tools: what stands during planning. -/
import Derived.Test.YtjohiapgancocaaTpB
namespace Go.Proofs.Ytjohiapgancocaa.Ab
open Go.RowKit
set_option linter.unusedVariables false
set_option linter.unusedSimpArgs false
set_option maxRecDepth 100000

structure PJ (A B : Hp) (l : List Tk) (j : Nat) (so su : Value) (out : List Int) (used : List Us) : Prop where
  xt : Xt A.next A B
  ao : Ac B A.next 1 so (out.map ic)
  au : Ac B A.next 3 su (used.map Us.cells)
  ne : ∀ id g n c g' n' c', so = .slice (some ⟨id, 0, some g⟩) n c → su = .slice (some ⟨id, 0, some g'⟩) n' c' → False
  no : so = .slice none 0 0 ↔ out = []
  lo : out.length = j
  ck : chk used = 0
  bd : ∀ (i : Nat) (h : i < out.length) (h' : i < l.length), 0 ≤ out[i] ∧ out[i] + l[i].long ≤ 2000

theorem PJ.grow {A B C : Hp} {l : List Tk} {j : Nat} {so su : Value} {out : List Int} {used : List Us} (h : PJ A B l j so su out used) (x : Xt B.next B C) : PJ A C l j so su out used :=
  ⟨h.xt.trans x, h.ao.xt x, h.au.xt x, h.ne, h.no, h.lo, h.ck, h.bd⟩

theorem ic_one (l : List Int) : ∀ c ∈ l.map ic, ∀ u ∈ c, u.oneCell' = true := by
  intro c hc u hu
  obtain ⟨x, _, rfl⟩ := List.mem_map.1 hc
  simp only [ic, List.mem_cons, List.not_mem_nil, or_false] at hu
  subst hu; rfl
theorem ic_rb {n : Nat} (l : List Int) : ∀ c ∈ l.map ic, ∀ u ∈ c, RB n u := by
  intro c hc u hu
  obtain ⟨x, _, rfl⟩ := List.mem_map.1 hc
  simp only [ic, List.mem_cons, List.not_mem_nil, or_false] at hu
  subst hu; exact RB.int _ _

theorem us_one (l : List Us) : ∀ c ∈ l.map Us.cells, ∀ u ∈ c, u.oneCell' = true := by
  intro c hc u hu
  obtain ⟨x, _, rfl⟩ := List.mem_map.1 hc
  simp only [Us.cells, List.mem_cons, List.not_mem_nil, or_false] at hu
  rcases hu with rfl | rfl | rfl <;> rfl

section
variable {G : Gl} {fl : Nat} {A : Hp}

/-- 'out' grows by a tick. -/
theorem PJ.addO {D : Hp} {l : List Tk} {j : Nat} {so su : Value} {out : List Int} {used : List Us} {x : Int} {f : Value × Hp → Prop} (hA : Hok fl A) (hD : PJ A D l j so su out used) (hj : j < l.length) (hl : l.length ≤ 60)
    (hx0 : 0 ≤ x) (hx1 : x + l[j].long ≤ 2000) (k : ∀ so' D', PJ A D' l (j + 1) so' su (out ++ [x]) used → f (so', D')) :
    @apn Try.prog G fl (D.push (.row [.int .i64 x] 0 1)) #[40, 40] [so, .slice (some ⟨D.next, 0, some 0⟩) 1 1] ⟨f⟩ := by
  have hD' := hD.grow (Xt.push (Xt.refl D) (.row [.int .i64 x] 0 1))
  have hlo' := hD.lo
  refine apn_of (lo := A.next) (sz := 1) ty40 rfl ty3 ty40 rfl rfl (by omega) rfl hD'.ao hA.floor hD'.xt.next (new := [ic x]) ⟨by simp [ic], .inr (.inr ⟨_, _, _, 0, _, rfl, rfl, rfl, by rw [Hp.push_blk, if_pos rfl], fun j x hj => by simpa [ic] using hj⟩)⟩ (ic_one [x]) (by simp; omega) (by simp; omega) ?_
  intro so' D' hao hxt hn hf hsome hid
  have hlt' : ∀ id g n c, su = .slice (some ⟨id, 0, some g⟩) n c → id < (D.push (.row [.int .i64 x] 0 1)).next := fun id g n c e => by
    rcases hD'.au.at_ with ⟨h1, _⟩ | ⟨id', g', n', c', h1, h2, h3, h4, _⟩
    · rw [e] at h1; cases h1
    · rw [e] at h1; cases h1; exact h4
  obtain ⟨sa, sn, sc, hsm⟩ := hsome (.inr (by simp))
  refine k so' D' ⟨⟨fun id hid => (hxt.blk id hid).trans (hD'.xt.blk id hid), hxt.next⟩, by simpa using hao, hD'.au.keep hn (fun id g n c e => hf id (hlt' id g n c e) fun g' n' c' e' => hD'.ne id g' n' c' g n c e' e), fun id g n c g' n' c' e e' => ?_, ?_, by simp [hlo'], hD.ck, fun i hi hi' => ?_⟩
  · rcases hid id g n c e with h | ⟨g0, n0, c0, h⟩
    · have := hlt' id g' n' c' e'; omega
    · exact hD'.ne id g0 n0 c0 g' n' c' h e'
  · rw [hsm]; simp
  · by_cases hio : i < out.length
    · rw [List.getElem_append_left hio]; exact hD.bd i hio hi'
    · have : i = j := by simp at hi; omega
      subst this
      rw [List.getElem_append_right (by omega)]
      simp only [hlo', Nat.sub_self, List.getElem_cons_zero]
      exact ⟨hx0, hx1⟩

/-- 'used' grows by a use. -/
theorem PJ.addU {D : Hp} {l : List Tk} {j : Nat} {so su : Value} {out : List Int} {used : List Us} {u : Us} {f : Value × Hp → Prop} (hA : Hok fl A) (hD : PJ A D l j so su out used) (hul : used.length < 60)
    (hv : u.valid) (hn : ∀ v ∈ used, ¬ u.clash v) (k : ∀ su' D', PJ A D' l j so su' out (used ++ [u]) → f (su', D')) :
    @apn Try.prog G fl (D.push (.row u.cells 0 3)) #[22, 22] [su, .slice (some ⟨D.next, 0, some 0⟩) 1 1] ⟨f⟩ := by
  have hD' := hD.grow (Xt.push (Xt.refl D) (.row u.cells 0 3))
  refine apn_of (lo := A.next) (sz := 3) ty22 rfl ty29 ty22 rfl rfl (by omega) rfl hD'.au hA.floor hD'.xt.next (new := [u.cells]) ⟨by simp [Us.cells], .inr (.inr ⟨_, _, _, 0, _, rfl, rfl, rfl, by rw [Hp.push_blk, if_pos rfl], fun j x hj => by simpa using hj⟩)⟩ (us_one [u]) (by simp; omega) (by simp; omega) ?_
  intro su' D' hau hxt hn' hf hsome hid
  have hlt' : ∀ id g n c, so = .slice (some ⟨id, 0, some g⟩) n c → id < (D.push (.row u.cells 0 3)).next := fun id g n c e => by
    rcases hD'.ao.at_ with ⟨h1, _⟩ | ⟨id', g', n', c', h1, h2, h3, h4, _⟩
    · rw [e] at h1; cases h1
    · rw [e] at h1; cases h1; exact h4
  refine k su' D' ⟨⟨fun id hid => (hxt.blk id hid).trans (hD'.xt.blk id hid), hxt.next⟩, hD'.ao.keep hn' (fun id g n c e => hf id (hlt' id g n c e) fun g' n' c' e' => hD'.ne id g n c g' n' c' e e'), by simpa using hau, fun id g n c g' n' c' e e' => ?_, hD.no, hD.lo, chk_snoc hD.ck hul hv hn, hD.bd⟩
  rcases hid id g' n' c' e' with h | ⟨g0, n0, c0, h⟩
  · have := hlt' id g n c e; omega
  · exact hD'.ne id g n c g0 n0 c0 e h
end

theorem atOf_bounds {l : List Tk} {out : List Int} (bd : ∀ (i : Nat) (h : i < out.length) (h' : i < l.length), 0 ≤ out[i] ∧ out[i] + l[i].long ≤ 2000) (hol : out.length ≤ l.length) :
    ∀ (xs : List Int) (m : Int), 0 ≤ m → m ≤ 2000 → (∀ x ∈ xs, 0 ≤ x ∧ x < (out.length : Int)) →
      0 ≤ xs.foldl (fun m x => max m (out.getD x.toNat 0 + (l[x.toNat]?.map Tk.long).getD 0)) m ∧ xs.foldl (fun m x => max m (out.getD x.toNat 0 + (l[x.toNat]?.map Tk.long).getD 0)) m ≤ 2000
  | [], m, h1, h2, _ => ⟨h1, h2⟩
  | x :: xs, m, h1, h2, hx => by
    obtain ⟨x0, x1⟩ := hx x (by simp)
    have hxo : x.toNat < out.length := by omega
    have hb := bd x.toNat hxo (by omega)
    have e : out.getD x.toNat 0 + (l[x.toNat]?.map Tk.long).getD 0 = out[x.toNat] + l[x.toNat].long := by
      rw [List.getD_eq_getElem?_getD, List.getElem?_eq_getElem hxo, List.getElem?_eq_getElem (show x.toNat < l.length by omega)]; rfl
    rw [List.foldl_cons, e]
    exact atOf_bounds bd hol xs _ (by omega) (by omega) fun y hy => hx y (by simp [hy])
end Go.Proofs.Ytjohiapgancocaa.Ab
