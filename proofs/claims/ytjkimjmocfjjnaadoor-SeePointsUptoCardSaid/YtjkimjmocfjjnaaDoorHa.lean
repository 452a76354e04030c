/- Points of poses: what the program's boxes are, and the reference's ranges. -/
import Derived.Test.YtjkimjmocfjjnaaDoorGd
import Derived.Test.YtjkimjmocfjjnaaDoorVq
namespace Go.Proofs.YtjkimjmocfjjnaaDoor.Ab
open Go.RowKit
set_option linter.unusedVariables false
set_option linter.unusedSimpArgs false
set_option maxRecDepth 100000


theorem csq_anti {x y : Rat} (h0 : 0 ≤ x) (h : x ≤ y) : csq y ≤ csq x := by
  have hx : 0 < (1 + x)⁻¹ := Rat.inv_pos.2 (by grind)
  have hy : 0 < (1 + y)⁻¹ := Rat.inv_pos.2 (by grind)
  have h1 : 0 ≤ (y - x) * ((1 + x)⁻¹ * (1 + y)⁻¹) := Rat.mul_nonneg (by grind) (Rat.le_of_lt (Rat.mul_pos hx hy))
  have n1 : 1 + x ≠ 0 := by grind
  have n2 : 1 + y ≠ 0 := by grind
  have e : csq x - csq y = 2 * ((y - x) * ((1 + x)⁻¹ * (1 + y)⁻¹)) := by unfold csq; grind
  grind
theorem sin_le {p q : Rat} (h : 0 ≤ (p - q) * (1 - p * q)) : tsin (some q) ≤ tsin (some p) := by
  have hp : 0 < (1 + p * p)⁻¹ := Rat.inv_pos.2 (by have := sq_nn p; grind)
  have hq : 0 < (1 + q * q)⁻¹ := Rat.inv_pos.2 (by have := sq_nn q; grind)
  have n1 := one_sq p
  have n2 := one_sq q
  have h1 : 0 ≤ ((p - q) * (1 - p * q)) * ((1 + p * p)⁻¹ * (1 + q * q)⁻¹) := Rat.mul_nonneg h (Rat.le_of_lt (Rat.mul_pos hp hq))
  have e : tsin (some p) - tsin (some q) = 2 * (((p - q) * (1 - p * q)) * ((1 + p * p)⁻¹ * (1 + q * q)⁻¹)) := by
    simp only [tsin, Option.getD]; grind
  grind
theorem sin_in (x : Rat) : -1 ≤ tsin (some x) ∧ tsin (some x) ≤ 1 := by
  have h1 := sin_le (p := 1) (q := x) (by have := sq_nn (1 - x); grind)
  have h2 := sin_le (p := x) (q := -1) (by have := sq_nn (1 + x); grind)
  have e1 : tsin (some 1) = 1 := by simp only [tsin, Option.getD]; grind
  have e2 : tsin (some (-1)) = -1 := by simp only [tsin, Option.getD]; grind
  rw [e1] at h1
  rw [e2] at h2
  exact ⟨h2, h1⟩
theorem sin_neg (x : Rat) : tsin (some (-x)) = -tsin (some x) := by
  have := one_sq x
  simp only [tsin, Option.getD]; grind
theorem sin_top {a b q : Rat} (h1 : a ≤ q) (h2 : q ≤ b) : tsin (some q) ≤ tsin (some a) ∨ tsin (some q) ≤ tsin (some b) ∨ (a ≤ 1 ∧ 1 ≤ b) := by
  by_cases ha : a ≤ 1
  · by_cases hb : 1 ≤ b
    · exact .inr (.inr ⟨ha, hb⟩)
    · by_cases hbq : b * q ≤ 1
      · exact .inr (.inl (sin_le (Rat.mul_nonneg (by grind) (by grind))))
      · refine .inl (sin_le ?_)
        by_cases hq : 0 ≤ q
        · have := Rat.mul_nonneg (a := 1 - b) (b := q) (by grind) hq
          grind
        · have h3 := Rat.mul_nonneg (a := b - a) (b := -q) (by grind) (by grind)
          have h4 := Rat.mul_nonneg (a := q - a) (b := a * q - 1) (by grind) (by grind)
          grind
  · refine .inl (sin_le ?_)
    have h3 := Rat.mul_nonneg (a := a - 1) (b := q - 1) (by grind) (by grind)
    have h4 := Rat.mul_nonneg (a := q - a) (b := a * q - 1) (by grind) (by grind)
    grind
theorem sin_bot {a b q : Rat} (h1 : a ≤ q) (h2 : q ≤ b) : tsin (some a) ≤ tsin (some q) ∨ tsin (some b) ≤ tsin (some q) ∨ (a ≤ -1 ∧ -1 ≤ b) := by
  have := sin_top (a := -b) (b := -a) (q := -q) (by grind) (by grind)
  rw [sin_neg, sin_neg, sin_neg] at this
  rcases this with h | h | h
  · exact .inr (.inl (by grind))
  · exact .inl (by grind)
  · exact .inr (.inr (by grind))

theorem sin_span {a b q : Rat} (h1 : a ≤ q) (h2 : q ≤ b) : snl a b 2 ≤ tsin (some q) ∧ tsin (some q) ≤ snh a b 2 := by
  have ht := sin_top h1 h2
  have hb := sin_bot h1 h2
  have hi := sin_in q
  have ha := sin_in a
  have hb2 := sin_in b
  simp only [snl, snh, jlo, jhi, rmin_def, rmax_def, show (2 : Nat) ≠ 0 from by omega, show (2 : Nat) ≠ 1 from by omega, if_false]
  generalize tsin (some a) = fa at *
  generalize tsin (some b) = fb at *
  generalize tsin (some q) = fq at *
  constructor <;> grind
theorem sq_ends (a b : Rat) : 0 ≤ sqlo a b ∧ 0 ≤ sqhi a b := by
  have ha := sq_nn a
  have hb := sq_nn b
  simp only [sqlo, sqhi, rmin_def, rmax_def]
  constructor <;> grind

/-- A box: its lowest and highest numbers. -/
structure Bx where
  (x0 y0 x1 y1 : Rat)
def bxV (B : Bx) : Value := .agg #[.bool (decide ((B.x0).num < 0)), .string (S (nb (B.x0).num.natAbs)), .string (S (nb (B.x0).den)), .bool (decide ((B.y0).num < 0)), .string (S (nb (B.y0).num.natAbs)), .string (S (nb (B.y0).den)), .bool (decide ((B.x1).num < 0)), .string (S (nb (B.x1).num.natAbs)), .string (S (nb (B.x1).den)), .bool (decide ((B.y1).num < 0)), .string (S (nb (B.y1).num.natAbs)), .string (S (nb (B.y1).den))]
theorem bxV_def (B : Bx) : bxV B = .agg #[.bool (decide ((B.x0).num < 0)), .string (S (nb (B.x0).num.natAbs)), .string (S (nb (B.x0).den)), .bool (decide ((B.y0).num < 0)), .string (S (nb (B.y0).num.natAbs)), .string (S (nb (B.y0).den)), .bool (decide ((B.x1).num < 0)), .string (S (nb (B.x1).num.natAbs)), .string (S (nb (B.x1).den)), .bool (decide ((B.y1).num < 0)), .string (S (nb (B.y1).num.natAbs)), .string (S (nb (B.y1).den))] := rfl
def rnV (B : Bx) : Value := .agg #[.bool (decide ((B.x0).num < 0)), .string (S (nb (B.x0).num.natAbs)), .string (S (nb (B.x0).den)), .bool (decide ((B.x1).num < 0)), .string (S (nb (B.x1).num.natAbs)), .string (S (nb (B.x1).den)), .bool (decide ((B.y0).num < 0)), .string (S (nb (B.y0).num.natAbs)), .string (S (nb (B.y0).den)), .bool (decide ((B.y1).num < 0)), .string (S (nb (B.y1).num.natAbs)), .string (S (nb (B.y1).den))]
theorem rnV_def (B : Bx) : rnV B = .agg #[.bool (decide ((B.x0).num < 0)), .string (S (nb (B.x0).num.natAbs)), .string (S (nb (B.x0).den)), .bool (decide ((B.x1).num < 0)), .string (S (nb (B.x1).num.natAbs)), .string (S (nb (B.x1).den)), .bool (decide ((B.y0).num < 0)), .string (S (nb (B.y0).num.natAbs)), .string (S (nb (B.y0).den)), .bool (decide ((B.y1).num < 0)), .string (S (nb (B.y1).num.natAbs)), .string (S (nb (B.y1).den))] := rfl
theorem bxV_rb (n : Nat) (B : Bx) : RB n (bxV B) := RB.agg fun v hv => by
  simp only [List.mem_cons, List.not_mem_nil, or_false] at hv
  rcases hv with rfl | rfl | rfl | rfl | rfl | rfl | rfl | rfl | rfl | rfl | rfl | rfl <;> exact RB.zc rfl
theorem rnV_rb (n : Nat) (B : Bx) : RB n (rnV B) := RB.agg fun v hv => by
  simp only [List.mem_cons, List.not_mem_nil, or_false] at hv
  rcases hv with rfl | rfl | rfl | rfl | rfl | rfl | rfl | rfl | rfl | rfl | rfl | rfl <;> exact RB.zc rfl
def cLo (P : Po) : Rat := csq (sqhi P.e P.f)
def cHi (P : Po) : Rat := csq (sqlo P.e P.f)
def sLo (P : Po) : Rat := snl P.e P.f 2
def sHi (P : Po) : Rat := snh P.e P.f 2
def ptB (P : Po) (g h : Rat) : Bx :=
  ⟨P.a + (smlo (cLo P) (cHi P) g g - smhi (sLo P) (sHi P) h h), P.c + (smlo (sLo P) (sHi P) g g + smlo (cLo P) (cHi P) h h),
   P.b + (smhi (cLo P) (cHi P) g g - smlo (sLo P) (sHi P) h h), P.d + (smhi (sLo P) (sHi P) g g + smhi (cLo P) (cHi P) h h)⟩
theorem c_sp {P : Po} {k : Nat} (h : P.ok k) : Sp (cLo P) (cHi P) (4 * k + 4) := by
  have h0 := sq_ends P.e P.f
  have hs := h.2.2.sq
  exact ⟨(rz_csq hs.high (one_nn h0.2)).mono (by omega), (rz_csq hs.low (one_nn h0.1)).mono (by omega), csq_anti h0.1 hs.le⟩
theorem s_sp {P : Po} {k : Nat} (h : P.ok k) : Sp (sLo P) (sHi P) (4 * k + 6) := snl_sp h.2.2 2
theorem sp_one {g : Rat} {k : Nat} (h : Rz g k) : Sp g g k := ⟨h, h, Rat.le_refl⟩
structure Bx.sz (B : Bx) (k : Nat) : Prop where
  x0 : Rz B.x0 k
  y0 : Rz B.y0 k
  x1 : Rz B.x1 k
  y1 : Rz B.y1 k
theorem ptB_sz {P : Po} {g h : Rat} {k : Nat} (hp : P.ok k) (hg : Rz g k) (hh : Rz h k) : (ptB P g h).sz (20 * k + 20) := by
  have c := c_sp hp
  have s := s_sp hp
  have m1 := c.mul (sp_one hg)
  have m2 := s.mul (sp_one hh)
  have m3 := s.mul (sp_one hg)
  have m4 := c.mul (sp_one hh)
  exact ⟨(hp.1.low.add (m1.low.sub m2.high)).mono (by omega), (hp.2.1.low.add (m3.low.add m4.low)).mono (by omega), (hp.1.high.add (m1.high.sub m2.low)).mono (by omega), (hp.2.1.high.add (m3.high.add m4.high)).mono (by omega)⟩
theorem smlo_one (a b g : Rat) : smlo a b g g = rmin (a * g) (b * g) := by
  unfold smlo
  simp only [rmin_def]
  grind
theorem smhi_one (a b g : Rat) : smhi a b g g = rmax (a * g) (b * g) := by
  unfold smhi
  simp only [rmax_def]
  grind
theorem smhi_neg (a b h : Rat) : rmin (a * -h) (b * -h) = -smhi a b h h := by
  rw [smhi_one]
  simp only [rmin_def, rmax_def]
  grind
theorem smlo_neg (a b h : Rat) : rmax (a * -h) (b * -h) = -smlo a b h h := by
  rw [smlo_one]
  simp only [rmin_def, rmax_def]
  grind
/-- The joint values at which the reference looks: the upper end, and 0, -1 and 1. -/
def cand (b : Rat) : Nat → Rat
  | 0 => b
  | 1 => 0
  | 2 => -1
  | _ => 1
def foldR (f : Rat → Rat) (m : Rat → Rat → Rat) (a b : Rat) : Nat → Rat
  | 0 => f a
  | j + 1 => if a ≤ cand b j ∧ cand b j ≤ b then m (foldR f m a b j) (f (cand b j)) else foldR f m a b j
theorem cos_val (t : Rat) : tcos (some t) = csq (t * t) := rfl
theorem fold_cmin {a b : Rat} (h : a ≤ b) : foldR (fun t => tcos (some t)) rmin a b 4 = csq (sqhi a b) := by
  have key : ∀ q, a ≤ q → q ≤ b → csq (sqhi a b) ≤ tcos (some q) := fun q h1 h2 => by rw [cos_val]; exact csq_anti (sq_nn q) (sq_in h1 h2).2
  have ka := key a Rat.le_refl h
  have kb := key b h Rat.le_refl
  have ends : csq (sqhi a b) = tcos (some a) ∨ csq (sqhi a b) = tcos (some b) := by
    rw [cos_val, cos_val]; unfold sqhi; rw [rmax_def]; split
    · exact .inl rfl
    · exact .inr rfl
  have k0 := key 0
  have k1 := key (-1)
  have k2 := key 1
  simp only [foldR, cand, rmin_def]
  generalize tcos (some a) = ca at *
  generalize tcos (some b) = cb at *
  generalize tcos (some 0) = c0 at *
  generalize tcos (some (-1)) = c1 at *
  generalize tcos (some 1) = c2 at *
  generalize csq (sqhi a b) = x at *
  grind
theorem fold_cmax {a b : Rat} (h : a ≤ b) : foldR (fun t => tcos (some t)) rmax a b 4 = csq (sqlo a b) := by
  have key : ∀ q, a ≤ q → q ≤ b → tcos (some q) ≤ csq (sqlo a b) := fun q h1 h2 => by rw [cos_val]; exact csq_anti (sq_ends a b).1 (sq_in h1 h2).1
  have ka := key a Rat.le_refl h
  have kb := key b h Rat.le_refl
  have ends : csq (sqlo a b) = tcos (some a) ∨ csq (sqlo a b) = tcos (some b) ∨ (a ≤ 0 ∧ 0 ≤ b ∧ csq (sqlo a b) = tcos (some 0)) := by
    rw [cos_val, cos_val, cos_val]; unfold sqlo; split
    · rename_i h0; exact .inr (.inr ⟨h0.1, h0.2, by rw [show (0 : Rat) * 0 = 0 from by grind]⟩)
    · rw [rmin_def]; split
      · exact .inl rfl
      · exact .inr (.inl rfl)
  have k0 := key 0
  have k1 := key (-1)
  have k2 := key 1
  simp only [foldR, cand, rmax_def]
  generalize tcos (some a) = ca at *
  generalize tcos (some b) = cb at *
  generalize tcos (some 0) = c0 at *
  generalize tcos (some (-1)) = c1 at *
  generalize tcos (some 1) = c2 at *
  generalize csq (sqlo a b) = x at *
  grind
theorem sin_at_one : tsin (some 1) = 1 := by simp only [tsin, Option.getD]; grind
theorem sin_at_neg : tsin (some (-1)) = -1 := by simp only [tsin, Option.getD]; grind
theorem fold_smin {a b : Rat} (h : a ≤ b) : foldR (fun t => tsin (some t)) rmin a b 4 = snl a b 2 := by
  have k0 := fun h1 h2 => (sin_span (a := a) (b := b) (q := 0) h1 h2).1
  have e1 := sin_at_one
  have e2 := sin_at_neg
  simp only [foldR, cand, e1, e2]
  simp only [snl, jlo, rmin_def, show (2 : Nat) ≠ 0 from by omega, show (2 : Nat) ≠ 1 from by omega, if_false] at k0 ⊢
  generalize tsin (some a) = ca at *
  generalize tsin (some b) = cb at *
  generalize tsin (some 0) = c0 at *
  grind
theorem fold_smax {a b : Rat} (h : a ≤ b) : foldR (fun t => tsin (some t)) rmax a b 4 = snh a b 2 := by
  have k0 := fun h1 h2 => (sin_span (a := a) (b := b) (q := 0) h1 h2).2
  have e1 := sin_at_one
  have e2 := sin_at_neg
  simp only [foldR, cand, e1, e2]
  simp only [snh, jhi, rmax_def, show (2 : Nat) ≠ 0 from by omega, show (2 : Nat) ≠ 1 from by omega, if_false] at k0 ⊢
  generalize tsin (some a) = ca at *
  generalize tsin (some b) = cb at *
  generalize tsin (some 0) = c0 at *
  grind

section
variable {G : Gl} {fl : Nat} {A : Hp}

set_option maxHeartbeats 2000000 in
theorem wPoint {p0 : Bool} {p1 p2 : List UInt8} {q0 : Bool} {q1 q2 : List UInt8} {r0 : Bool} {r1 r2 : List UInt8} {s0 : Bool} {s1 s2 : List UInt8} {t0 : Bool} {t1 t2 : List UInt8} {u0 : Bool} {u1 u2 : List UInt8} {P : Po} {k : Nat} {g0 : Bool} {g1 g2 : List UInt8} {h0 : Bool} {h1 h2 : List UInt8} {okg okh : Bool} {g h : Rat} (hG : G 1 = some tabV) (rp : RawP G p0 p1 p2 q0 q1 q2 r0 r1 r2 s0 s1 s2 t0 t1 t2 u0 u1 u2 P k) (rg : Raw G g0 g1 g2 okg g k) (rh : Raw G h0 h1 h2 okh h k) (hk : 1000 * k + 1000 ≤ 5000000000) : Sound Tryd.prog G 33 [.agg #[.bool p0, .string (S p1), .string (S p2), .bool q0, .string (S q1), .string (S q2), .bool r0, .string (S r1), .string (S r2), .bool s0, .string (S s1), .string (S s2), .bool t0, .string (S t1), .string (S t2), .bool u0, .string (S u1), .string (S u2)], .agg #[.bool g0, .string (S g1), .string (S g2), .bool h0, .string (S h1), .string (S h2)]] fl A (bxV (ptB P g h)) A := by
  refine Sound.of mixed Tryd.func33 Tryd.ntmps33 Tryd.results33 (by kernel_rfl) rfl (by kernel_rfl) (by kernel_rfl) fun hA => ?_
  have hfl : fl ≤ A.next := by have := hA.floor; omega
  have hfl1 : fl ≤ A.next + 1 := by have := hA.floor; omega
  have hfl2 : fl ≤ A.next + 2 := by have := hA.floor; omega
  have hfl3 : fl ≤ A.next + 3 := by have := hA.floor; omega
  have hfl4 : fl ≤ A.next + 4 := by have := hA.floor; omega
  have hfl5 : fl ≤ A.next + 5 := by have := hA.floor; omega
  have hfl6 : fl ≤ A.next + 6 := by have := hA.floor; omega
  have n1 := rp.x.norm
  have n2 := rp.y.norm
  have n3 := rp.t.norm
  have h0 := sq_ends P.e P.f
  have co := fun fl A => coss (G := G) (fl := fl) (A := A) hG rp.ok.2.2 h0.1 h0.2 (by omega)
  have si := fun fl A => sins (G := G) (fl := fl) (A := A) hG rp.ok.2.2 (by omega)
  have cS := c_sp rp.ok
  have sS := s_sp rp.ok
  have gS := sp_one rg.sz
  have hS := sp_one rh.sz
  have o1 := fun fl A => wof (G := G) (fl := fl) (A := A) hG rg (by omega)
  have o2 := fun fl A => wof (G := G) (fl := fl) (A := A) hG rh (by omega)
  have m1 := fun fl A => wmul (G := G) (fl := fl) (A := A) hG (raws_good hG cS (by omega)) (raws_good hG gS (by omega)) (by omega)
  have m2 := fun fl A => wmul (G := G) (fl := fl) (A := A) hG (raws_good hG sS (by omega)) (raws_good hG hS (by omega)) (by omega)
  have m3 := fun fl A => wmul (G := G) (fl := fl) (A := A) hG (raws_good hG sS (by omega)) (raws_good hG gS (by omega)) (by omega)
  have m4 := fun fl A => wmul (G := G) (fl := fl) (A := A) hG (raws_good hG cS (by omega)) (raws_good hG hS (by omega)) (by omega)
  have t1 := cS.mul gS
  have t2 := sS.mul hS
  have t3 := sS.mul gS
  have t4 := cS.mul hS
  have e1 := fun fl A => wsub (G := G) (fl := fl) (A := A) hG (raws_good hG t1 (by omega)) (raws_good hG t2 (by omega)) (by omega)
  have e2 := fun fl A => wadd (G := G) (fl := fl) (A := A) hG (raws_good hG t3 (by omega)) (raws_good hG t4 (by omega)) (by omega)
  have u1 := t1.sub t2
  have u2 := t3.add t4
  have f1 := fun fl A => wadd (G := G) (fl := fl) (A := A) hG (raws_good hG rp.ok.1 (by omega)) (raws_good hG u1 (by omega)) (by omega)
  have f2 := fun fl A => wadd (G := G) (fl := fl) (A := A) hG (raws_good hG rp.ok.2.1 (by omega)) (raws_good hG u2 (by omega)) (by omega)
  have hrb := bxV_rb A.next (ptB P g h)
  rw [show csq (sqhi P.e P.f) = cLo P from rfl, show csq (sqlo P.e P.f) = cHi P from rfl] at co
  rw [show snl P.e P.f 2 = sLo P from rfl, show snh P.e P.f 2 = sHi P from rfl] at si
  unfold ptB at hrb ⊢
  simp only [bxV_def, prV_def, ratV_def] at n1 n2 n3 co si o1 o2 m1 m2 m3 m4 e1 e2 f1 f2 hrb ⊢
  simp only [↓R1, R2, R3, R4, TY, reduceIte, Nat.reduceEqDiff, Nat.reduceAdd, Nat.reduceMul, Nat.reduceLT, Nat.reduceLeDiff, reduceCtorEq, decide_true, decide_false, Int.reduceLE, Int.reduceLT, Int.reduceToNat, Int.reduceAdd, Int.reduceSub, Int.reduceMul, Int.reduceEq, hfl, hfl1, hfl2, hfl3, hfl4, hfl5, hfl6, NE, NE9, Nat.add_assoc]
  refine call_of (n3 _ _) ?_
  simp only [↓R1, R2, R3, R4, TY, reduceIte, Nat.reduceEqDiff, Nat.reduceAdd, Nat.reduceMul, Nat.reduceLT, Nat.reduceLeDiff, reduceCtorEq, decide_true, decide_false, Int.reduceLE, Int.reduceLT, Int.reduceToNat, Int.reduceAdd, Int.reduceSub, Int.reduceMul, Int.reduceEq, hfl, hfl1, hfl2, hfl3, hfl4, hfl5, hfl6, NE, NE9, Nat.add_assoc]
  refine call_of (co _ _) ?_
  simp only [↓R1, R2, R3, R4, TY, reduceIte, Nat.reduceEqDiff, Nat.reduceAdd, Nat.reduceMul, Nat.reduceLT, Nat.reduceLeDiff, reduceCtorEq, decide_true, decide_false, Int.reduceLE, Int.reduceLT, Int.reduceToNat, Int.reduceAdd, Int.reduceSub, Int.reduceMul, Int.reduceEq, hfl, hfl1, hfl2, hfl3, hfl4, hfl5, hfl6, NE, NE9, Nat.add_assoc]
  refine call_of (n3 _ _) ?_
  simp only [↓R1, R2, R3, R4, TY, reduceIte, Nat.reduceEqDiff, Nat.reduceAdd, Nat.reduceMul, Nat.reduceLT, Nat.reduceLeDiff, reduceCtorEq, decide_true, decide_false, Int.reduceLE, Int.reduceLT, Int.reduceToNat, Int.reduceAdd, Int.reduceSub, Int.reduceMul, Int.reduceEq, hfl, hfl1, hfl2, hfl3, hfl4, hfl5, hfl6, NE, NE9, Nat.add_assoc]
  refine call_of (si _ _) ?_
  simp only [↓R1, R2, R3, R4, TY, reduceIte, Nat.reduceEqDiff, Nat.reduceAdd, Nat.reduceMul, Nat.reduceLT, Nat.reduceLeDiff, reduceCtorEq, decide_true, decide_false, Int.reduceLE, Int.reduceLT, Int.reduceToNat, Int.reduceAdd, Int.reduceSub, Int.reduceMul, Int.reduceEq, hfl, hfl1, hfl2, hfl3, hfl4, hfl5, hfl6, NE, NE9, Nat.add_assoc]
  rw [floOf_wr (by kernel_rfl)]
  simp only [↓R1, R2, R3, R4, TY, reduceIte, Nat.reduceEqDiff, Nat.reduceAdd, Nat.reduceMul, Nat.reduceLT, Nat.reduceLeDiff, reduceCtorEq, decide_true, decide_false, Int.reduceLE, Int.reduceLT, Int.reduceToNat, Int.reduceAdd, Int.reduceSub, Int.reduceMul, Int.reduceEq, hfl, hfl1, hfl2, hfl3, hfl4, hfl5, hfl6, NE, NE9, Nat.add_assoc]
  rw [floOf_wr (by kernel_rfl)]
  simp only [↓R1, R2, R3, R4, TY, reduceIte, Nat.reduceEqDiff, Nat.reduceAdd, Nat.reduceMul, Nat.reduceLT, Nat.reduceLeDiff, reduceCtorEq, decide_true, decide_false, Int.reduceLE, Int.reduceLT, Int.reduceToNat, Int.reduceAdd, Int.reduceSub, Int.reduceMul, Int.reduceEq, hfl, hfl1, hfl2, hfl3, hfl4, hfl5, hfl6, NE, NE9, Nat.add_assoc]
  refine call_of (o1 _ _) ?_
  simp only [↓R1, R2, R3, R4, TY, reduceIte, Nat.reduceEqDiff, Nat.reduceAdd, Nat.reduceMul, Nat.reduceLT, Nat.reduceLeDiff, reduceCtorEq, decide_true, decide_false, Int.reduceLE, Int.reduceLT, Int.reduceToNat, Int.reduceAdd, Int.reduceSub, Int.reduceMul, Int.reduceEq, hfl, hfl1, hfl2, hfl3, hfl4, hfl5, hfl6, NE, NE9, Nat.add_assoc]
  refine call_of (o2 _ _) ?_
  simp only [↓R1, R2, R3, R4, TY, reduceIte, Nat.reduceEqDiff, Nat.reduceAdd, Nat.reduceMul, Nat.reduceLT, Nat.reduceLeDiff, reduceCtorEq, decide_true, decide_false, Int.reduceLE, Int.reduceLT, Int.reduceToNat, Int.reduceAdd, Int.reduceSub, Int.reduceMul, Int.reduceEq, hfl, hfl1, hfl2, hfl3, hfl4, hfl5, hfl6, NE, NE9, Nat.add_assoc]
  rw [floOf_wr (by kernel_rfl)]
  simp only [↓R1, R2, R3, R4, TY, reduceIte, Nat.reduceEqDiff, Nat.reduceAdd, Nat.reduceMul, Nat.reduceLT, Nat.reduceLeDiff, reduceCtorEq, decide_true, decide_false, Int.reduceLE, Int.reduceLT, Int.reduceToNat, Int.reduceAdd, Int.reduceSub, Int.reduceMul, Int.reduceEq, hfl, hfl1, hfl2, hfl3, hfl4, hfl5, hfl6, NE, NE9, Nat.add_assoc]
  rw [floOf_wr (by kernel_rfl)]
  simp only [↓R1, R2, R3, R4, TY, reduceIte, Nat.reduceEqDiff, Nat.reduceAdd, Nat.reduceMul, Nat.reduceLT, Nat.reduceLeDiff, reduceCtorEq, decide_true, decide_false, Int.reduceLE, Int.reduceLT, Int.reduceToNat, Int.reduceAdd, Int.reduceSub, Int.reduceMul, Int.reduceEq, hfl, hfl1, hfl2, hfl3, hfl4, hfl5, hfl6, NE, NE9, Nat.add_assoc]
  refine call_of (n1 _ _) ?_
  simp only [↓R1, R2, R3, R4, TY, reduceIte, Nat.reduceEqDiff, Nat.reduceAdd, Nat.reduceMul, Nat.reduceLT, Nat.reduceLeDiff, reduceCtorEq, decide_true, decide_false, Int.reduceLE, Int.reduceLT, Int.reduceToNat, Int.reduceAdd, Int.reduceSub, Int.reduceMul, Int.reduceEq, hfl, hfl1, hfl2, hfl3, hfl4, hfl5, hfl6, NE, NE9, Nat.add_assoc]
  refine call_of (m1 _ _) ?_
  simp only [↓R1, R2, R3, R4, TY, reduceIte, Nat.reduceEqDiff, Nat.reduceAdd, Nat.reduceMul, Nat.reduceLT, Nat.reduceLeDiff, reduceCtorEq, decide_true, decide_false, Int.reduceLE, Int.reduceLT, Int.reduceToNat, Int.reduceAdd, Int.reduceSub, Int.reduceMul, Int.reduceEq, hfl, hfl1, hfl2, hfl3, hfl4, hfl5, hfl6, NE, NE9, Nat.add_assoc]
  refine call_of (m2 _ _) ?_
  simp only [↓R1, R2, R3, R4, TY, reduceIte, Nat.reduceEqDiff, Nat.reduceAdd, Nat.reduceMul, Nat.reduceLT, Nat.reduceLeDiff, reduceCtorEq, decide_true, decide_false, Int.reduceLE, Int.reduceLT, Int.reduceToNat, Int.reduceAdd, Int.reduceSub, Int.reduceMul, Int.reduceEq, hfl, hfl1, hfl2, hfl3, hfl4, hfl5, hfl6, NE, NE9, Nat.add_assoc]
  refine call_of (e1 _ _) ?_
  simp only [↓R1, R2, R3, R4, TY, reduceIte, Nat.reduceEqDiff, Nat.reduceAdd, Nat.reduceMul, Nat.reduceLT, Nat.reduceLeDiff, reduceCtorEq, decide_true, decide_false, Int.reduceLE, Int.reduceLT, Int.reduceToNat, Int.reduceAdd, Int.reduceSub, Int.reduceMul, Int.reduceEq, hfl, hfl1, hfl2, hfl3, hfl4, hfl5, hfl6, NE, NE9, Nat.add_assoc]
  refine call_of (f1 _ _) ?_
  simp only [↓R1, R2, R3, R4, TY, reduceIte, Nat.reduceEqDiff, Nat.reduceAdd, Nat.reduceMul, Nat.reduceLT, Nat.reduceLeDiff, reduceCtorEq, decide_true, decide_false, Int.reduceLE, Int.reduceLT, Int.reduceToNat, Int.reduceAdd, Int.reduceSub, Int.reduceMul, Int.reduceEq, hfl, hfl1, hfl2, hfl3, hfl4, hfl5, hfl6, NE, NE9, Nat.add_assoc]
  rw [floOf_wr (by kernel_rfl)]
  simp only [↓R1, R2, R3, R4, TY, reduceIte, Nat.reduceEqDiff, Nat.reduceAdd, Nat.reduceMul, Nat.reduceLT, Nat.reduceLeDiff, reduceCtorEq, decide_true, decide_false, Int.reduceLE, Int.reduceLT, Int.reduceToNat, Int.reduceAdd, Int.reduceSub, Int.reduceMul, Int.reduceEq, hfl, hfl1, hfl2, hfl3, hfl4, hfl5, hfl6, NE, NE9, Nat.add_assoc]
  refine call_of (n2 _ _) ?_
  simp only [↓R1, R2, R3, R4, TY, reduceIte, Nat.reduceEqDiff, Nat.reduceAdd, Nat.reduceMul, Nat.reduceLT, Nat.reduceLeDiff, reduceCtorEq, decide_true, decide_false, Int.reduceLE, Int.reduceLT, Int.reduceToNat, Int.reduceAdd, Int.reduceSub, Int.reduceMul, Int.reduceEq, hfl, hfl1, hfl2, hfl3, hfl4, hfl5, hfl6, NE, NE9, Nat.add_assoc]
  refine call_of (m3 _ _) ?_
  simp only [↓R1, R2, R3, R4, TY, reduceIte, Nat.reduceEqDiff, Nat.reduceAdd, Nat.reduceMul, Nat.reduceLT, Nat.reduceLeDiff, reduceCtorEq, decide_true, decide_false, Int.reduceLE, Int.reduceLT, Int.reduceToNat, Int.reduceAdd, Int.reduceSub, Int.reduceMul, Int.reduceEq, hfl, hfl1, hfl2, hfl3, hfl4, hfl5, hfl6, NE, NE9, Nat.add_assoc]
  refine call_of (m4 _ _) ?_
  simp only [↓R1, R2, R3, R4, TY, reduceIte, Nat.reduceEqDiff, Nat.reduceAdd, Nat.reduceMul, Nat.reduceLT, Nat.reduceLeDiff, reduceCtorEq, decide_true, decide_false, Int.reduceLE, Int.reduceLT, Int.reduceToNat, Int.reduceAdd, Int.reduceSub, Int.reduceMul, Int.reduceEq, hfl, hfl1, hfl2, hfl3, hfl4, hfl5, hfl6, NE, NE9, Nat.add_assoc]
  refine call_of (e2 _ _) ?_
  simp only [↓R1, R2, R3, R4, TY, reduceIte, Nat.reduceEqDiff, Nat.reduceAdd, Nat.reduceMul, Nat.reduceLT, Nat.reduceLeDiff, reduceCtorEq, decide_true, decide_false, Int.reduceLE, Int.reduceLT, Int.reduceToNat, Int.reduceAdd, Int.reduceSub, Int.reduceMul, Int.reduceEq, hfl, hfl1, hfl2, hfl3, hfl4, hfl5, hfl6, NE, NE9, Nat.add_assoc]
  refine call_of (f2 _ _) ?_
  simp only [↓R1, R2, R3, R4, TY, reduceIte, Nat.reduceEqDiff, Nat.reduceAdd, Nat.reduceMul, Nat.reduceLT, Nat.reduceLeDiff, reduceCtorEq, decide_true, decide_false, Int.reduceLE, Int.reduceLT, Int.reduceToNat, Int.reduceAdd, Int.reduceSub, Int.reduceMul, Int.reduceEq, hfl, hfl1, hfl2, hfl3, hfl4, hfl5, hfl6, NE, NE9, Nat.add_assoc]
  rw [floOf_wr (by kernel_rfl)]
  simp only [↓R1, R2, R3, R4, TY, reduceIte, Nat.reduceEqDiff, Nat.reduceAdd, Nat.reduceMul, Nat.reduceLT, Nat.reduceLeDiff, reduceCtorEq, decide_true, decide_false, Int.reduceLE, Int.reduceLT, Int.reduceToNat, Int.reduceAdd, Int.reduceSub, Int.reduceMul, Int.reduceEq, hfl, hfl1, hfl2, hfl3, hfl4, hfl5, hfl6, NE, NE9, Nat.add_assoc]
  refine Ended.back hA ?_ rfl hrb
  simp (maxDischargeDepth := 20) only [xt_push, xt_put, xt_refl, Nat.le_refl, Nat.le_add_right, Nat.add_assoc, Nat.reduceAdd]

set_option maxHeartbeats 2000000 in
theorem wplus {a b c d : Rat} {j k : Nat} (hG : G 1 = some tabV) (h : Sp a b j) (h' : Sp c d k) (hk : j + k ≤ 5000000000) : Sound Tryd.prog G 75 [prV a b, prV c d] fl A (prV (a + c) (b + d)) A := by
  refine Sound.of mixed Tryd.func75 Tryd.ntmps75 Tryd.results75 (by kernel_rfl) rfl (by kernel_rfl) (by kernel_rfl) fun hA => ?_
  have hfl : fl ≤ A.next := by have := hA.floor; omega
  have hfl1 : fl ≤ A.next + 1 := by have := hA.floor; omega
  have hfl2 : fl ≤ A.next + 2 := by have := hA.floor; omega
  have hfl3 : fl ≤ A.next + 3 := by have := hA.floor; omega
  have hfl4 : fl ≤ A.next + 4 := by have := hA.floor; omega
  have hfl5 : fl ≤ A.next + 5 := by have := hA.floor; omega
  have hfl6 : fl ≤ A.next + 6 := by have := hA.floor; omega
  have o1 := fun fl A => qadd (G := G) (fl := fl) (A := A) hG h.low h'.low (by omega)
  have o2 := fun fl A => qadd (G := G) (fl := fl) (A := A) hG h.high h'.high (by omega)
  have hrb := prV_rb A.next (a + c) (b + d)
  simp only [prV_def, ratV_def] at o1 o2 hrb ⊢
  simp only [↓R1, R2, R3, R4, TY, reduceIte, Nat.reduceEqDiff, Nat.reduceAdd, Nat.reduceMul, Nat.reduceLT, Nat.reduceLeDiff, reduceCtorEq, decide_true, decide_false, Int.reduceLE, Int.reduceLT, Int.reduceToNat, Int.reduceAdd, Int.reduceSub, Int.reduceMul, Int.reduceEq, hfl, hfl1, hfl2, hfl3, hfl4, hfl5, hfl6, NE, NE9, Nat.add_assoc, n_2, n_3]
  refine call_of (o1 _ _) ?_
  simp only [↓R1, R2, R3, R4, TY, reduceIte, Nat.reduceEqDiff, Nat.reduceAdd, Nat.reduceMul, Nat.reduceLT, Nat.reduceLeDiff, reduceCtorEq, decide_true, decide_false, Int.reduceLE, Int.reduceLT, Int.reduceToNat, Int.reduceAdd, Int.reduceSub, Int.reduceMul, Int.reduceEq, hfl, hfl1, hfl2, hfl3, hfl4, hfl5, hfl6, NE, NE9, Nat.add_assoc, n_2, n_3]
  refine call_of (o2 _ _) ?_
  simp only [↓R1, R2, R3, R4, TY, reduceIte, Nat.reduceEqDiff, Nat.reduceAdd, Nat.reduceMul, Nat.reduceLT, Nat.reduceLeDiff, reduceCtorEq, decide_true, decide_false, Int.reduceLE, Int.reduceLT, Int.reduceToNat, Int.reduceAdd, Int.reduceSub, Int.reduceMul, Int.reduceEq, hfl, hfl1, hfl2, hfl3, hfl4, hfl5, hfl6, NE, NE9, Nat.add_assoc, n_2, n_3]
  rw [floOf_wr (by kernel_rfl)]
  simp only [↓R1, R2, R3, R4, TY, reduceIte, Nat.reduceEqDiff, Nat.reduceAdd, Nat.reduceMul, Nat.reduceLT, Nat.reduceLeDiff, reduceCtorEq, decide_true, decide_false, Int.reduceLE, Int.reduceLT, Int.reduceToNat, Int.reduceAdd, Int.reduceSub, Int.reduceMul, Int.reduceEq, hfl, hfl1, hfl2, hfl3, hfl4, hfl5, hfl6, NE, NE9, Nat.add_assoc, n_2, n_3]
  refine Ended.back hA ?_ rfl hrb
  simp (maxDischargeDepth := 20) only [xt_push, xt_put, xt_refl, Nat.le_refl, Nat.le_add_right, Nat.add_assoc, Nat.reduceAdd]

set_option maxHeartbeats 2000000 in
theorem wproduct {a b g : Rat} {j k : Nat} {g0 : Bool} {g1 g2 : List UInt8} {okg : Bool} (hG : G 1 = some tabV) (h : Sp a b j) (rg : Raw G g0 g1 g2 okg g k) (hk : 4 * j + 4 * k ≤ 5000000000) : Sound Tryd.prog G 76 [prV a b, .agg #[.bool g0, .string (S g1), .string (S g2)]] fl A (prV (rmin (a * g) (b * g)) (rmax (a * g) (b * g))) A := by
  refine Sound.of mixed Tryd.func76 Tryd.ntmps76 Tryd.results76 (by kernel_rfl) rfl (by kernel_rfl) (by kernel_rfl) fun hA => ?_
  have hfl : fl ≤ A.next := by have := hA.floor; omega
  have hfl1 : fl ≤ A.next + 1 := by have := hA.floor; omega
  have hfl2 : fl ≤ A.next + 2 := by have := hA.floor; omega
  have hfl3 : fl ≤ A.next + 3 := by have := hA.floor; omega
  have hfl4 : fl ≤ A.next + 4 := by have := hA.floor; omega
  have hfl5 : fl ≤ A.next + 5 := by have := hA.floor; omega
  have hfl6 : fl ≤ A.next + 6 := by have := hA.floor; omega
  have o1 := fun fl A => gmul (G := G) (fl := fl) (A := A) hG (raw_good hG h.low (by omega)).fit rg.fit h.low rg.sz (by omega)
  have o2 := fun fl A => gmul (G := G) (fl := fl) (A := A) hG (raw_good hG h.high (by omega)).fit rg.fit h.high rg.sz (by omega)
  have o3 := fun fl A => qmin (G := G) (fl := fl) (A := A) hG (h.low.mul rg.sz) (h.high.mul rg.sz) (by omega)
  have o4 := fun fl A => qmax (G := G) (fl := fl) (A := A) hG (h.low.mul rg.sz) (h.high.mul rg.sz) (by omega)
  have hrb := prV_rb A.next (rmin (a * g) (b * g)) (rmax (a * g) (b * g))
  simp only [prV_def, ratV_def] at o1 o2 o3 o4 hrb ⊢
  simp only [↓R1, R2, R3, R4, TY, reduceIte, Nat.reduceEqDiff, Nat.reduceAdd, Nat.reduceMul, Nat.reduceLT, Nat.reduceLeDiff, reduceCtorEq, decide_true, decide_false, Int.reduceLE, Int.reduceLT, Int.reduceToNat, Int.reduceAdd, Int.reduceSub, Int.reduceMul, Int.reduceEq, hfl, hfl1, hfl2, hfl3, hfl4, hfl5, hfl6, NE, NE9, Nat.add_assoc, n_2, n_3]
  refine call_of (o1 _ _) ?_
  simp only [↓R1, R2, R3, R4, TY, reduceIte, Nat.reduceEqDiff, Nat.reduceAdd, Nat.reduceMul, Nat.reduceLT, Nat.reduceLeDiff, reduceCtorEq, decide_true, decide_false, Int.reduceLE, Int.reduceLT, Int.reduceToNat, Int.reduceAdd, Int.reduceSub, Int.reduceMul, Int.reduceEq, hfl, hfl1, hfl2, hfl3, hfl4, hfl5, hfl6, NE, NE9, Nat.add_assoc, n_2, n_3]
  refine call_of (o2 _ _) ?_
  simp only [↓R1, R2, R3, R4, TY, reduceIte, Nat.reduceEqDiff, Nat.reduceAdd, Nat.reduceMul, Nat.reduceLT, Nat.reduceLeDiff, reduceCtorEq, decide_true, decide_false, Int.reduceLE, Int.reduceLT, Int.reduceToNat, Int.reduceAdd, Int.reduceSub, Int.reduceMul, Int.reduceEq, hfl, hfl1, hfl2, hfl3, hfl4, hfl5, hfl6, NE, NE9, Nat.add_assoc, n_2, n_3]
  rw [floOf_wr (by kernel_rfl)]
  simp only [↓R1, R2, R3, R4, TY, reduceIte, Nat.reduceEqDiff, Nat.reduceAdd, Nat.reduceMul, Nat.reduceLT, Nat.reduceLeDiff, reduceCtorEq, decide_true, decide_false, Int.reduceLE, Int.reduceLT, Int.reduceToNat, Int.reduceAdd, Int.reduceSub, Int.reduceMul, Int.reduceEq, hfl, hfl1, hfl2, hfl3, hfl4, hfl5, hfl6, NE, NE9, Nat.add_assoc, n_2, n_3]
  rw [floOf_wr (by kernel_rfl)]
  simp only [↓R1, R2, R3, R4, TY, reduceIte, Nat.reduceEqDiff, Nat.reduceAdd, Nat.reduceMul, Nat.reduceLT, Nat.reduceLeDiff, reduceCtorEq, decide_true, decide_false, Int.reduceLE, Int.reduceLT, Int.reduceToNat, Int.reduceAdd, Int.reduceSub, Int.reduceMul, Int.reduceEq, hfl, hfl1, hfl2, hfl3, hfl4, hfl5, hfl6, NE, NE9, Nat.add_assoc, n_2, n_3]
  refine call_of (o3 _ _) ?_
  simp only [↓R1, R2, R3, R4, TY, reduceIte, Nat.reduceEqDiff, Nat.reduceAdd, Nat.reduceMul, Nat.reduceLT, Nat.reduceLeDiff, reduceCtorEq, decide_true, decide_false, Int.reduceLE, Int.reduceLT, Int.reduceToNat, Int.reduceAdd, Int.reduceSub, Int.reduceMul, Int.reduceEq, hfl, hfl1, hfl2, hfl3, hfl4, hfl5, hfl6, NE, NE9, Nat.add_assoc, n_2, n_3]
  refine call_of (o4 _ _) ?_
  simp only [↓R1, R2, R3, R4, TY, reduceIte, Nat.reduceEqDiff, Nat.reduceAdd, Nat.reduceMul, Nat.reduceLT, Nat.reduceLeDiff, reduceCtorEq, decide_true, decide_false, Int.reduceLE, Int.reduceLT, Int.reduceToNat, Int.reduceAdd, Int.reduceSub, Int.reduceMul, Int.reduceEq, hfl, hfl1, hfl2, hfl3, hfl4, hfl5, hfl6, NE, NE9, Nat.add_assoc, n_2, n_3]
  rw [floOf_wr (by kernel_rfl)]
  simp only [↓R1, R2, R3, R4, TY, reduceIte, Nat.reduceEqDiff, Nat.reduceAdd, Nat.reduceMul, Nat.reduceLT, Nat.reduceLeDiff, reduceCtorEq, decide_true, decide_false, Int.reduceLE, Int.reduceLT, Int.reduceToNat, Int.reduceAdd, Int.reduceSub, Int.reduceMul, Int.reduceEq, hfl, hfl1, hfl2, hfl3, hfl4, hfl5, hfl6, NE, NE9, Nat.add_assoc, n_2, n_3]
  refine Ended.back hA ?_ rfl hrb
  simp (maxDischargeDepth := 20) only [xt_push, xt_put, xt_refl, Nat.le_refl, Nat.le_add_right, Nat.add_assoc, Nat.reduceAdd]

set_option maxHeartbeats 2000000 in
theorem wcosine {t : Rat} {k : Nat} {g0 : Bool} {g1 g2 : List UInt8} {okg : Bool} (hG : G 1 = some tabV) (rg : Raw G g0 g1 g2 okg t k) (hk : 100 * k + 100 ≤ 5000000000) : Sound Tryd.prog G 78 [.agg #[.bool false, .bool g0, .string (S g1), .string (S g2)]] fl A (.tuple [ratV (tcos (some t)), ratV (tsin (some t))].toArray) A := by
  refine Sound.of mixed Tryd.func78 Tryd.ntmps78 Tryd.results78 (by kernel_rfl) rfl (by kernel_rfl) (by kernel_rfl) fun hA => ?_
  have hfl : fl ≤ A.next := by have := hA.floor; omega
  have hfl1 : fl ≤ A.next + 1 := by have := hA.floor; omega
  have hfl2 : fl ≤ A.next + 2 := by have := hA.floor; omega
  have hfl3 : fl ≤ A.next + 3 := by have := hA.floor; omega
  have hfl4 : fl ≤ A.next + 4 := by have := hA.floor; omega
  have hfl5 : fl ≤ A.next + 5 := by have := hA.floor; omega
  have hfl6 : fl ≤ A.next + 6 := by have := hA.floor; omega
  have z2r : Rz 2 1 := Rz.of (n := 2) (k := 1) (by rw [show (2 : Int).natAbs = 2 from rfl]; decide +kernel) (Nat.le_refl _)
  have z1 := fun fl A => rof_ok (G := G) (fl := fl) (A := A) (n := 1) (by decide) (by decide)
  have z2 := fun fl A => rof_ok (G := G) (fl := fl) (A := A) (n := 2) (by decide) (by decide)
  have m1 := fun fl A => gmul (G := G) (fl := fl) (A := A) hG rg.fit rg.fit rg.sz rg.sz (by omega)
  have a1 := fun fl A => qadd (G := G) (fl := fl) (A := A) hG rz_one (rg.sz.mul rg.sz) (by omega)
  have s1 := fun fl A => qsub (G := G) (fl := fl) (A := A) hG rz_one (rg.sz.mul rg.sz) (by omega)
  have d1 := fun fl A => qdiv (G := G) (fl := fl) (A := A) hG (rz_one.sub (rg.sz.mul rg.sz)) (rz_one.add (rg.sz.mul rg.sz)) (by omega) (num_ne (one_sq t))
  have m2 := fun fl A => gmul (G := G) (fl := fl) (A := A) hG (raw_good hG z2r (by omega)).fit rg.fit z2r rg.sz (by omega)
  have d2 := fun fl A => qdiv (G := G) (fl := fl) (A := A) hG (z2r.mul rg.sz) (rz_one.add (rg.sz.mul rg.sz)) (by omega) (num_ne (one_sq t))
  have hrb := RB.tuple2 (ratV_rb A.next (tcos (some t))) (ratV_rb A.next (tsin (some t)))
  rw [show (1 - t * t) / (1 + t * t) = tcos (some t) from rfl] at d1
  rw [show 2 * t / (1 + t * t) = tsin (some t) from by simp only [tsin, Option.getD]; rw [show 2 * t = t + t from by grind]] at d2
  rw [rOf_one] at z1
  rw [show rOf 2 = 2 from rfl] at z2
  simp only [ratV_def] at z1 z2 m1 a1 s1 d1 m2 d2 hrb ⊢
  simp only [↓R1, R2, R3, R4, TY, reduceIte, Nat.reduceEqDiff, Nat.reduceAdd, Nat.reduceMul, Nat.reduceLT, Nat.reduceLeDiff, reduceCtorEq, decide_true, decide_false, Int.reduceLE, Int.reduceLT, Int.reduceToNat, Int.reduceAdd, Int.reduceSub, Int.reduceMul, Int.reduceEq, hfl, hfl1, hfl2, hfl3, hfl4, hfl5, hfl6, NE, NE9, Nat.add_assoc]
  refine call_of (m1 _ _) ?_
  simp only [↓R1, R2, R3, R4, TY, reduceIte, Nat.reduceEqDiff, Nat.reduceAdd, Nat.reduceMul, Nat.reduceLT, Nat.reduceLeDiff, reduceCtorEq, decide_true, decide_false, Int.reduceLE, Int.reduceLT, Int.reduceToNat, Int.reduceAdd, Int.reduceSub, Int.reduceMul, Int.reduceEq, hfl, hfl1, hfl2, hfl3, hfl4, hfl5, hfl6, NE, NE9, Nat.add_assoc]
  refine call_of (z1 _ _) ?_
  simp only [↓R1, R2, R3, R4, TY, reduceIte, Nat.reduceEqDiff, Nat.reduceAdd, Nat.reduceMul, Nat.reduceLT, Nat.reduceLeDiff, reduceCtorEq, decide_true, decide_false, Int.reduceLE, Int.reduceLT, Int.reduceToNat, Int.reduceAdd, Int.reduceSub, Int.reduceMul, Int.reduceEq, hfl, hfl1, hfl2, hfl3, hfl4, hfl5, hfl6, NE, NE9, Nat.add_assoc]
  refine call_of (a1 _ _) ?_
  simp only [↓R1, R2, R3, R4, TY, reduceIte, Nat.reduceEqDiff, Nat.reduceAdd, Nat.reduceMul, Nat.reduceLT, Nat.reduceLeDiff, reduceCtorEq, decide_true, decide_false, Int.reduceLE, Int.reduceLT, Int.reduceToNat, Int.reduceAdd, Int.reduceSub, Int.reduceMul, Int.reduceEq, hfl, hfl1, hfl2, hfl3, hfl4, hfl5, hfl6, NE, NE9, Nat.add_assoc]
  rw [floOf_wr (by kernel_rfl)]
  simp only [↓R1, R2, R3, R4, TY, reduceIte, Nat.reduceEqDiff, Nat.reduceAdd, Nat.reduceMul, Nat.reduceLT, Nat.reduceLeDiff, reduceCtorEq, decide_true, decide_false, Int.reduceLE, Int.reduceLT, Int.reduceToNat, Int.reduceAdd, Int.reduceSub, Int.reduceMul, Int.reduceEq, hfl, hfl1, hfl2, hfl3, hfl4, hfl5, hfl6, NE, NE9, Nat.add_assoc]
  refine call_of (z1 _ _) ?_
  simp only [↓R1, R2, R3, R4, TY, reduceIte, Nat.reduceEqDiff, Nat.reduceAdd, Nat.reduceMul, Nat.reduceLT, Nat.reduceLeDiff, reduceCtorEq, decide_true, decide_false, Int.reduceLE, Int.reduceLT, Int.reduceToNat, Int.reduceAdd, Int.reduceSub, Int.reduceMul, Int.reduceEq, hfl, hfl1, hfl2, hfl3, hfl4, hfl5, hfl6, NE, NE9, Nat.add_assoc]
  refine call_of (s1 _ _) ?_
  simp only [↓R1, R2, R3, R4, TY, reduceIte, Nat.reduceEqDiff, Nat.reduceAdd, Nat.reduceMul, Nat.reduceLT, Nat.reduceLeDiff, reduceCtorEq, decide_true, decide_false, Int.reduceLE, Int.reduceLT, Int.reduceToNat, Int.reduceAdd, Int.reduceSub, Int.reduceMul, Int.reduceEq, hfl, hfl1, hfl2, hfl3, hfl4, hfl5, hfl6, NE, NE9, Nat.add_assoc]
  refine call_of (d1 _ _) ?_
  simp only [↓R1, R2, R3, R4, TY, reduceIte, Nat.reduceEqDiff, Nat.reduceAdd, Nat.reduceMul, Nat.reduceLT, Nat.reduceLeDiff, reduceCtorEq, decide_true, decide_false, Int.reduceLE, Int.reduceLT, Int.reduceToNat, Int.reduceAdd, Int.reduceSub, Int.reduceMul, Int.reduceEq, hfl, hfl1, hfl2, hfl3, hfl4, hfl5, hfl6, NE, NE9, Nat.add_assoc]
  rw [floOf_wr (by kernel_rfl)]
  simp only [↓R1, R2, R3, R4, TY, reduceIte, Nat.reduceEqDiff, Nat.reduceAdd, Nat.reduceMul, Nat.reduceLT, Nat.reduceLeDiff, reduceCtorEq, decide_true, decide_false, Int.reduceLE, Int.reduceLT, Int.reduceToNat, Int.reduceAdd, Int.reduceSub, Int.reduceMul, Int.reduceEq, hfl, hfl1, hfl2, hfl3, hfl4, hfl5, hfl6, NE, NE9, Nat.add_assoc]
  refine call_of (z2 _ _) ?_
  simp only [↓R1, R2, R3, R4, TY, reduceIte, Nat.reduceEqDiff, Nat.reduceAdd, Nat.reduceMul, Nat.reduceLT, Nat.reduceLeDiff, reduceCtorEq, decide_true, decide_false, Int.reduceLE, Int.reduceLT, Int.reduceToNat, Int.reduceAdd, Int.reduceSub, Int.reduceMul, Int.reduceEq, hfl, hfl1, hfl2, hfl3, hfl4, hfl5, hfl6, NE, NE9, Nat.add_assoc]
  refine call_of (m2 _ _) ?_
  simp only [↓R1, R2, R3, R4, TY, reduceIte, Nat.reduceEqDiff, Nat.reduceAdd, Nat.reduceMul, Nat.reduceLT, Nat.reduceLeDiff, reduceCtorEq, decide_true, decide_false, Int.reduceLE, Int.reduceLT, Int.reduceToNat, Int.reduceAdd, Int.reduceSub, Int.reduceMul, Int.reduceEq, hfl, hfl1, hfl2, hfl3, hfl4, hfl5, hfl6, NE, NE9, Nat.add_assoc]
  refine call_of (d2 _ _) ?_
  simp only [↓R1, R2, R3, R4, TY, reduceIte, Nat.reduceEqDiff, Nat.reduceAdd, Nat.reduceMul, Nat.reduceLT, Nat.reduceLeDiff, reduceCtorEq, decide_true, decide_false, Int.reduceLE, Int.reduceLT, Int.reduceToNat, Int.reduceAdd, Int.reduceSub, Int.reduceMul, Int.reduceEq, hfl, hfl1, hfl2, hfl3, hfl4, hfl5, hfl6, NE, NE9, Nat.add_assoc]
  rw [floOf_wr (by kernel_rfl)]
  simp only [↓R1, R2, R3, R4, TY, reduceIte, Nat.reduceEqDiff, Nat.reduceAdd, Nat.reduceMul, Nat.reduceLT, Nat.reduceLeDiff, reduceCtorEq, decide_true, decide_false, Int.reduceLE, Int.reduceLT, Int.reduceToNat, Int.reduceAdd, Int.reduceSub, Int.reduceMul, Int.reduceEq, hfl, hfl1, hfl2, hfl3, hfl4, hfl5, hfl6, NE, NE9, Nat.add_assoc]
  rw [floOf_wr (by kernel_rfl)]
  simp only [↓R1, R2, R3, R4, TY, reduceIte, Nat.reduceEqDiff, Nat.reduceAdd, Nat.reduceMul, Nat.reduceLT, Nat.reduceLeDiff, reduceCtorEq, decide_true, decide_false, Int.reduceLE, Int.reduceLT, Int.reduceToNat, Int.reduceAdd, Int.reduceSub, Int.reduceMul, Int.reduceEq, hfl, hfl1, hfl2, hfl3, hfl4, hfl5, hfl6, NE, NE9, Nat.add_assoc]
  rw [floOf_wr (by kernel_rfl)]
  simp only [↓R1, R2, R3, R4, TY, reduceIte, Nat.reduceEqDiff, Nat.reduceAdd, Nat.reduceMul, Nat.reduceLT, Nat.reduceLeDiff, reduceCtorEq, decide_true, decide_false, Int.reduceLE, Int.reduceLT, Int.reduceToNat, Int.reduceAdd, Int.reduceSub, Int.reduceMul, Int.reduceEq, hfl, hfl1, hfl2, hfl3, hfl4, hfl5, hfl6, NE, NE9, Nat.add_assoc]
  refine Ended.back hA ?_ rfl hrb
  simp (maxDischargeDepth := 20) only [xt_push, xt_put, xt_refl, Nat.le_refl, Nat.le_add_right, Nat.add_assoc, Nat.reduceAdd]

end
end Go.Proofs.YtjkimjmocfjjnaaDoor.Ab
