/- Clocks: what holds between the rounds. -/
import Derived.Test.YtiiapkhdjchhjaaCc
namespace Go.Proofs.Ytiiapkhdjchhjaa.Ab
open Go.RowKit
set_option linter.unusedVariables false
set_option linter.unusedSimpArgs false
set_option maxRecDepth 100000

/-- A beat whose clock has lost no more than that. -/
def Gdm (lost : Int) (m : Mg) : Prop := m.ok ∧ ∃ lo : Int, 0 ≤ lo ∧ lo ≤ lost ∧ m.c = IntKind.u32.wrap (7 + m.t - lo)
theorem Gdm.before {lost : Int} {a b : Mg} (h0 : lost < 10) (ha : Gdm lost a) (hb : Gdm lost b) (h : lost < dif b.c a.c) : a.t < b.t := by
  obtain ⟨⟨-, -, a0, a1⟩, la, l1, l2, hc⟩ := ha
  obtain ⟨⟨-, -, b0, b1⟩, lb, k1, k2, hd⟩ := hb
  rw [dif_small hd hc (by omega) (by omega)] at h
  omega
def pnL : Option Mg → List Mg
  | none => []
  | some m => [m]
structure NetI (E H : Hp) (N : Nat) (lost : Int) (t u cnt : Nat) (sg : Value) (gl : List Mg) (pend : Option Mg) : Prop where
  nx : E.next ≤ H.next
  old : ∀ id, id < N → H.blk id = E.blk id
  net : ∃ (tk : Int) (kv : Value), H.blk N = some (.row [.slice none 0 0, .int .i64 tk, kv] 0 3) ∧ tk ≤ t ∧ (pend = none → kv = .slice none 0 0) ∧
    ∀ m, pend = some m → ∃ k gk c0, kv = .slice (some ⟨k, 0, some gk⟩) 1 c0 ∧ H.blk k = some (.row (sC m) gk 7) ∧ k < H.next ∧ k ≠ N ∧ m.t + 1 ≤ t
  mp : ∃ (el : List (Int × Value × Nat)) (ck : Nat), H.blk (N + 1) = some (.mp (ents (Value.int .i64) el) ck) ∧ el.length = cnt ∧ ∀ e ∈ el, e.1 < (u : Int)
  got : Ac H (N + 2) 6 sg (gl.map mC)
  good : ∀ m, m ∈ gl ∨ m ∈ pnL pend → Gdm lost m
theorem NetI.up {E H H' : Hp} {N : Nat} {lost : Int} {t u cnt : Nat} {sg : Value} {gl : List Mg} {pend : Option Mg} (h : NetI E H N lost t u cnt sg gl pend) (hE : E.next = N + 2) (hn : H.next ≤ H'.next) (hb : ∀ id, id < H.next → H'.blk id = H.blk id) : NetI E H' N lost t u cnt sg gl pend := by
  have hnx := h.nx
  obtain ⟨tk, kv, h1, h2, h3, h4⟩ := h.net
  obtain ⟨el, ck, m1, m2, m3⟩ := h.mp
  refine ⟨by omega, fun id hid => (hb id (by omega)).trans (h.old id hid), ⟨tk, kv, (hb N (by omega)).trans h1, h2, h3, fun m hm => ?_⟩, ⟨el, ck, (hb _ (by omega)).trans m1, m2, m3⟩, ⟨h.got.len, h.got.one, ?_⟩, h.good⟩
  · obtain ⟨k, gk, c0, e1, e2, e3, e4, e5⟩ := h4 m hm
    exact ⟨k, gk, c0, e1, (hb k e3).trans e2, by omega, e4, e5⟩
  · rcases h.got.at_ with h5 | ⟨id, g, n, c, e1, e2, e3, e4, e5, e6⟩
    · exact .inl h5
    · exact .inr ⟨id, g, n, c, e1, e2, e3, by omega, (hb id e4).trans e5, e6⟩
theorem NetI.later {E H : Hp} {N : Nat} {lost : Int} {t t' u u' cnt : Nat} {sg : Value} {gl : List Mg} {pend : Option Mg} (h : NetI E H N lost t u cnt sg gl pend) (ht : t ≤ t') (hu : u ≤ u') : NetI E H N lost t' u' cnt sg gl pend := by
  obtain ⟨tk, kv, h1, h2, h3, h4⟩ := h.net
  obtain ⟨el, ck, m1, m2, m3⟩ := h.mp
  refine ⟨h.nx, h.old, ⟨tk, kv, h1, by omega, h3, fun m hm => ?_⟩, ⟨el, ck, m1, m2, fun e he => by have := m3 e he; omega⟩, h.got, h.good⟩
  obtain ⟨k, gk, c0, e1, e2, e3, e4, e5⟩ := h4 m hm
  exact ⟨k, gk, c0, e1, e2, e3, e4, by omega⟩
/-- The same at heaps that agree on what is below, on the map and the list. -/
theorem Ac.up {A B : Hp} {lo sz : Nat} {v : Value} {css : List (List Value)} (h : Ac A lo sz v css) (hn : A.next ≤ B.next) (hk : ∀ id, lo ≤ id → id < A.next → B.blk id = A.blk id) : Ac B lo sz v css := by
  refine ⟨h.len, h.one, ?_⟩
  rcases h.at_ with h1 | ⟨id, g, n, c, h1, h2, h3, h4, h5, h6⟩
  · exact .inl h1
  · exact .inr ⟨id, g, n, c, h1, h2, h3, by omega, by rw [hk id h3 h4]; exact h5, h6⟩
theorem NetI.app {E C H : Hp} {N : Nat} {lost : Int} {t u cnt : Nat} {sg sg' : Value} {gl gl' : List Mg} (h : NetI E C N lost t u cnt sg gl none) (x : Xt (N + 2) C H) (hn : C.next ≤ H.next) (hac : Ac H (N + 2) 6 sg' (gl'.map mC)) (hg : ∀ m ∈ gl', Gdm lost m) : NetI E H N lost t u cnt sg' gl' none := by
  have hnx := h.nx
  obtain ⟨tk, kv, h1, h2, h3, h4⟩ := h.net
  obtain ⟨el, ck, m1, m2, m3⟩ := h.mp
  exact ⟨by omega, fun id hid => (x.blk id (by omega)).trans (h.old id hid), ⟨tk, kv, (x.blk _ (by omega)).trans h1, h2, h3, fun m hm => by cases hm⟩, ⟨el, ck, (x.blk _ (by omega)).trans m1, m2, m3⟩, hac, fun m hm => hm.elim (hg m) fun h => by cases h⟩
theorem NetI.put {E H : Hp} {N : Nat} {lost : Int} {t u cnt : Nat} {sg : Value} {gl : List Mg} (h : NetI E H N lost t u cnt sg gl none) (hE : E.next = N + 2) {el : List (Int × Value × Nat)} {ck : Nat} (hl : el.length = cnt + 1) (he : ∀ e ∈ el, e.1 < ((u + 1 : Nat) : Int)) :
    NetI E (H.put (N + 1) (.mp (ents (Value.int .i64) el) ck)) N lost t (u + 1) (cnt + 1) sg gl none := by
  have hnx := h.nx
  obtain ⟨tk, kv, h1, h2, h3, h4⟩ := h.net
  refine ⟨h.nx, fun id hid => ?_, ⟨tk, kv, ?_, h2, h3, fun m hm => by cases hm⟩, ⟨el, ck, by rw [Hp.put_blk, if_pos rfl], hl, he⟩, h.got.up (Nat.le_refl _) fun id h5 h6 => by rw [Hp.put_blk, if_neg (by omega)], h.good⟩
  · rw [Hp.put_blk, if_neg (by omega)]; exact h.old id hid
  · rw [Hp.put_blk, if_neg (by omega)]; exact h1
theorem Ac.lt {A : Hp} {lo sz n c : Nat} {a : Addr} {v : Value} {css : List (List Value)} (h : Ac A lo sz v css) (hv : v = .slice (some a) n c) : a.block < A.next := by
  rcases h.at_ with ⟨h1, _⟩ | ⟨id, g, n, c, h1, h2, h3, h4, h5, h6⟩
  · rw [hv] at h1; cases h1
  · rw [hv] at h1; cases h1; exact h4
section
variable {G : Gl} {fl : Nat} {E H : Hp}
theorem mg_get {B : Hp} {a : Addr} {n c : Nat} {l : List Mg} (h : Sl B 6 (.slice (some a) n c) (l.map mC)) {i : Nat} (hi : i < l.length) :
    B.get G (aadd a (i * 6)) = some (.int .i64 3) ∧ B.get G (aadd a (i * 6 + 1)) = some (.int .i64 l[i].i) ∧ B.get G (aadd a (i * 6 + 2)) = some (.int .i64 4) ∧ B.get G (aadd a (i * 6 + 3)) = some (.int .i64 l[i].t) ∧ B.get G (aadd a (i * 6 + 4)) = some (.int .u32 l[i].c) ∧ B.get G (aadd a (i * 6 + 5)) = some (.slice none 0 0) := by
  obtain ⟨a', h1, h2⟩ := h.at (G := G) (i := i) (by simpa using hi)
  cases h1
  simp only [List.getElem_map] at h2
  exact ⟨h2 0 _ rfl, h2 1 _ rfl, h2 2 _ rfl, h2 3 _ rfl, h2 4 _ rfl, h2 5 _ rfl⟩
theorem take_step {N : Nat} {lost : Int} {t u cnt : Nat} {sg : Value} {gl : List Mg} {pend : Option Mg} (h : NetI E H N lost t u cnt sg gl pend) (hE : E.next = N + 2) (hf : fl ≤ N) {T : Int} (hT : (t : Int) ≤ T) :
    ∃ (v : Value) (C : Hp), Sound Try.prog G 7 [.pointer (some ⟨N, 0, some 0⟩), .int .i64 T, .int .i64 4] fl H v C ∧ NetI E C N lost t u cnt sg gl none ∧ Sl C 6 v ((pnL pend).map mC) ∧ H.next ≤ C.next := by
  have hnx := h.nx
  obtain ⟨tk, kv, h1, h2, h3, h4⟩ := h.net
  obtain ⟨el, ck, m1, m2, m3⟩ := h.mp
  cases pend with
  | none =>
    obtain rfl := h3 rfl
    exact ⟨_, _, take0_ok (fs := .slice none 0 0) (tk := .int .i64 tk) h1 hf (by omega) T, h, ⟨by simp [pnL], .inl ⟨rfl, rfl⟩⟩, Nat.le_refl _⟩
  | some m =>
    obtain ⟨k, gk, c0, rfl, e2, e3, e4, e5⟩ := h4 m rfl
    obtain ⟨f1, f2, f3, f4⟩ := take1_facts (A := H) (N := N) (g := 0) (fs := .slice none 0 0) (tk := .int .i64 tk) (m := m) (by omega)
    refine ⟨_, _, take1_ok (fs := .slice none 0 0) (tk := .int .i64 tk) (m := m) h1 hf (by omega) e2 e3 (by omega), ?_, ?_, by omega⟩
    · refine ⟨by omega, fun id hid => (f4 id (by omega) (by omega)).trans (h.old id hid), ⟨tk, _, f2, h2, fun _ => rfl, fun m hm => by cases hm⟩, ⟨el, ck, (f4 _ (by omega) (by omega)).trans m1, m2, m3⟩,
        h.got.up (by omega) fun id h1 h2 => f4 id h2 (by omega), fun m hm => h.good m (hm.elim .inl fun h => by cases h)⟩
    · exact ⟨fun c hc => by simp [pnL] at hc; rw [hc]; rfl, .inr (.inr ⟨_, 1, 1, 0, _, rfl, rfl, rfl, f3, fun j x hj => by simpa [pnL] using hj⟩)⟩
theorem send_step {N : Nat} {lost : Int} {t u cnt : Nat} {sg : Value} {gl : List Mg} {m : Mg} (h : NetI E H N lost t u cnt sg gl none) (hE : E.next = N + 2) (hf : fl ≤ N) (ht : t ≤ 2000) (hm : Gdm lost m) (hmt : m.t = t) :
    ∃ C : Hp, Sound Try.prog G 10 [.pointer (some ⟨N, 0, some 0⟩), .int .i64 t, .agg (mC m).toArray] fl H (.int .i64 0) C ∧ NetI E C N lost (t + 1) u cnt sg gl (some m) := by
  have hnx := h.nx
  obtain ⟨tk, kv, h1, h2, h3, h4⟩ := h.net
  obtain ⟨el, ck, m1, m2, m3⟩ := h.mp
  obtain rfl := h3 rfl
  obtain ⟨f1, f2, f3, f4⟩ := send_facts (A := H) (N := N) (g := 0) (m := m) (by omega)
  refine ⟨_, send_ok h1 hf (by omega) (by omega) (by omega) h2 hm.1 hmt, ?_⟩
  refine ⟨by omega, fun id hid => (f4 id (by omega) (by omega)).trans (h.old id hid), ⟨m.t, _, f2, by omega, fun h => by (cases h), fun m' hm' => ?_⟩, ⟨el, ck, (f4 _ (by omega) (by omega)).trans m1, m2, fun e he => by have := m3 e he; omega⟩,
    h.got.up (by omega) fun id h1 h2 => f4 id h2 (by omega), fun m' hm' => ?_⟩
  · cases hm'
    exact ⟨_, _, _, rfl, f3, by omega, by omega, by omega⟩
  · rcases hm' with h5 | h5
    · exact h.good m' (.inl h5)
    · simp [pnL] at h5; rw [h5]; exact hm
end
end Go.Proofs.Ytiiapkhdjchhjaa.Ab
