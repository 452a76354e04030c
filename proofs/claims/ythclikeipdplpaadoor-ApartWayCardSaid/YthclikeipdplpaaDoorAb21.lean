/- Slices that a body makes by append; bodies that end with one new block. -/
import Derived.Test.YthclikeipdplpaaDoorAb18
namespace Go.Proofs.YthclikeipdplpaaDoor.Ab
open Go.RowKit
set_option linter.unusedVariables false
set_option linter.unusedSimpArgs false

/-- A slice of the body's own, in a block not below lo, that holds these elements. -/
structure Ac (A : Hp) (lo sz : Nat) (v : Value) (css : List (List Value)) : Prop where
  len : ∀ c ∈ css, c.length = sz
  one : ∀ c ∈ css, ∀ u ∈ c, u.oneCell' = true
  at_ : (v = .slice none 0 0 ∧ css = []) ∨ ∃ id g n c, v = .slice (some ⟨id, 0, some g⟩) n c ∧ n ≤ c ∧ lo ≤ id ∧ id < A.next ∧ A.blk id = some (.row css.flatten g sz) ∧ css.length = n

theorem flat_len {sz : Nat} : ∀ {css : List (List Value)}, (∀ c ∈ css, c.length = sz) → css.flatten.length = css.length * sz
  | [], _ => by simp
  | c :: cs, h => by
    rw [List.flatten_cons, List.length_append, h c (by simp), flat_len fun d hd => h d (by simp [hd]), List.length_cons, Nat.succ_mul]; omega

theorem Ac.sl {A : Hp} {lo sz : Nat} {v : Value} {css : List (List Value)} (h : Ac A lo sz v css) : Sl A sz v css := by
  refine ⟨h.len, ?_⟩
  rcases h.at_ with h1 | ⟨id, g, n, c, h1, h2, h3, h4, h5, h6⟩
  · exact .inl h1
  · exact .inr (.inr ⟨_, n, c, g, css.flatten, h1, h6, rfl, h5, fun j x hj => by simpa using hj⟩)
theorem Ac.nil (A : Hp) (lo sz : Nat) : Ac A lo sz (.slice none 0 0) [] := ⟨by simp, by simp, .inl ⟨rfl, rfl⟩⟩
/-- It stands as well in a heap that has its block. -/
theorem Ac.keep {A B : Hp} {lo sz : Nat} {v : Value} {css : List (List Value)} (h : Ac A lo sz v css) (hn : A.next ≤ B.next) (hb : ∀ id g n c, v = .slice (some ⟨id, 0, some g⟩) n c → B.blk id = A.blk id) : Ac B lo sz v css := by
  refine ⟨h.len, h.one, ?_⟩
  rcases h.at_ with h1 | ⟨id, g, n, c, h1, h2, h3, h4, h5, h6⟩
  · exact .inl h1
  · exact .inr ⟨id, g, n, c, h1, h2, h3, Nat.lt_of_lt_of_le h4 hn, by rw [hb id g n c h1]; exact h5, h6⟩
theorem Ac.xt {A B : Hp} {lo sz : Nat} {v : Value} {css : List (List Value)} (h : Ac A lo sz v css) (x : Xt A.next A B) : Ac B lo sz v css := by
  refine h.keep x.next fun id g n c e => x.blk id ?_
  rcases h.at_ with ⟨h1, _⟩ | ⟨id', g', n', c', h1, h2, h3, h4, h5, h6⟩
  · rw [e] at h1; cases h1
  · rw [e] at h1; cases h1; exact h4

section
variable {P : Program} {G : Gl} {fl : Nat} {A : Hp}

/-- append, with a slice of the body's own on the left. -/
theorem apn_of {lo sz : Nat} {t u e : TypeId} {T U E : Ty} {s x : Value} {css new : List (List Value)} {f : Value × Hp → Prop} (hT : tyOf P t = some T) (hd : T.d = .sl e) (hE : tyOf P e = some E) (hU : tyOf P u = some U) (hud : U.d = .sl e)
    (hsz : E.size = sz) (h0 : 0 < sz) (hz : E.zero.length = sz) (hs : Ac A lo sz s css) (hfl : fl ≤ lo) (hlo : lo ≤ A.next) (hx : Sl A sz x new) (hone : ∀ c ∈ new, ∀ u ∈ c, u.oneCell' = true)
    (hb : (css.length + new.length) * E.bytes ≤ 140737488355328) (hb2 : css.length + new.length ≤ 140737488355328)
    (k : ∀ v' A', Ac A' lo sz v' (css ++ new) → Xt lo A A' → A.next ≤ A'.next → (∀ id, id < A.next → (∀ g n c, s ≠ .slice (some ⟨id, 0, some g⟩) n c) → A'.blk id = A.blk id) → ((s ≠ .slice none 0 0 ∨ new ≠ []) → ∃ a n c, v' = .slice (some a) n c) →
      (∀ id g n c, v' = .slice (some ⟨id, 0, some g⟩) n c → id = A.next ∨ ∃ g0 n0 c0, s = .slice (some ⟨id, 0, some g0⟩) n0 c0) → f (v', A')) : @apn P G fl A #[t, u] [s, x] ⟨f⟩ := by
  have hall : (new.flatten).all (·.oneCell') = true := by
    rw [List.all_eq_true]
    intro v hv
    obtain ⟨c, hc, hv⟩ := List.mem_flatten.1 hv
    exact hone c hc v hv
  have hlen : ∀ c ∈ css ++ new, c.length = sz := fun c hc => (List.mem_append.1 hc).elim (hs.len c) (hx.1 c)
  have hones : ∀ c ∈ css ++ new, ∀ u ∈ c, u.oneCell' = true := fun c hc => (List.mem_append.1 hc).elim (hs.one c) (hone c)
  have hnew : news G A E.size x new.length new.flatten := by
    refine ⟨by rw [flat_len hx.1, hsz], ?_⟩
    rcases hx.2 with ⟨rfl, rfl⟩ | ⟨a, g, rfl, rfl, h3, h4, h5⟩ | ⟨a, n, c, g, ds, rfl, rfl, h3, h4, h5⟩
    · exact .inl ⟨0, rfl, rfl⟩
    · exact .inr (.inl ⟨a, 0, rfl, by rw [h3]; simp, fun j v hj => by simp at hj⟩)
    · refine .inr (.inl ⟨a, c, rfl, by rw [h3]; simp, fun j v hj => ?_⟩)
      have := h5 j v hj
      simp only [Hp.get, aadd, h3, h4, if_true]
      exact this
  refine ⟨s, x, rfl, t, u, e, T, E, new.length, new.flatten, rfl, hT, hd, hE, by simp [hU, hud], by omega, by omega, hall, hnew, ?_⟩
  rcases hs.at_ with ⟨rfl, rfl⟩ | ⟨id, g, n, c, rfl, hnc, hid, hidn, hblk, hn⟩
  · by_cases hm : new.length = 0
    · refine .inl ⟨rfl, hm, ?_⟩
      have : new = [] := List.eq_nil_of_length_eq_zero hm
      subst this
      exact k _ _ (Ac.nil _ _ _) ⟨fun _ _ => rfl, hlo⟩ (Nat.le_refl _) (fun _ _ _ => rfl) (fun h => by simp at h) (fun id g n c h => by cases h)
    · refine .inr (.inl ⟨rfl, by omega, by simpa using hb, by simpa using hb2, ?_⟩)
      refine k _ _ ⟨hlen, hones, .inr ⟨A.next, 0, _, _, rfl, Nat.le_refl _, hlo, by simp, by rw [hsz]; simp [Hp.push_blk], rfl⟩⟩ ⟨fun i hi => by rw [Hp.push_blk, if_neg (by omega)], by simp; omega⟩ (by simp) (fun i hi _ => by rw [Hp.push_blk, if_neg (by omega)]) (fun _ => ⟨_, _, _, rfl⟩) fun id g n c h => by cases h; exact .inl rfl
  · refine .inr (.inr ⟨_, n, c, g, css.flatten, rfl, rfl, by rw [hsz]; exact hblk, by simp only; omega, by rw [flat_len hs.len, hsz, hn]; simp, ?_, by rw [← hn]; exact hb, by rw [← hn]; exact hb2, ?_⟩)
    · rw [List.all_eq_true]
      intro v hv
      obtain ⟨c, hc, hv⟩ := List.mem_flatten.1 hv
      exact hs.one c hc v hv
    · have hrow : (List.take (n * E.size) (List.drop 0 css.flatten) ++ new.flatten) = (css ++ new).flatten := by
        rw [List.drop_zero, List.take_of_length_le (by rw [flat_len hs.len, hsz, hn]; exact Nat.le_refl _), List.flatten_append]
      simp only [hrow]
      refine k _ _ ⟨hlen, hones, .inr ⟨id, g + 1, _, _, rfl, Nat.le_refl _, hid, by simpa using hidn, by rw [hsz]; simp [Hp.put_blk], by simp [hn]⟩⟩ ⟨fun i hi => by rw [Hp.put_blk, if_neg (by omega)], by simpa using hlo⟩ (by simp) (fun i hi hne => ?_) (fun _ => ⟨_, _, _, rfl⟩) fun id' g' n' c' h => by cases h; exact .inr ⟨_, _, _, rfl⟩
      rw [Hp.put_blk, if_neg]
      rintro rfl
      exact hne g n c rfl

/-- One new block, told. -/
theorem told_one {B : Hp} {id g sz : Nat} {cells : List Value} (hA : Hok fl A) (x : Xt A.next A B) (hid : A.next ≤ id) (hb : B.blk id = some (.row cells g sz)) (hr : ∀ u ∈ cells, RB A.next u) :
    Told A B (A.push (.row cells 0 sz)) (fun k => if k = A.next then some (id, 0) else none) := by
  refine ⟨by simp, fun i hi => ?_, fun i hi cs g' e h => .inl ?_, fun i hi => ?_, fun k h1 h2 => ?_, fun k p h => ?_, fun k k' i sh sh' h1 h2 => ?_⟩
  · rw [Hp.push_blk, if_neg (by omega)]; exact (x.blk i hi).symm
  · rw [← x.blk i hi]; exact h
  · rw [Hp.push_next] at hi
    rw [Hp.push_blk, if_neg (by omega)]; exact hA.wf i (by omega)
  · rw [Hp.push_next] at h2
    obtain rfl : k = A.next := by omega
    refine ⟨id, 0, cells, g, sz, cells, by simp, hid, hb, by simp [Hp.push_blk], by simp, fun j v hj => ⟨v, by simpa using hj, .same (hr v (List.mem_of_getElem? hj))⟩⟩
  · split at h
    · rename_i hk; subst hk; simp
    · cases h
  · split at h1
    · split at h2
      · omega
      · cases h2
    · cases h1
theorem rr_one {B : Hp} {id g sz n c : Nat} {cells : List Value} (hb : B.blk id = some (.row cells g sz)) (hnc : n ≤ c) :
    RR B A.next (fun k => if k = A.next then some (id, 0) else none) (.slice (some ⟨A.next, 0, some 0⟩) n n) (.slice (some ⟨id, 0, some g⟩) n c) :=
  .sl ⟨id, 0, cells, g, sz, by simp, rfl, hb, rfl⟩ hnc

/-- What an own slice is told as. -/
def outV (A : Hp) (v : Value) (css : List (List Value)) : Value := match v with | .slice none _ _ => .slice none 0 0 | _ => .slice (some ⟨A.next, 0, some 0⟩) css.length css.length
def outH (A : Hp) (sz : Nat) (v : Value) (css : List (List Value)) : Hp := match v with | .slice none _ _ => A | _ => A.push (.row css.flatten 0 sz)

/-- What an own slice is told as, is such a slice. -/
theorem Ac.out {B : Hp} {sz : Nat} {v : Value} {css : List (List Value)} (h : Ac B A.next sz v css) : Ac (outH A sz v css) A.next sz (outV A v css) css := by
  refine ⟨h.len, h.one, ?_⟩
  rcases h.at_ with ⟨rfl, rfl⟩ | ⟨id, g, n, c, rfl, hnc, hid, hidn, hblk, rfl⟩
  · exact .inl ⟨rfl, rfl⟩
  · exact .inr ⟨A.next, 0, _, _, rfl, Nat.le_refl _, Nat.le_refl _, by simp [outH], by simp [outH, Hp.push_blk], rfl⟩
end
end Go.Proofs.YthclikeipdplpaaDoor.Ab
