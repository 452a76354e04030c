/- Lists: numbers of blocks, places of elements, lists as new slices, appending one element. -/
import Derived.Test.YtiiapkhdjchhjaaAb21
import Derived.Test.YtiiapkhdjchhjaaTy
namespace Go.Proofs.Ytiiapkhdjchhjaa.Ab
open Go.RowKit
set_option linter.unusedVariables false
set_option linter.unusedSimpArgs false
set_option maxRecDepth 100000

section
variable {n m : Nat}
theorem fe_1 : (n = n + 1) = False := eq_false (by omega)
theorem fe_1' : (n + 1 = n) = False := eq_false (by omega)
theorem fl_1 : (n < n + 1) = True := eq_true (by omega)
theorem fe_2 : (n = n + 2) = False := eq_false (by omega)
theorem fe_2' : (n + 2 = n) = False := eq_false (by omega)
theorem fl_2 : (n < n + 2) = True := eq_true (by omega)
theorem fe_3 : (n = n + 3) = False := eq_false (by omega)
theorem fe_3' : (n + 3 = n) = False := eq_false (by omega)
theorem fl_3 : (n < n + 3) = True := eq_true (by omega)
theorem fe_4 : (n = n + 4) = False := eq_false (by omega)
theorem fe_4' : (n + 4 = n) = False := eq_false (by omega)
theorem fl_4 : (n < n + 4) = True := eq_true (by omega)
theorem fe_5 : (n = n + 5) = False := eq_false (by omega)
theorem fe_5' : (n + 5 = n) = False := eq_false (by omega)
theorem fl_5 : (n < n + 5) = True := eq_true (by omega)
theorem fe_6 : (n = n + 6) = False := eq_false (by omega)
theorem fe_6' : (n + 6 = n) = False := eq_false (by omega)
theorem fl_6 : (n < n + 6) = True := eq_true (by omega)
theorem fe_7 : (n = n + 7) = False := eq_false (by omega)
theorem fe_7' : (n + 7 = n) = False := eq_false (by omega)
theorem fl_7 : (n < n + 7) = True := eq_true (by omega)
theorem fe_8 : (n = n + 8) = False := eq_false (by omega)
theorem fe_8' : (n + 8 = n) = False := eq_false (by omega)
theorem fl_8 : (n < n + 8) = True := eq_true (by omega)
theorem fn_0 : ((0 : Nat) : Int) = 0 := rfl
theorem fn_1 : ((1 : Nat) : Int) = 1 := rfl
theorem fn_2 : ((2 : Nat) : Int) = 2 := rfl
theorem fn_3 : ((3 : Nat) : Int) = 3 := rfl
theorem fn_4 : ((4 : Nat) : Int) = 4 := rfl
theorem fn_5 : ((5 : Nat) : Int) = 5 := rfl
theorem fn_6 : ((6 : Nat) : Int) = 6 := rfl
theorem fn_7 : ((7 : Nat) : Int) = 7 := rfl
theorem fn_8 : ((8 : Nat) : Int) = 8 := rfl
theorem fn_9 : ((9 : Nat) : Int) = 9 := rfl
theorem fn_10 : ((10 : Nat) : Int) = 10 := rfl
theorem fn_11 : ((11 : Nat) : Int) = 11 := rfl
theorem fn_12 : ((12 : Nat) : Int) = 12 := rfl
theorem fn_13 : ((13 : Nat) : Int) = 13 := rfl
theorem fn_14 : ((14 : Nat) : Int) = 14 := rfl
theorem fn_15 : ((15 : Nat) : Int) = 15 := rfl
theorem fn_16 : ((16 : Nat) : Int) = 16 := rfl
set_option linter.defProp false in
/-- Numbers of blocks, and small numbers. -/
def FE := And.intro @fe_1 (And.intro @fe_1' (And.intro @fl_1 (And.intro @fe_2 (And.intro @fe_2' (And.intro @fl_2 (And.intro @fe_3 (And.intro @fe_3' (And.intro @fl_3 (And.intro @fe_4 (And.intro @fe_4' (And.intro @fl_4 (And.intro @fe_5 (And.intro @fe_5' (And.intro @fl_5 (And.intro @fe_6 (And.intro @fe_6' (And.intro @fl_6 (And.intro @fe_7 (And.intro @fe_7' (And.intro @fl_7 (And.intro @fe_8 (And.intro @fe_8' (And.intro @fl_8 (And.intro @fn_0 (And.intro @fn_1 (And.intro @fn_2 (And.intro @fn_3 (And.intro @fn_4 (And.intro @fn_5 (And.intro @fn_6 (And.intro @fn_7 (And.intro @fn_8 (And.intro @fn_9 (And.intro @fn_10 (And.intro @fn_11 (And.intro @fn_12 (And.intro @fn_13 (And.intro @fn_14 (And.intro @fn_15 (@fn_16))))))))))))))))))))))))))))))))))))))))
end

/-- Where an element stands first, or -1. -/
def ixOf {α : Type} [DecidableEq α] (l : List α) (x : α) : Int := if x ∈ l then ((l.idxOf x : Nat) : Int) else -1
theorem ixOf_none {α : Type} [DecidableEq α] {l : List α} {x : α} (h : x ∉ l) : ixOf l x = -1 := by rw [ixOf, if_neg h]
theorem ixOf_found {α : Type} [DecidableEq α] {l : List α} {x : α} {j : Nat} (hj : j < l.length) (he : l[j] = x) (hn : x ∉ l.take j) : ixOf l x = j := by
  subst he
  rw [ixOf, if_pos (List.getElem_mem hj)]
  congr 1
  have h1 : l.idxOf l[j] ≤ j := by
    rcases Nat.lt_or_ge j (l.idxOf l[j]) with h | h
    · have := List.not_of_lt_findIdx (p := (· == l[j])) (xs := l) (i := j) h
      simp at this
    · exact h
  have h2 : ¬ l.idxOf l[j] < j := fun h => hn (by
    have hl : l.idxOf l[j] < l.length := by omega
    have hg : l[l.idxOf l[j]] = l[j] := by
      have := List.getElem_idxOf (x := l[j]) (xs := l) hl
      exact this
    rw [← hg]
    exact List.mem_take_iff_getElem.2 ⟨l.idxOf l[j], by omega, rfl⟩)
  omega
theorem ixOf_ge {α : Type} [DecidableEq α] {l : List α} {x : α} : 0 ≤ ixOf l x ↔ x ∈ l := by
  unfold ixOf
  split
  · rename_i h; simp only [h, iff_true]; omega
  · rename_i h; simp only [h, iff_false]; omega

/-- A list as a new slice: none if it is empty. -/
def nlV (A : Hp) (css : List (List Value)) : Value := if css = [] then .slice none 0 0 else .slice (some ⟨A.next, 0, some 0⟩) css.length css.length
def nlH (A : Hp) (sz : Nat) (css : List (List Value)) : Hp := if css = [] then A else A.push (.row css.flatten 0 sz)
theorem nlH_xt {A : Hp} {sz : Nat} {css : List (List Value)} : Xt A.next A (nlH A sz css) := by
  unfold nlH
  split
  · exact Xt.refl A
  · exact (Xt.refl A).push _
theorem nl_sl {A : Hp} {sz : Nat} {css : List (List Value)} (h : ∀ c ∈ css, c.length = sz) : Sl (nlH A sz css) sz (nlV A css) css := by
  unfold nlV nlH
  split
  · rename_i h0; subst h0; exact ⟨h, .inl ⟨rfl, rfl⟩⟩
  · exact ⟨h, .inr (.inr ⟨⟨A.next, 0, some 0⟩, css.length, css.length, 0, css.flatten, rfl, rfl, rfl, by simp [Hp.push_blk], fun j x hj => by rw [Nat.zero_add]; exact hj⟩)⟩
theorem nl_lt {A : Hp} {sz n c : Nat} {a : Addr} {css : List (List Value)} (h : nlV A css = .slice (some a) n c) : a.block < (nlH A sz css).next := by
  unfold nlV at h
  unfold nlH
  split at h
  · cases h
  · rename_i h0; rw [if_neg h0]; cases h; simp

section
variable {G : Gl} {fl : Nat} {A : Hp} {P : Program}
theorem Ended.new1 {B : Hp} {id g sz n c : Nat} {cells : List Value} (hA : Hok fl A) (x : Xt A.next A B) (hid : A.next ≤ id) (hb : B.blk id = some (.row cells g sz)) (hr : ∀ u ∈ cells, RB A.next u) (hnc : n ≤ c) :
    Ended A (.slice (some ⟨id, 0, some g⟩) n c) B (.slice (some ⟨A.next, 0, some 0⟩) n n) (A.push (.row cells 0 sz)) := ⟨_, told_one hA x hid hb hr, rr_one hb hnc⟩


/-- A new block, the front part of it told. -/
theorem told_pre {B : Hp} {id g sz : Nat} {cells rest : List Value} (hA : Hok fl A) (x : Xt A.next A B) (hid : A.next ≤ id) (hb : B.blk id = some (.row (cells ++ rest) g sz)) (hr : ∀ u ∈ cells, RB A.next u) :
    Told A B (A.push (.row cells 0 sz)) (fun k => if k = A.next then some (id, 0) else none) := by
  refine ⟨by simp, fun i hi => ?_, fun i hi q h => .inl ?_, fun i hi => ?_, fun k h1 h2 => ?_, fun k p h => ?_, fun k k' i sh sh' h1 h2 => ?_⟩
  · rw [Hp.push_blk, if_neg (by omega)]; exact (x.blk i hi).symm
  · rw [← x.blk i hi]; exact h
  · rw [Hp.push_next] at hi
    rw [Hp.push_blk, if_neg (by omega)]; exact hA.wf i (by omega)
  · rw [Hp.push_next] at h2
    obtain rfl : k = A.next := by omega
    refine .inl ⟨id, 0, cells ++ rest, g, sz, cells, by simp, hid, hb, by simp [Hp.push_blk], by simp, fun j v hj => ⟨v, ?_, .same (hr v (List.mem_of_getElem? hj))⟩⟩
    rw [Nat.zero_add, List.getElem?_append_left (List.getElem?_eq_some_iff.1 hj).1]; exact hj
  · split at h
    · rename_i hk; subst hk; simp
    · cases h
  · split at h1
    · split at h2
      · omega
      · cases h2
    · cases h1
theorem Ended.pre {B : Hp} {id g sz n c : Nat} {cells rest : List Value} (hA : Hok fl A) (x : Xt A.next A B) (hid : A.next ≤ id) (hb : B.blk id = some (.row (cells ++ rest) g sz)) (hr : ∀ u ∈ cells, RB A.next u) (hnc : n ≤ c) :
    Ended A (.slice (some ⟨id, 0, some g⟩) n c) B (.slice (some ⟨A.next, 0, some 0⟩) n n) (A.push (.row cells 0 sz)) := ⟨_, told_pre hA x hid hb hr, rr_one hb hnc⟩

/-- A slice of the body's own, none while it is empty. -/
structure Acn (A : Hp) (lo sz : Nat) (v : Value) (css : List (List Value)) : Prop where
  ac : Ac A lo sz v css
  nil : css = [] → v = .slice none 0 0
theorem Acn.none {A : Hp} {lo sz : Nat} : Acn A lo sz (.slice none 0 0) [] := ⟨⟨fun c hc => by simp at hc, fun c hc => by simp at hc, .inl ⟨rfl, rfl⟩⟩, fun _ => rfl⟩
theorem Acn.xt {A B : Hp} {lo sz : Nat} {v : Value} {css : List (List Value)} (h : Acn A lo sz v css) (x : Xt A.next A B) : Acn B lo sz v css := by
  refine ⟨⟨h.ac.len, h.ac.one, ?_⟩, h.nil⟩
  rcases h.ac.at_ with h1 | ⟨id, g, n, c, h1, h2, h3, h4, h5, h6⟩
  · exact .inl h1
  · exact .inr ⟨id, g, n, c, h1, h2, h3, Nat.lt_of_lt_of_le h4 x.next, by rw [x.blk _ h4]; exact h5, h6⟩
theorem Acn.sl {A : Hp} {lo sz : Nat} {v : Value} {css : List (List Value)} (h : Acn A lo sz v css) : Sl A sz v css := by
  refine ⟨h.ac.len, ?_⟩
  rcases h.ac.at_ with h1 | ⟨id, g, n, c, h1, h2, h3, h4, h5, h6⟩
  · exact .inl h1
  · exact .inr (.inr ⟨_, n, c, g, _, h1, h6, rfl, h5, fun j x hj => by rw [Nat.zero_add]; exact hj⟩)
theorem Acn.has {A : Hp} {lo sz : Nat} {v : Value} {css : List (List Value)} (h : Acn A lo sz v css) (h0 : css ≠ []) : ∃ id g c, v = .slice (some ⟨id, 0, some g⟩) css.length c ∧ css.length ≤ c ∧ lo ≤ id ∧ id < A.next ∧ A.blk id = some (.row css.flatten g sz) := by
  rcases h.ac.at_ with ⟨_, h1⟩ | ⟨id, g, n, c, h1, h2, h3, h4, h5, h6⟩
  · exact absurd h1 h0
  · subst h6; exact ⟨id, g, c, h1, h2, h3, h4, h5⟩
theorem Acn.lt {A : Hp} {lo sz n c : Nat} {a : Addr} {v : Value} {css : List (List Value)} (h : Acn A lo sz v css) (hv : v = .slice (some a) n c) : a.block < A.next := by
  rcases h.ac.at_ with ⟨h1, _⟩ | ⟨id, g, n, c, h1, h2, h3, h4, h5, h6⟩
  · rw [hv] at h1; cases h1
  · rw [hv] at h1; cases h1; exact h4
theorem Ended.acn {B : Hp} {sz : Nat} {v : Value} {css : List (List Value)} (hA : Hok fl A) (x : Xt A.next A B) (h : Acn B A.next sz v css) (hr : ∀ c ∈ css, ∀ u ∈ c, RB A.next u) : Ended A v B (nlV A css) (nlH A sz css) := by
  unfold nlV nlH
  split
  · rename_i h0
    rw [h.nil h0]; exact Ended.back hA x rfl (RB.sl0 _ _)
  · rename_i h0
    obtain ⟨id, g, c, rfl, h2, h3, h4, h5⟩ := h.has h0
    exact Ended.new1 hA x h3 h5 (fun u hu => by obtain ⟨c, hc, hu⟩ := List.mem_flatten.1 hu; exact hr c hc u hu) h2

theorem app1 {lo sz : Nat} {t e : TypeId} {T E : Ty} {s : Value} {css : List (List Value)} {cl : List Value} {f : Value × Hp → Prop} (hT : tyOf P t = some T) (hd : T.d = .sl e) (hE : tyOf P e = some E)
    (hsz : E.size = sz) (h0 : 0 < sz) (hz : E.zero.length = sz) (hs : Acn A lo sz s css) (hfl : fl ≤ lo) (hlo : lo ≤ A.next) (hcl : cl.length = sz) (hone : ∀ u ∈ cl, u.oneCell' = true)
    (hb : (css.length + 1) * E.bytes ≤ 140737488355328) (hb2 : css.length + 1 ≤ 140737488355328)
    (k : ∀ v' A', Acn A' lo sz v' (css ++ [cl]) → Xt lo A A' → A.next ≤ A'.next → (∀ id, id < A.next → (∀ g n c, s ≠ .slice (some ⟨id, 0, some g⟩) n c) → A'.blk id = A.blk id) →
      (∀ id g n c, v' = .slice (some ⟨id, 0, some g⟩) n c → A.next ≤ id ∨ ∃ g0 n0 c0, s = .slice (some ⟨id, 0, some g0⟩) n0 c0) → f (v', A')) :
    @apn P G fl (A.push (.row cl 0 sz)) #[t, t] [s, .slice (some ⟨A.next, 0, some 0⟩) 1 1] ⟨f⟩ := by
  have hp := (Xt.refl A).push (.row cl 0 sz)
  refine apn_of (lo := lo) (sz := sz) hT hd hE hT hd hsz h0 hz (hs.xt hp).ac hfl (by simp; omega) (new := [cl]) ⟨by simpa using hcl, .inr (.inr ⟨_, _, _, 0, _, rfl, rfl, rfl, by rw [Hp.push_blk, if_pos rfl], fun j x hj => by simpa using hj⟩)⟩
    (fun c hc u hu => by rw [List.mem_singleton] at hc; subst hc; exact hone u hu) (by simpa using hb) (by simpa using hb2) ?_
  intro v' A' hv hx hn hf hsome hid
  refine k v' A' ⟨hv, fun h => by simp at h⟩ ⟨fun id hi => (hx.blk id hi).trans (hp.blk id (by omega)), hx.next⟩ (by simp at hn; omega) (fun id hi hne => ?_) (fun id g n c h => ?_)
  · rw [hf id (by simp; omega) hne, hp.blk id hi]
  · rcases hid id g n c h with h | h
    · exact .inl (by simp at h; omega)
    · exact .inr h
end
end Go.Proofs.Ytiiapkhdjchhjaa.Ab
