/- Polygons from raw numbers: the stream of numbers, gantmake.Poly. -/
import Derived.Test.YthclikeipdplpaaDoorYc
namespace Go.Proofs.YthclikeipdplpaaDoor.Ab
open Go.RowKit
set_option linter.unusedVariables false
set_option linter.unusedSimpArgs false
set_option maxRecDepth 100000

/-- The heap at a call, with old blocks written. -/
structure Mod (A A1 : Hp) : Prop where
  next : A1.next = A.next
  wf : ∀ i, A.next ≤ i → A1.blk i = none
  refs : ∀ id, id < A.next → ∀ cs g e, A1.blk id = some (.row cs g e) → A.blk id = some (.row cs g e) ∨ ∀ v ∈ cs, RB A.next v

section
variable {G : Gl} {fl : Nat} {A : Hp}

theorem Mod.refl (hA : Hok fl A) : Mod A A := ⟨rfl, hA.wf, fun _ _ _ _ _ h => .inl h⟩
theorem Mod.put {A1 : Hp} {id g e : Nat} {cs : List Value} (h : Mod A A1) (hid : id < A.next) (hc : ∀ v ∈ cs, RB A.next v) : Mod A (A1.put id (.row cs g e)) := by
  refine ⟨h.next, fun i hi => ?_, fun i hi cs' g' e' hb => ?_⟩
  · rw [Hp.put_blk, if_neg (by omega)]; exact h.wf i hi
  · rw [Hp.put_blk] at hb
    split at hb
    · cases hb; exact .inr hc
    · exact h.refs i hi cs' g' e' hb
theorem Ended.mod {A1 B : Hp} {r : Value} (h : Mod A A1) (hb : ∀ i, i < A.next → B.blk i = A1.blk i) (hr : RB A.next r) : Ended A r B r A1 :=
  ⟨fun _ => none, ⟨by rw [h.next]; exact Nat.le_refl _, fun id hi => (hb id hi).symm, fun id hi cs g e hbk => h.refs id hi cs g e (by rw [← hb id hi]; exact hbk), fun i hi => h.wf i (by rw [h.next] at hi; exact hi), fun k h1 h2 => by rw [h.next] at h2; omega, fun k p h => (by cases h), fun k k' id sh sh' h => (by cases h)⟩, .same hr⟩
theorem Ended.modOne {A1 B : Hp} {id g sz n c : Nat} {cells : List Value} (h : Mod A A1) (x : ∀ i, i < A.next → B.blk i = A1.blk i) (hid : A.next ≤ id) (hb : B.blk id = some (.row cells g sz)) (hnc : n ≤ c) (hr : ∀ u ∈ cells, RB A.next u) :
    Ended A (.slice (some ⟨id, 0, some g⟩) n c) B (.slice (some ⟨A.next, 0, some 0⟩) n n) (A1.push (.row cells 0 sz)) := by
  refine ⟨fun k => if k = A.next then some (id, 0) else none, ⟨by simp [h.next], fun i hi => ?_, fun i hi cs g' e hbk => ?_, fun i hi => ?_, fun k h1 h2 => ?_, fun k p h => ?_, fun k k' i sh sh' h1 h2 => ?_⟩, rr_one hb hnc⟩
  · rw [Hp.push_blk, h.next, if_neg (by omega)]; exact (x i hi).symm
  · exact h.refs i hi cs g' e (by rw [← x i hi]; exact hbk)
  · rw [Hp.push_next, h.next] at hi
    rw [Hp.push_blk, h.next, if_neg (by omega)]; exact h.wf i (by omega)
  · rw [Hp.push_next, h.next] at h2
    obtain rfl : k = A.next := by omega
    refine ⟨id, 0, cells, g, sz, cells, by simp, hid, hb, by simp [Hp.push_blk, h.next], by simp, fun j v hj => ⟨v, by simpa using hj, .same (hr v (List.mem_of_getElem? hj))⟩⟩
  · split at h
    · rename_i h0 hk; subst hk; simp [h0.next]
    · cases h
  · split at h1
    · split at h2
      · omega
      · cases h2
    · cases h1
theorem put_self {id : Nat} {b : Blk} (h : A.blk id = some b) : A.put id b = A := by
  cases A with
  | mk n f =>
    simp only [Hp.put, Hp.mk.injEq, true_and]
    funext i
    split
    · rename_i e; subst e; exact h.symm
    · rfl
theorem put_put {id : Nat} {b c : Blk} : (A.put id b).put id c = A.put id c := by
  simp only [Hp.put, Hp.mk.injEq, true_and]
  funext i
  split <;> rfl

/-! streams -/
def iC (x : Int) : List Value := [.int .i64 x]
/-- Without the first number. -/
def stl : Value → Value
  | .slice (some a) n c => if n = 0 then .slice (some a) n c else .slice (some (aadd a 1)) (n - 1) (c - 1)
  | v => v
def nxt (xs : List Int) (n : Int) : Int := match xs with | [] => 0 | x :: _ => below x n
def In64 (xs : List Int) : Prop := ∀ x ∈ xs, -9223372036854775808 ≤ x ∧ x ≤ 9223372036854775807
theorem In64.tail {xs : List Int} (h : In64 xs) : In64 xs.tail := fun x hx => h x (List.mem_of_mem_tail hx)
theorem Sl.stl {v : Value} {xs : List Int} (h : Sl A 1 v (xs.map iC)) : Sl A 1 (stl v) (xs.tail.map iC) := by
  obtain ⟨hl, h⟩ := h
  refine ⟨fun c hc => ?_, ?_⟩
  · obtain ⟨x, _, rfl⟩ := List.mem_map.1 hc; rfl
  rcases h with ⟨rfl, h2⟩ | ⟨a, g, rfl, h2, h3, h4, h5⟩ | ⟨a, n, c, g, ds, rfl, hn, hg, hb, hr⟩
  · have : xs = [] := by simpa using h2
    subst this
    exact .inl ⟨rfl, rfl⟩
  · have : xs = [] := by simpa using h2
    subst this
    exact .inr (.inl ⟨a, g, rfl, rfl, h3, h4, h5⟩)
  · cases xs with
    | nil =>
      have : n = 0 := by simpa using hn.symm
      subst this
      exact .inr (.inr ⟨a, 0, c, g, ds, rfl, rfl, hg, hb, fun j x hj => by simp at hj⟩)
    | cons x xs =>
      have hn' : n = xs.length + 1 := by simpa using hn.symm
      subst hn'
      refine .inr (.inr ⟨aadd a 1, xs.length, c - 1, g, ds, by simp [Ab.stl], by simp, hg, hb, fun j y hj => ?_⟩)
      have := hr (j + 1) y (by simpa [iC] using hj)
      simp only [aadd]
      rw [show a.off + 1 + j = a.off + (j + 1) by omega]; exact this
theorem RB.slice {v : Value} {css : List (List Value)} {sz : Nat} (hA : Hok fl A) (h : Sl A sz v css) : RB A.next v := h.rb hA

theorem nxt_range {xs : List Int} {n : Int} (h : 1 ≤ n) : 0 ≤ nxt xs n ∧ nxt xs n < n := by
  cases xs with
  | nil => exact ⟨Int.le_refl _, by simp only [nxt]; omega⟩
  | cons x xs => exact below_range (by omega)

set_option maxHeartbeats 2000000 in
theorem snext {xs : List Int} {sv : Value} {id : Nat} {n : Int} (h1 : 1 ≤ n) (hn : n ≤ 1000) (hx : In64 xs) (hs : Sl A 1 sv (xs.map iC)) (hb : A.blk id = some (.row [sv] 0 1)) (hid : fl ≤ id) (hl : xs.length ≤ 9223372036854775807) :
    Sound Tryd.prog G 70 [.pointer (some ⟨id, 0, some 0⟩), .int .i64 n] fl A (.int .i64 (nxt xs n)) (A.put id (.row [stl sv] 0 1)) := by
  have n1 : (n < 1) = False := eq_false (by omega)
  obtain ⟨o, c, rfl⟩ := hs.len
  cases xs with
  | nil =>
    simp only [List.map_nil, List.length_nil] at hs hb ⊢
    have e : A.put id (.row [stl (.slice o 0 c)] 0 1) = A := put_self (by rw [hb]; cases o <;> rfl)
    rw [e]
    refine Sound.of mixed Tryd.func70 Tryd.ntmps70 Tryd.results70 (by kernel_rfl) rfl (by kernel_rfl) (by simp) fun hA => ?_
    have g0 : A.get G ⟨id, 0, some 0⟩ = some (.slice o 0 c) := by simp [Hp.get, hb]
    have c0 : (((0 : Nat) : Int) = 0) = True := eq_true rfl
    simp only [↓R1, R2, R3, R4, TY, reduceIte, Nat.reduceEqDiff, Nat.reduceAdd, Nat.reduceMul, Nat.reduceLT, Nat.reduceLeDiff, reduceCtorEq, decide_true, decide_false, Int.reduceLE, Int.reduceLT, Int.reduceToNat, Int.reduceAdd, Int.reduceSub, Int.reduceMul, Int.reduceEq, g0, n1, c0]
    exact Ended.back hA (Xt.refl _) rfl (RB.int _ _)
  | cons x xs =>
    obtain ⟨a, rfl, hg⟩ := hs.at (G := G) (i := 0) (by simp)
    have g1 : A.get G (aadd a 0) = some (.int .i64 x) := hg 0 _ rfl
    have hes2 : eszOK A a.block 1 := hs.esz
    have hsl := hs.stl
    simp only [List.map_cons, List.length_cons, List.length_map] at hs hb hsl ⊢
    have es : stl (.slice (some a) (xs.length + 1) c) = .slice (some (aadd a 1)) (xs.length + 1 - 1) (c - 1) := by simp [Ab.stl]
    rw [es] at hsl ⊢
    refine Sound.of mixed Tryd.func70 Tryd.ntmps70 Tryd.results70 (by kernel_rfl) rfl (by kernel_rfl) (by simp) fun hA => ?_
    have hlt := hA.lt hb
    have g0 : A.get G ⟨id, 0, some 0⟩ = some (.slice (some a) (xs.length + 1) c) := by simp [Hp.get, hb]
    have c1 : (((xs.length + 1 : Nat) : Int) = 0) = False := eq_false (by omega)
    have c2 : (1 : Nat) ≤ xs.length + 1 := by omega
    have c3 : (0 : Int) < ((xs.length + 1 : Nat) : Int) := by omega
    have bl := fun fl A => below_ok (G := G) (fl := fl) (A := A) (x := x) (n := n) (by omega) hn (hx x (by simp)).1 (hx x (by simp)).2
    have g2 : A.get G a = some (.int .i64 x) := g1
    simp only [↓R1, R2, R3, R4, TY, reduceIte, Nat.reduceEqDiff, Nat.reduceAdd, Nat.reduceMul, Nat.reduceLT, Nat.reduceLeDiff, reduceCtorEq, decide_true, decide_false, Int.reduceLE, Int.reduceLT, Int.reduceToNat, Int.reduceAdd, Int.reduceSub, Int.reduceMul, Int.reduceEq, g0, n1, c1, c2, c3, g1, g2, hes2, hb, hid]
    refine call_of (bl _ _) ?_
    simp only [↓R1, R2, R3, R4, TY, reduceIte, Nat.reduceEqDiff, Nat.reduceAdd, Nat.reduceMul, Nat.reduceLT, Nat.reduceLeDiff, reduceCtorEq, decide_true, decide_false, Int.reduceLE, Int.reduceLT, Int.reduceToNat, Int.reduceAdd, Int.reduceSub, Int.reduceMul, Int.reduceEq]
    refine Ended.mod (Mod.put (Mod.refl hA) hlt fun v hv => ?_) (fun i hi => ?_) (RB.int _ _)
    · simp only [List.mem_cons, List.not_mem_nil, or_false] at hv
      subst hv
      exact hsl.rb hA
    · rfl

/-! polygons -/
def q4 (n : Int) : Rat := mkRat n 4
def qat (x y : Int) : V2 := (q4 x, q4 y)
def mp (w h s t : Int) : List V2 :=
  if s = 0 then [qat (-w) (-h), qat w (-h), qat w h, qat (-w) h] else if s = 1 then [qat (-w) (-h), qat w (-h), qat t h]
  else if s = 2 then [qat (-w - 1) (-h - 1), qat w (-h - 1), qat (w + 1) (-h), qat (w + 1) h, qat (-w - 1) h] else [qat (-w) 0, qat 0 (-h), qat w 0, qat 0 h]
def mpoly (xs : List Int) : List V2 := mp (1 + nxt xs 6) (1 + nxt xs.tail 6) (nxt xs.tail.tail 4) (nxt xs.tail.tail.tail (2 * (1 + nxt xs 6) + 1) - (1 + nxt xs 6))

theorem mat_ok {x y : Int} (hx : -1000 ≤ x) (hx' : x ≤ 1000) (hy : -1000 ≤ y) (hy' : y ≤ 1000) : Sound Tryd.prog G 87 [.int .i64 x, .int .i64 y] fl A (prV (q4 x) (q4 y)) A := by
  refine Sound.of mixed Tryd.func87 Tryd.ntmps87 Tryd.results87 (by kernel_rfl) rfl (by kernel_rfl) (by simp) fun hA => ?_
  have hfl := hA.floor
  have o1 := fun fl A => mof_ok (G := G) (fl := fl) (A := A) (n := x) (d := 4) (by decide) (by decide) (by omega) (by omega)
  have o2 := fun fl A => mof_ok (G := G) (fl := fl) (A := A) (n := y) (d := 4) (by decide) (by decide) (by omega) (by omega)
  have hrb := prV_rb A.next (q4 x) (q4 y)
  have e1 : mkRat x 4 = q4 x := rfl
  have e2 : mkRat y 4 = q4 y := rfl
  rw [e1] at o1
  rw [e2] at o2
  generalize q4 x = p at *
  generalize q4 y = q at *
  simp only [prV_def] at hrb ⊢
  simp only [ratV_def] at o1 o2
  simp only [↓R1, R2, R3, R4, TY, reduceIte, Nat.reduceEqDiff, Nat.reduceAdd, Nat.reduceMul, Nat.reduceLT, Nat.reduceLeDiff, reduceCtorEq, decide_true, decide_false, Int.reduceLE, Int.reduceLT, Int.reduceToNat, Int.reduceAdd, Int.reduceSub, Int.reduceMul, Int.reduceEq, hfl, NE, NE9, Nat.add_assoc]
  refine call_of (o1 _ _) ?_
  simp only [↓R1, R2, R3, R4, TY, reduceIte, Nat.reduceEqDiff, Nat.reduceAdd, Nat.reduceMul, Nat.reduceLT, Nat.reduceLeDiff, reduceCtorEq, decide_true, decide_false, Int.reduceLE, Int.reduceLT, Int.reduceToNat, Int.reduceAdd, Int.reduceSub, Int.reduceMul, Int.reduceEq, hfl, NE, NE9, Nat.add_assoc]
  refine call_of (o2 _ _) ?_
  simp only [↓R1, R2, R3, R4, TY, reduceIte, Nat.reduceEqDiff, Nat.reduceAdd, Nat.reduceMul, Nat.reduceLT, Nat.reduceLeDiff, reduceCtorEq, decide_true, decide_false, Int.reduceLE, Int.reduceLT, Int.reduceToNat, Int.reduceAdd, Int.reduceSub, Int.reduceMul, Int.reduceEq, hfl, NE, NE9, Nat.add_assoc]
  refine Ended.back hA ?_ rfl hrb
  simp (maxDischargeDepth := 20) only [xt_push, xt_put, xt_refl, Nat.le_refl, Nat.le_add_right, Nat.add_assoc, Nat.reduceAdd]

theorem stl_blk {sv : Value} {id : Nat} (h : ∀ a n c, sv = .slice (some a) n c → a.block ≠ id) : ∀ a n c, stl sv = .slice (some a) n c → a.block ≠ id := by
  intro a n c e
  unfold Ab.stl at e
  split at e
  · rename_i a' n' c'
    split at e
    · cases e; exact h _ _ _ rfl
    · cases e; exact h a' n' c' rfl
  · rename_i hno
    subst e
    exact absurd rfl (hno a n c)
theorem Sl.putne {sv : Value} {id : Nat} {b : Blk} {css : List (List Value)} (hs : Sl A 1 sv css) (h : ∀ a n c, sv = .slice (some a) n c → a.block ≠ id) : Sl (A.put id b) 1 sv css :=
  hs.keep (Nat.le_refl _) fun a n c e => by rw [Hp.put_blk, if_neg (h a n c e)]
theorem snext2 {xs : List Int} {sv : Value} {id : Nat} {n : Int} (h1 : 1 ≤ n) (hn : n ≤ 1000) (hx : In64 xs) (hs : Sl A 1 sv (xs.map iC)) (hid : fl ≤ id) (hl : xs.length ≤ 9223372036854775807) (hne : ∀ a n c, sv = .slice (some a) n c → a.block ≠ id) :
    Sound Tryd.prog G 70 [.pointer (some ⟨id, 0, some 0⟩), .int .i64 n] fl (A.put id (.row [sv] 0 1)) (.int .i64 (nxt xs n)) (A.put id (.row [stl sv] 0 1)) := by
  have := snext (G := G) (fl := fl) (A := A.put id (.row [sv] 0 1)) h1 hn hx (hs.putne hne) (by rw [Hp.put_blk, if_pos rfl]) hid hl
  rwa [put_put] at this

set_option maxHeartbeats 8000000 in
theorem mpoly_0 {xs : List Int} {sv : Value} {id : Nat} (hk : nxt xs.tail.tail 4 = 0) (hx : In64 xs) (hs : Sl A 1 sv (xs.map iC)) (hb : A.blk id = some (.row [sv] 0 1)) (hid : fl ≤ id) (hl : xs.length ≤ 9223372036854775807) (hne : ∀ a n c, sv = .slice (some a) n c → a.block ≠ id) :
    Sound Tryd.prog G 46 [.pointer (some ⟨id, 0, some 0⟩)] fl A (.slice (some ⟨A.next, 0, some 0⟩) (mpoly xs).length (mpoly xs).length) ((A.put id (.row [stl (stl (stl sv))] 0 1)).push (.row ((mpoly xs).map vC).flatten 0 6)) := by
  have hw := nxt_range (xs := xs) (n := 6) (by decide)
  have hh := nxt_range (xs := xs.tail) (n := 6) (by decide)
  have ht := nxt_range (xs := xs.tail.tail.tail) (n := 2 * (1 + nxt xs 6) + 1) (by omega)
  have n1 := snext (G := G) (fl := fl) (A := A) (n := 6) (by decide) (by decide) hx hs hb hid hl
  have n2 := snext2 (G := G) (fl := fl) (A := A) (n := 6) (by decide) (by decide) hx.tail hs.stl hid (by have := xs.length_tail; omega) (stl_blk hne)
  have n3 := snext2 (G := G) (fl := fl) (A := A) (n := 4) (by decide) (by decide) hx.tail.tail hs.stl.stl hid (by have := xs.length_tail; have := xs.tail.length_tail; omega) (stl_blk (stl_blk hne))
  have n4 := snext2 (G := G) (fl := fl) (A := A) (n := 2 * (1 + nxt xs 6) + 1) (by omega) (by omega) hx.tail.tail.tail hs.stl.stl.stl hid (by have := xs.length_tail; have := xs.tail.length_tail; have := xs.tail.tail.length_tail; omega) (stl_blk (stl_blk (stl_blk hne)))
  have hrb : ∀ hA : Hok fl A, RB A.next (stl (stl (stl sv))) := fun hA => (hs.stl.stl.stl).rb hA
  unfold mpoly
  rw [hk] at n3 ⊢
  have w1 : IntKind.i64.wrap (1 + nxt xs 6) = 1 + nxt xs 6 := wrapI (by omega)
  have w2 : IntKind.i64.wrap (1 + nxt xs.tail 6) = 1 + nxt xs.tail 6 := wrapI (by omega)
  generalize nxt xs.tail.tail.tail (2 * (1 + nxt xs 6) + 1) = t at *
  generalize nxt xs 6 = w0 at *
  generalize nxt xs.tail 6 = h0 at *
  have p1 := fun fl A => mat_ok (G := G) (fl := fl) (A := A) (x := -(1 + w0)) (y := -(1 + h0)) (by omega) (by omega) (by omega) (by omega)
  have p2 := fun fl A => mat_ok (G := G) (fl := fl) (A := A) (x := (1 + w0)) (y := -(1 + h0)) (by omega) (by omega) (by omega) (by omega)
  have p3 := fun fl A => mat_ok (G := G) (fl := fl) (A := A) (x := (1 + w0)) (y := (1 + h0)) (by omega) (by omega) (by omega) (by omega)
  have p4 := fun fl A => mat_ok (G := G) (fl := fl) (A := A) (x := -(1 + w0)) (y := (1 + h0)) (by omega) (by omega) (by omega) (by omega)
  have v1 : IntKind.i64.wrap (0 - (1 + w0)) = -(1 + w0) := by rw [wrapI (by omega)]; omega
  have v2 : IntKind.i64.wrap (0 - (1 + h0)) = -(1 + h0) := by rw [wrapI (by omega)]; omega
  have v3 : IntKind.i64.wrap (-(1 + w0) - 1) = -(1 + w0) - 1 := wrapI (by omega)
  have v4 : IntKind.i64.wrap (-(1 + h0) - 1) = -(1 + h0) - 1 := wrapI (by omega)
  have v5 : IntKind.i64.wrap (1 + w0 + 1) = 1 + w0 + 1 := wrapI (by omega)
  have v6 : IntKind.i64.wrap (2 * (1 + w0)) = 2 * (1 + w0) := wrapI (by omega)
  have v7 : IntKind.i64.wrap (2 * (1 + w0) + 1) = 2 * (1 + w0) + 1 := wrapI (by omega)
  have v8 : IntKind.i64.wrap (t - (1 + w0)) = t - (1 + w0) := wrapI (by omega)
  have zz : zl [Value.bool false, .string { data := #[] }, .string { data := #[] }, .bool false, .string { data := #[] }, .string { data := #[] }] 24 = [Value.bool false, .string { data := #[] }, .string { data := #[] }, .bool false, .string { data := #[] }, .string { data := #[] }, Value.bool false, .string { data := #[] }, .string { data := #[] }, .bool false, .string { data := #[] }, .string { data := #[] }, Value.bool false, .string { data := #[] }, .string { data := #[] }, .bool false, .string { data := #[] }, .string { data := #[] }, Value.bool false, .string { data := #[] }, .string { data := #[] }, .bool false, .string { data := #[] }, .string { data := #[] }] := rfl
  unfold mp
  simp only [reduceIte, Int.reduceEq, qat]
  generalize q4 = Q at *
  simp only [prV_def] at p1 p2 p3 p4
  refine Sound.of mixed Tryd.func46 Tryd.ntmps46 Tryd.results46 (by kernel_rfl) rfl (by kernel_rfl) (by simp) fun hA => ?_
  have hlt := hA.lt hb
  simp only [↓R1, R2, R3, R4, TY, reduceIte, Nat.reduceEqDiff, Nat.reduceAdd, Nat.reduceMul, Nat.reduceLT, Nat.reduceLeDiff, reduceCtorEq, decide_true, decide_false, Int.reduceLE, Int.reduceLT, Int.reduceToNat, Int.reduceAdd, Int.reduceSub, Int.reduceMul, Int.reduceEq, w1, w2, v1, v2, v3, v4, v5, v6, v7, v8, zz]
  refine call_of (n1) ?_
  simp only [↓R1, R2, R3, R4, TY, reduceIte, Nat.reduceEqDiff, Nat.reduceAdd, Nat.reduceMul, Nat.reduceLT, Nat.reduceLeDiff, reduceCtorEq, decide_true, decide_false, Int.reduceLE, Int.reduceLT, Int.reduceToNat, Int.reduceAdd, Int.reduceSub, Int.reduceMul, Int.reduceEq, w1, w2, v1, v2, v3, v4, v5, v6, v7, v8, zz]
  refine call_of (n2) ?_
  simp only [↓R1, R2, R3, R4, TY, reduceIte, Nat.reduceEqDiff, Nat.reduceAdd, Nat.reduceMul, Nat.reduceLT, Nat.reduceLeDiff, reduceCtorEq, decide_true, decide_false, Int.reduceLE, Int.reduceLT, Int.reduceToNat, Int.reduceAdd, Int.reduceSub, Int.reduceMul, Int.reduceEq, w1, w2, v1, v2, v3, v4, v5, v6, v7, v8, zz]
  refine call_of (n3) ?_
  simp only [↓R1, R2, R3, R4, TY, reduceIte, Nat.reduceEqDiff, Nat.reduceAdd, Nat.reduceMul, Nat.reduceLT, Nat.reduceLeDiff, reduceCtorEq, decide_true, decide_false, Int.reduceLE, Int.reduceLT, Int.reduceToNat, Int.reduceAdd, Int.reduceSub, Int.reduceMul, Int.reduceEq, w1, w2, v1, v2, v3, v4, v5, v6, v7, v8, zz]
  refine call_of (p1 _ _) ?_
  simp only [↓R1, R2, R3, R4, TY, reduceIte, Nat.reduceEqDiff, Nat.reduceAdd, Nat.reduceMul, Nat.reduceLT, Nat.reduceLeDiff, reduceCtorEq, decide_true, decide_false, Int.reduceLE, Int.reduceLT, Int.reduceToNat, Int.reduceAdd, Int.reduceSub, Int.reduceMul, Int.reduceEq, w1, w2, v1, v2, v3, v4, v5, v6, v7, v8, zz]
  refine call_of (p2 _ _) ?_
  simp only [↓R1, R2, R3, R4, TY, reduceIte, Nat.reduceEqDiff, Nat.reduceAdd, Nat.reduceMul, Nat.reduceLT, Nat.reduceLeDiff, reduceCtorEq, decide_true, decide_false, Int.reduceLE, Int.reduceLT, Int.reduceToNat, Int.reduceAdd, Int.reduceSub, Int.reduceMul, Int.reduceEq, w1, w2, v1, v2, v3, v4, v5, v6, v7, v8, zz]
  refine call_of (p3 _ _) ?_
  simp only [↓R1, R2, R3, R4, TY, reduceIte, Nat.reduceEqDiff, Nat.reduceAdd, Nat.reduceMul, Nat.reduceLT, Nat.reduceLeDiff, reduceCtorEq, decide_true, decide_false, Int.reduceLE, Int.reduceLT, Int.reduceToNat, Int.reduceAdd, Int.reduceSub, Int.reduceMul, Int.reduceEq, w1, w2, v1, v2, v3, v4, v5, v6, v7, v8, zz]
  refine call_of (p4 _ _) ?_
  simp only [↓R1, R2, R3, R4, TY, reduceIte, Nat.reduceEqDiff, Nat.reduceAdd, Nat.reduceMul, Nat.reduceLT, Nat.reduceLeDiff, reduceCtorEq, decide_true, decide_false, Int.reduceLE, Int.reduceLT, Int.reduceToNat, Int.reduceAdd, Int.reduceSub, Int.reduceMul, Int.reduceEq, w1, w2, v1, v2, v3, v4, v5, v6, v7, v8, zz]
  refine Ended.modOne (Mod.put (Mod.refl hA) hlt fun v hv => ?_) (fun i hi => ?_) (Nat.le_refl _) ?_ (Nat.le_refl _) fun u hu => ?_
  · simp only [List.mem_cons, List.not_mem_nil, or_false] at hv
    subst hv
    exact hrb hA
  · rw [Hp.push_blk, if_neg (by simp only [Hp.put_next]; omega)]
  · exact push_at rfl
  · simp only [List.map_cons, List.map_nil, List.flatten_cons, List.flatten_nil, vC_def, List.append_nil, List.cons_append, List.nil_append, List.mem_cons, List.not_mem_nil, or_false] at hu
    rcases hu with rfl | rfl | rfl | rfl | rfl | rfl | rfl | rfl | rfl | rfl | rfl | rfl | rfl | rfl | rfl | rfl | rfl | rfl | rfl | rfl | rfl | rfl | rfl | rfl <;> exact RB.zc rfl
set_option maxHeartbeats 8000000 in
theorem mpoly_1 {xs : List Int} {sv : Value} {id : Nat} (hk : nxt xs.tail.tail 4 = 1) (hx : In64 xs) (hs : Sl A 1 sv (xs.map iC)) (hb : A.blk id = some (.row [sv] 0 1)) (hid : fl ≤ id) (hl : xs.length ≤ 9223372036854775807) (hne : ∀ a n c, sv = .slice (some a) n c → a.block ≠ id) :
    Sound Tryd.prog G 46 [.pointer (some ⟨id, 0, some 0⟩)] fl A (.slice (some ⟨A.next, 0, some 0⟩) (mpoly xs).length (mpoly xs).length) ((A.put id (.row [stl (stl (stl (stl sv)))] 0 1)).push (.row ((mpoly xs).map vC).flatten 0 6)) := by
  have hw := nxt_range (xs := xs) (n := 6) (by decide)
  have hh := nxt_range (xs := xs.tail) (n := 6) (by decide)
  have ht := nxt_range (xs := xs.tail.tail.tail) (n := 2 * (1 + nxt xs 6) + 1) (by omega)
  have n1 := snext (G := G) (fl := fl) (A := A) (n := 6) (by decide) (by decide) hx hs hb hid hl
  have n2 := snext2 (G := G) (fl := fl) (A := A) (n := 6) (by decide) (by decide) hx.tail hs.stl hid (by have := xs.length_tail; omega) (stl_blk hne)
  have n3 := snext2 (G := G) (fl := fl) (A := A) (n := 4) (by decide) (by decide) hx.tail.tail hs.stl.stl hid (by have := xs.length_tail; have := xs.tail.length_tail; omega) (stl_blk (stl_blk hne))
  have n4 := snext2 (G := G) (fl := fl) (A := A) (n := 2 * (1 + nxt xs 6) + 1) (by omega) (by omega) hx.tail.tail.tail hs.stl.stl.stl hid (by have := xs.length_tail; have := xs.tail.length_tail; have := xs.tail.tail.length_tail; omega) (stl_blk (stl_blk (stl_blk hne)))
  have hrb : ∀ hA : Hok fl A, RB A.next (stl (stl (stl (stl sv)))) := fun hA => (hs.stl.stl.stl.stl).rb hA
  unfold mpoly
  rw [hk] at n3 ⊢
  have w1 : IntKind.i64.wrap (1 + nxt xs 6) = 1 + nxt xs 6 := wrapI (by omega)
  have w2 : IntKind.i64.wrap (1 + nxt xs.tail 6) = 1 + nxt xs.tail 6 := wrapI (by omega)
  generalize nxt xs.tail.tail.tail (2 * (1 + nxt xs 6) + 1) = t at *
  generalize nxt xs 6 = w0 at *
  generalize nxt xs.tail 6 = h0 at *
  have p1 := fun fl A => mat_ok (G := G) (fl := fl) (A := A) (x := -(1 + w0)) (y := -(1 + h0)) (by omega) (by omega) (by omega) (by omega)
  have p2 := fun fl A => mat_ok (G := G) (fl := fl) (A := A) (x := (1 + w0)) (y := -(1 + h0)) (by omega) (by omega) (by omega) (by omega)
  have p3 := fun fl A => mat_ok (G := G) (fl := fl) (A := A) (x := t - (1 + w0)) (y := (1 + h0)) (by omega) (by omega) (by omega) (by omega)
  have v1 : IntKind.i64.wrap (0 - (1 + w0)) = -(1 + w0) := by rw [wrapI (by omega)]; omega
  have v2 : IntKind.i64.wrap (0 - (1 + h0)) = -(1 + h0) := by rw [wrapI (by omega)]; omega
  have v3 : IntKind.i64.wrap (-(1 + w0) - 1) = -(1 + w0) - 1 := wrapI (by omega)
  have v4 : IntKind.i64.wrap (-(1 + h0) - 1) = -(1 + h0) - 1 := wrapI (by omega)
  have v5 : IntKind.i64.wrap (1 + w0 + 1) = 1 + w0 + 1 := wrapI (by omega)
  have v6 : IntKind.i64.wrap (2 * (1 + w0)) = 2 * (1 + w0) := wrapI (by omega)
  have v7 : IntKind.i64.wrap (2 * (1 + w0) + 1) = 2 * (1 + w0) + 1 := wrapI (by omega)
  have v8 : IntKind.i64.wrap (t - (1 + w0)) = t - (1 + w0) := wrapI (by omega)
  have zz : zl [Value.bool false, .string { data := #[] }, .string { data := #[] }, .bool false, .string { data := #[] }, .string { data := #[] }] 18 = [Value.bool false, .string { data := #[] }, .string { data := #[] }, .bool false, .string { data := #[] }, .string { data := #[] }, Value.bool false, .string { data := #[] }, .string { data := #[] }, .bool false, .string { data := #[] }, .string { data := #[] }, Value.bool false, .string { data := #[] }, .string { data := #[] }, .bool false, .string { data := #[] }, .string { data := #[] }] := rfl
  unfold mp
  simp only [reduceIte, Int.reduceEq, qat]
  generalize q4 = Q at *
  simp only [prV_def] at p1 p2 p3
  refine Sound.of mixed Tryd.func46 Tryd.ntmps46 Tryd.results46 (by kernel_rfl) rfl (by kernel_rfl) (by simp) fun hA => ?_
  have hlt := hA.lt hb
  simp only [↓R1, R2, R3, R4, TY, reduceIte, Nat.reduceEqDiff, Nat.reduceAdd, Nat.reduceMul, Nat.reduceLT, Nat.reduceLeDiff, reduceCtorEq, decide_true, decide_false, Int.reduceLE, Int.reduceLT, Int.reduceToNat, Int.reduceAdd, Int.reduceSub, Int.reduceMul, Int.reduceEq, w1, w2, v1, v2, v3, v4, v5, v6, v7, v8, zz]
  refine call_of (n1) ?_
  simp only [↓R1, R2, R3, R4, TY, reduceIte, Nat.reduceEqDiff, Nat.reduceAdd, Nat.reduceMul, Nat.reduceLT, Nat.reduceLeDiff, reduceCtorEq, decide_true, decide_false, Int.reduceLE, Int.reduceLT, Int.reduceToNat, Int.reduceAdd, Int.reduceSub, Int.reduceMul, Int.reduceEq, w1, w2, v1, v2, v3, v4, v5, v6, v7, v8, zz]
  refine call_of (n2) ?_
  simp only [↓R1, R2, R3, R4, TY, reduceIte, Nat.reduceEqDiff, Nat.reduceAdd, Nat.reduceMul, Nat.reduceLT, Nat.reduceLeDiff, reduceCtorEq, decide_true, decide_false, Int.reduceLE, Int.reduceLT, Int.reduceToNat, Int.reduceAdd, Int.reduceSub, Int.reduceMul, Int.reduceEq, w1, w2, v1, v2, v3, v4, v5, v6, v7, v8, zz]
  refine call_of (n3) ?_
  simp only [↓R1, R2, R3, R4, TY, reduceIte, Nat.reduceEqDiff, Nat.reduceAdd, Nat.reduceMul, Nat.reduceLT, Nat.reduceLeDiff, reduceCtorEq, decide_true, decide_false, Int.reduceLE, Int.reduceLT, Int.reduceToNat, Int.reduceAdd, Int.reduceSub, Int.reduceMul, Int.reduceEq, w1, w2, v1, v2, v3, v4, v5, v6, v7, v8, zz]
  refine call_of (p1 _ _) ?_
  simp only [↓R1, R2, R3, R4, TY, reduceIte, Nat.reduceEqDiff, Nat.reduceAdd, Nat.reduceMul, Nat.reduceLT, Nat.reduceLeDiff, reduceCtorEq, decide_true, decide_false, Int.reduceLE, Int.reduceLT, Int.reduceToNat, Int.reduceAdd, Int.reduceSub, Int.reduceMul, Int.reduceEq, w1, w2, v1, v2, v3, v4, v5, v6, v7, v8, zz]
  refine call_of (p2 _ _) ?_
  simp only [↓R1, R2, R3, R4, TY, reduceIte, Nat.reduceEqDiff, Nat.reduceAdd, Nat.reduceMul, Nat.reduceLT, Nat.reduceLeDiff, reduceCtorEq, decide_true, decide_false, Int.reduceLE, Int.reduceLT, Int.reduceToNat, Int.reduceAdd, Int.reduceSub, Int.reduceMul, Int.reduceEq, w1, w2, v1, v2, v3, v4, v5, v6, v7, v8, zz]
  refine call_of (n4) ?_
  simp only [↓R1, R2, R3, R4, TY, reduceIte, Nat.reduceEqDiff, Nat.reduceAdd, Nat.reduceMul, Nat.reduceLT, Nat.reduceLeDiff, reduceCtorEq, decide_true, decide_false, Int.reduceLE, Int.reduceLT, Int.reduceToNat, Int.reduceAdd, Int.reduceSub, Int.reduceMul, Int.reduceEq, w1, w2, v1, v2, v3, v4, v5, v6, v7, v8, zz]
  refine call_of (p3 _ _) ?_
  simp only [↓R1, R2, R3, R4, TY, reduceIte, Nat.reduceEqDiff, Nat.reduceAdd, Nat.reduceMul, Nat.reduceLT, Nat.reduceLeDiff, reduceCtorEq, decide_true, decide_false, Int.reduceLE, Int.reduceLT, Int.reduceToNat, Int.reduceAdd, Int.reduceSub, Int.reduceMul, Int.reduceEq, w1, w2, v1, v2, v3, v4, v5, v6, v7, v8, zz]
  refine Ended.modOne (Mod.put (Mod.refl hA) hlt fun v hv => ?_) (fun i hi => ?_) (Nat.le_refl _) ?_ (Nat.le_refl _) fun u hu => ?_
  · simp only [List.mem_cons, List.not_mem_nil, or_false] at hv
    subst hv
    exact hrb hA
  · rw [Hp.push_blk, if_neg (by simp only [Hp.put_next]; omega)]
  · exact push_at rfl
  · simp only [List.map_cons, List.map_nil, List.flatten_cons, List.flatten_nil, vC_def, List.append_nil, List.cons_append, List.nil_append, List.mem_cons, List.not_mem_nil, or_false] at hu
    rcases hu with rfl | rfl | rfl | rfl | rfl | rfl | rfl | rfl | rfl | rfl | rfl | rfl | rfl | rfl | rfl | rfl | rfl | rfl <;> exact RB.zc rfl
set_option maxHeartbeats 8000000 in
theorem mpoly_2 {xs : List Int} {sv : Value} {id : Nat} (hk : nxt xs.tail.tail 4 = 2) (hx : In64 xs) (hs : Sl A 1 sv (xs.map iC)) (hb : A.blk id = some (.row [sv] 0 1)) (hid : fl ≤ id) (hl : xs.length ≤ 9223372036854775807) (hne : ∀ a n c, sv = .slice (some a) n c → a.block ≠ id) :
    Sound Tryd.prog G 46 [.pointer (some ⟨id, 0, some 0⟩)] fl A (.slice (some ⟨A.next, 0, some 0⟩) (mpoly xs).length (mpoly xs).length) ((A.put id (.row [stl (stl (stl sv))] 0 1)).push (.row ((mpoly xs).map vC).flatten 0 6)) := by
  have hw := nxt_range (xs := xs) (n := 6) (by decide)
  have hh := nxt_range (xs := xs.tail) (n := 6) (by decide)
  have ht := nxt_range (xs := xs.tail.tail.tail) (n := 2 * (1 + nxt xs 6) + 1) (by omega)
  have n1 := snext (G := G) (fl := fl) (A := A) (n := 6) (by decide) (by decide) hx hs hb hid hl
  have n2 := snext2 (G := G) (fl := fl) (A := A) (n := 6) (by decide) (by decide) hx.tail hs.stl hid (by have := xs.length_tail; omega) (stl_blk hne)
  have n3 := snext2 (G := G) (fl := fl) (A := A) (n := 4) (by decide) (by decide) hx.tail.tail hs.stl.stl hid (by have := xs.length_tail; have := xs.tail.length_tail; omega) (stl_blk (stl_blk hne))
  have n4 := snext2 (G := G) (fl := fl) (A := A) (n := 2 * (1 + nxt xs 6) + 1) (by omega) (by omega) hx.tail.tail.tail hs.stl.stl.stl hid (by have := xs.length_tail; have := xs.tail.length_tail; have := xs.tail.tail.length_tail; omega) (stl_blk (stl_blk (stl_blk hne)))
  have hrb : ∀ hA : Hok fl A, RB A.next (stl (stl (stl sv))) := fun hA => (hs.stl.stl.stl).rb hA
  unfold mpoly
  rw [hk] at n3 ⊢
  have w1 : IntKind.i64.wrap (1 + nxt xs 6) = 1 + nxt xs 6 := wrapI (by omega)
  have w2 : IntKind.i64.wrap (1 + nxt xs.tail 6) = 1 + nxt xs.tail 6 := wrapI (by omega)
  generalize nxt xs.tail.tail.tail (2 * (1 + nxt xs 6) + 1) = t at *
  generalize nxt xs 6 = w0 at *
  generalize nxt xs.tail 6 = h0 at *
  have p1 := fun fl A => mat_ok (G := G) (fl := fl) (A := A) (x := -(1 + w0) - 1) (y := -(1 + h0) - 1) (by omega) (by omega) (by omega) (by omega)
  have p2 := fun fl A => mat_ok (G := G) (fl := fl) (A := A) (x := (1 + w0)) (y := -(1 + h0) - 1) (by omega) (by omega) (by omega) (by omega)
  have p3 := fun fl A => mat_ok (G := G) (fl := fl) (A := A) (x := (1 + w0) + 1) (y := -(1 + h0)) (by omega) (by omega) (by omega) (by omega)
  have p4 := fun fl A => mat_ok (G := G) (fl := fl) (A := A) (x := (1 + w0) + 1) (y := (1 + h0)) (by omega) (by omega) (by omega) (by omega)
  have p5 := fun fl A => mat_ok (G := G) (fl := fl) (A := A) (x := -(1 + w0) - 1) (y := (1 + h0)) (by omega) (by omega) (by omega) (by omega)
  have v1 : IntKind.i64.wrap (0 - (1 + w0)) = -(1 + w0) := by rw [wrapI (by omega)]; omega
  have v2 : IntKind.i64.wrap (0 - (1 + h0)) = -(1 + h0) := by rw [wrapI (by omega)]; omega
  have v3 : IntKind.i64.wrap (-(1 + w0) - 1) = -(1 + w0) - 1 := wrapI (by omega)
  have v4 : IntKind.i64.wrap (-(1 + h0) - 1) = -(1 + h0) - 1 := wrapI (by omega)
  have v5 : IntKind.i64.wrap (1 + w0 + 1) = 1 + w0 + 1 := wrapI (by omega)
  have v6 : IntKind.i64.wrap (2 * (1 + w0)) = 2 * (1 + w0) := wrapI (by omega)
  have v7 : IntKind.i64.wrap (2 * (1 + w0) + 1) = 2 * (1 + w0) + 1 := wrapI (by omega)
  have v8 : IntKind.i64.wrap (t - (1 + w0)) = t - (1 + w0) := wrapI (by omega)
  have zz : zl [Value.bool false, .string { data := #[] }, .string { data := #[] }, .bool false, .string { data := #[] }, .string { data := #[] }] 30 = [Value.bool false, .string { data := #[] }, .string { data := #[] }, .bool false, .string { data := #[] }, .string { data := #[] }, Value.bool false, .string { data := #[] }, .string { data := #[] }, .bool false, .string { data := #[] }, .string { data := #[] }, Value.bool false, .string { data := #[] }, .string { data := #[] }, .bool false, .string { data := #[] }, .string { data := #[] }, Value.bool false, .string { data := #[] }, .string { data := #[] }, .bool false, .string { data := #[] }, .string { data := #[] }, Value.bool false, .string { data := #[] }, .string { data := #[] }, .bool false, .string { data := #[] }, .string { data := #[] }] := rfl
  unfold mp
  simp only [reduceIte, Int.reduceEq, qat]
  generalize q4 = Q at *
  simp only [prV_def] at p1 p2 p3 p4 p5
  refine Sound.of mixed Tryd.func46 Tryd.ntmps46 Tryd.results46 (by kernel_rfl) rfl (by kernel_rfl) (by simp) fun hA => ?_
  have hlt := hA.lt hb
  simp only [↓R1, R2, R3, R4, TY, reduceIte, Nat.reduceEqDiff, Nat.reduceAdd, Nat.reduceMul, Nat.reduceLT, Nat.reduceLeDiff, reduceCtorEq, decide_true, decide_false, Int.reduceLE, Int.reduceLT, Int.reduceToNat, Int.reduceAdd, Int.reduceSub, Int.reduceMul, Int.reduceEq, w1, w2, v1, v2, v3, v4, v5, v6, v7, v8, zz]
  refine call_of (n1) ?_
  simp only [↓R1, R2, R3, R4, TY, reduceIte, Nat.reduceEqDiff, Nat.reduceAdd, Nat.reduceMul, Nat.reduceLT, Nat.reduceLeDiff, reduceCtorEq, decide_true, decide_false, Int.reduceLE, Int.reduceLT, Int.reduceToNat, Int.reduceAdd, Int.reduceSub, Int.reduceMul, Int.reduceEq, w1, w2, v1, v2, v3, v4, v5, v6, v7, v8, zz]
  refine call_of (n2) ?_
  simp only [↓R1, R2, R3, R4, TY, reduceIte, Nat.reduceEqDiff, Nat.reduceAdd, Nat.reduceMul, Nat.reduceLT, Nat.reduceLeDiff, reduceCtorEq, decide_true, decide_false, Int.reduceLE, Int.reduceLT, Int.reduceToNat, Int.reduceAdd, Int.reduceSub, Int.reduceMul, Int.reduceEq, w1, w2, v1, v2, v3, v4, v5, v6, v7, v8, zz]
  refine call_of (n3) ?_
  simp only [↓R1, R2, R3, R4, TY, reduceIte, Nat.reduceEqDiff, Nat.reduceAdd, Nat.reduceMul, Nat.reduceLT, Nat.reduceLeDiff, reduceCtorEq, decide_true, decide_false, Int.reduceLE, Int.reduceLT, Int.reduceToNat, Int.reduceAdd, Int.reduceSub, Int.reduceMul, Int.reduceEq, w1, w2, v1, v2, v3, v4, v5, v6, v7, v8, zz]
  refine call_of (p1 _ _) ?_
  simp only [↓R1, R2, R3, R4, TY, reduceIte, Nat.reduceEqDiff, Nat.reduceAdd, Nat.reduceMul, Nat.reduceLT, Nat.reduceLeDiff, reduceCtorEq, decide_true, decide_false, Int.reduceLE, Int.reduceLT, Int.reduceToNat, Int.reduceAdd, Int.reduceSub, Int.reduceMul, Int.reduceEq, w1, w2, v1, v2, v3, v4, v5, v6, v7, v8, zz]
  refine call_of (p2 _ _) ?_
  simp only [↓R1, R2, R3, R4, TY, reduceIte, Nat.reduceEqDiff, Nat.reduceAdd, Nat.reduceMul, Nat.reduceLT, Nat.reduceLeDiff, reduceCtorEq, decide_true, decide_false, Int.reduceLE, Int.reduceLT, Int.reduceToNat, Int.reduceAdd, Int.reduceSub, Int.reduceMul, Int.reduceEq, w1, w2, v1, v2, v3, v4, v5, v6, v7, v8, zz]
  refine call_of (p3 _ _) ?_
  simp only [↓R1, R2, R3, R4, TY, reduceIte, Nat.reduceEqDiff, Nat.reduceAdd, Nat.reduceMul, Nat.reduceLT, Nat.reduceLeDiff, reduceCtorEq, decide_true, decide_false, Int.reduceLE, Int.reduceLT, Int.reduceToNat, Int.reduceAdd, Int.reduceSub, Int.reduceMul, Int.reduceEq, w1, w2, v1, v2, v3, v4, v5, v6, v7, v8, zz]
  refine call_of (p4 _ _) ?_
  simp only [↓R1, R2, R3, R4, TY, reduceIte, Nat.reduceEqDiff, Nat.reduceAdd, Nat.reduceMul, Nat.reduceLT, Nat.reduceLeDiff, reduceCtorEq, decide_true, decide_false, Int.reduceLE, Int.reduceLT, Int.reduceToNat, Int.reduceAdd, Int.reduceSub, Int.reduceMul, Int.reduceEq, w1, w2, v1, v2, v3, v4, v5, v6, v7, v8, zz]
  refine call_of (p5 _ _) ?_
  simp only [↓R1, R2, R3, R4, TY, reduceIte, Nat.reduceEqDiff, Nat.reduceAdd, Nat.reduceMul, Nat.reduceLT, Nat.reduceLeDiff, reduceCtorEq, decide_true, decide_false, Int.reduceLE, Int.reduceLT, Int.reduceToNat, Int.reduceAdd, Int.reduceSub, Int.reduceMul, Int.reduceEq, w1, w2, v1, v2, v3, v4, v5, v6, v7, v8, zz]
  refine Ended.modOne (Mod.put (Mod.refl hA) hlt fun v hv => ?_) (fun i hi => ?_) (Nat.le_refl _) ?_ (Nat.le_refl _) fun u hu => ?_
  · simp only [List.mem_cons, List.not_mem_nil, or_false] at hv
    subst hv
    exact hrb hA
  · rw [Hp.push_blk, if_neg (by simp only [Hp.put_next]; omega)]
  · exact push_at rfl
  · simp only [List.map_cons, List.map_nil, List.flatten_cons, List.flatten_nil, vC_def, List.append_nil, List.cons_append, List.nil_append, List.mem_cons, List.not_mem_nil, or_false] at hu
    rcases hu with rfl | rfl | rfl | rfl | rfl | rfl | rfl | rfl | rfl | rfl | rfl | rfl | rfl | rfl | rfl | rfl | rfl | rfl | rfl | rfl | rfl | rfl | rfl | rfl | rfl | rfl | rfl | rfl | rfl | rfl <;> exact RB.zc rfl
set_option maxHeartbeats 8000000 in
theorem mpoly_3 {xs : List Int} {sv : Value} {id : Nat} (hk : nxt xs.tail.tail 4 = 3) (hx : In64 xs) (hs : Sl A 1 sv (xs.map iC)) (hb : A.blk id = some (.row [sv] 0 1)) (hid : fl ≤ id) (hl : xs.length ≤ 9223372036854775807) (hne : ∀ a n c, sv = .slice (some a) n c → a.block ≠ id) :
    Sound Tryd.prog G 46 [.pointer (some ⟨id, 0, some 0⟩)] fl A (.slice (some ⟨A.next, 0, some 0⟩) (mpoly xs).length (mpoly xs).length) ((A.put id (.row [stl (stl (stl sv))] 0 1)).push (.row ((mpoly xs).map vC).flatten 0 6)) := by
  have hw := nxt_range (xs := xs) (n := 6) (by decide)
  have hh := nxt_range (xs := xs.tail) (n := 6) (by decide)
  have ht := nxt_range (xs := xs.tail.tail.tail) (n := 2 * (1 + nxt xs 6) + 1) (by omega)
  have n1 := snext (G := G) (fl := fl) (A := A) (n := 6) (by decide) (by decide) hx hs hb hid hl
  have n2 := snext2 (G := G) (fl := fl) (A := A) (n := 6) (by decide) (by decide) hx.tail hs.stl hid (by have := xs.length_tail; omega) (stl_blk hne)
  have n3 := snext2 (G := G) (fl := fl) (A := A) (n := 4) (by decide) (by decide) hx.tail.tail hs.stl.stl hid (by have := xs.length_tail; have := xs.tail.length_tail; omega) (stl_blk (stl_blk hne))
  have n4 := snext2 (G := G) (fl := fl) (A := A) (n := 2 * (1 + nxt xs 6) + 1) (by omega) (by omega) hx.tail.tail.tail hs.stl.stl.stl hid (by have := xs.length_tail; have := xs.tail.length_tail; have := xs.tail.tail.length_tail; omega) (stl_blk (stl_blk (stl_blk hne)))
  have hrb : ∀ hA : Hok fl A, RB A.next (stl (stl (stl sv))) := fun hA => (hs.stl.stl.stl).rb hA
  unfold mpoly
  rw [hk] at n3 ⊢
  have w1 : IntKind.i64.wrap (1 + nxt xs 6) = 1 + nxt xs 6 := wrapI (by omega)
  have w2 : IntKind.i64.wrap (1 + nxt xs.tail 6) = 1 + nxt xs.tail 6 := wrapI (by omega)
  generalize nxt xs.tail.tail.tail (2 * (1 + nxt xs 6) + 1) = t at *
  generalize nxt xs 6 = w0 at *
  generalize nxt xs.tail 6 = h0 at *
  have p1 := fun fl A => mat_ok (G := G) (fl := fl) (A := A) (x := -(1 + w0)) (y := 0) (by omega) (by omega) (by omega) (by omega)
  have p2 := fun fl A => mat_ok (G := G) (fl := fl) (A := A) (x := 0) (y := -(1 + h0)) (by omega) (by omega) (by omega) (by omega)
  have p3 := fun fl A => mat_ok (G := G) (fl := fl) (A := A) (x := (1 + w0)) (y := 0) (by omega) (by omega) (by omega) (by omega)
  have p4 := fun fl A => mat_ok (G := G) (fl := fl) (A := A) (x := 0) (y := (1 + h0)) (by omega) (by omega) (by omega) (by omega)
  have v1 : IntKind.i64.wrap (0 - (1 + w0)) = -(1 + w0) := by rw [wrapI (by omega)]; omega
  have v2 : IntKind.i64.wrap (0 - (1 + h0)) = -(1 + h0) := by rw [wrapI (by omega)]; omega
  have v3 : IntKind.i64.wrap (-(1 + w0) - 1) = -(1 + w0) - 1 := wrapI (by omega)
  have v4 : IntKind.i64.wrap (-(1 + h0) - 1) = -(1 + h0) - 1 := wrapI (by omega)
  have v5 : IntKind.i64.wrap (1 + w0 + 1) = 1 + w0 + 1 := wrapI (by omega)
  have v6 : IntKind.i64.wrap (2 * (1 + w0)) = 2 * (1 + w0) := wrapI (by omega)
  have v7 : IntKind.i64.wrap (2 * (1 + w0) + 1) = 2 * (1 + w0) + 1 := wrapI (by omega)
  have v8 : IntKind.i64.wrap (t - (1 + w0)) = t - (1 + w0) := wrapI (by omega)
  have zz : zl [Value.bool false, .string { data := #[] }, .string { data := #[] }, .bool false, .string { data := #[] }, .string { data := #[] }] 24 = [Value.bool false, .string { data := #[] }, .string { data := #[] }, .bool false, .string { data := #[] }, .string { data := #[] }, Value.bool false, .string { data := #[] }, .string { data := #[] }, .bool false, .string { data := #[] }, .string { data := #[] }, Value.bool false, .string { data := #[] }, .string { data := #[] }, .bool false, .string { data := #[] }, .string { data := #[] }, Value.bool false, .string { data := #[] }, .string { data := #[] }, .bool false, .string { data := #[] }, .string { data := #[] }] := rfl
  unfold mp
  simp only [reduceIte, Int.reduceEq, qat]
  generalize q4 = Q at *
  simp only [prV_def] at p1 p2 p3 p4
  refine Sound.of mixed Tryd.func46 Tryd.ntmps46 Tryd.results46 (by kernel_rfl) rfl (by kernel_rfl) (by simp) fun hA => ?_
  have hlt := hA.lt hb
  simp only [↓R1, R2, R3, R4, TY, reduceIte, Nat.reduceEqDiff, Nat.reduceAdd, Nat.reduceMul, Nat.reduceLT, Nat.reduceLeDiff, reduceCtorEq, decide_true, decide_false, Int.reduceLE, Int.reduceLT, Int.reduceToNat, Int.reduceAdd, Int.reduceSub, Int.reduceMul, Int.reduceEq, w1, w2, v1, v2, v3, v4, v5, v6, v7, v8, zz]
  refine call_of (n1) ?_
  simp only [↓R1, R2, R3, R4, TY, reduceIte, Nat.reduceEqDiff, Nat.reduceAdd, Nat.reduceMul, Nat.reduceLT, Nat.reduceLeDiff, reduceCtorEq, decide_true, decide_false, Int.reduceLE, Int.reduceLT, Int.reduceToNat, Int.reduceAdd, Int.reduceSub, Int.reduceMul, Int.reduceEq, w1, w2, v1, v2, v3, v4, v5, v6, v7, v8, zz]
  refine call_of (n2) ?_
  simp only [↓R1, R2, R3, R4, TY, reduceIte, Nat.reduceEqDiff, Nat.reduceAdd, Nat.reduceMul, Nat.reduceLT, Nat.reduceLeDiff, reduceCtorEq, decide_true, decide_false, Int.reduceLE, Int.reduceLT, Int.reduceToNat, Int.reduceAdd, Int.reduceSub, Int.reduceMul, Int.reduceEq, w1, w2, v1, v2, v3, v4, v5, v6, v7, v8, zz]
  refine call_of (n3) ?_
  simp only [↓R1, R2, R3, R4, TY, reduceIte, Nat.reduceEqDiff, Nat.reduceAdd, Nat.reduceMul, Nat.reduceLT, Nat.reduceLeDiff, reduceCtorEq, decide_true, decide_false, Int.reduceLE, Int.reduceLT, Int.reduceToNat, Int.reduceAdd, Int.reduceSub, Int.reduceMul, Int.reduceEq, w1, w2, v1, v2, v3, v4, v5, v6, v7, v8, zz]
  refine call_of (p1 _ _) ?_
  simp only [↓R1, R2, R3, R4, TY, reduceIte, Nat.reduceEqDiff, Nat.reduceAdd, Nat.reduceMul, Nat.reduceLT, Nat.reduceLeDiff, reduceCtorEq, decide_true, decide_false, Int.reduceLE, Int.reduceLT, Int.reduceToNat, Int.reduceAdd, Int.reduceSub, Int.reduceMul, Int.reduceEq, w1, w2, v1, v2, v3, v4, v5, v6, v7, v8, zz]
  refine call_of (p2 _ _) ?_
  simp only [↓R1, R2, R3, R4, TY, reduceIte, Nat.reduceEqDiff, Nat.reduceAdd, Nat.reduceMul, Nat.reduceLT, Nat.reduceLeDiff, reduceCtorEq, decide_true, decide_false, Int.reduceLE, Int.reduceLT, Int.reduceToNat, Int.reduceAdd, Int.reduceSub, Int.reduceMul, Int.reduceEq, w1, w2, v1, v2, v3, v4, v5, v6, v7, v8, zz]
  refine call_of (p3 _ _) ?_
  simp only [↓R1, R2, R3, R4, TY, reduceIte, Nat.reduceEqDiff, Nat.reduceAdd, Nat.reduceMul, Nat.reduceLT, Nat.reduceLeDiff, reduceCtorEq, decide_true, decide_false, Int.reduceLE, Int.reduceLT, Int.reduceToNat, Int.reduceAdd, Int.reduceSub, Int.reduceMul, Int.reduceEq, w1, w2, v1, v2, v3, v4, v5, v6, v7, v8, zz]
  refine call_of (p4 _ _) ?_
  simp only [↓R1, R2, R3, R4, TY, reduceIte, Nat.reduceEqDiff, Nat.reduceAdd, Nat.reduceMul, Nat.reduceLT, Nat.reduceLeDiff, reduceCtorEq, decide_true, decide_false, Int.reduceLE, Int.reduceLT, Int.reduceToNat, Int.reduceAdd, Int.reduceSub, Int.reduceMul, Int.reduceEq, w1, w2, v1, v2, v3, v4, v5, v6, v7, v8, zz]
  refine Ended.modOne (Mod.put (Mod.refl hA) hlt fun v hv => ?_) (fun i hi => ?_) (Nat.le_refl _) ?_ (Nat.le_refl _) fun u hu => ?_
  · simp only [List.mem_cons, List.not_mem_nil, or_false] at hv
    subst hv
    exact hrb hA
  · rw [Hp.push_blk, if_neg (by simp only [Hp.put_next]; omega)]
  · exact push_at rfl
  · simp only [List.map_cons, List.map_nil, List.flatten_cons, List.flatten_nil, vC_def, List.append_nil, List.cons_append, List.nil_append, List.mem_cons, List.not_mem_nil, or_false] at hu
    rcases hu with rfl | rfl | rfl | rfl | rfl | rfl | rfl | rfl | rfl | rfl | rfl | rfl | rfl | rfl | rfl | rfl | rfl | rfl | rfl | rfl | rfl | rfl | rfl | rfl <;> exact RB.zc rfl
end
end Go.Proofs.YthclikeipdplpaaDoor.Ab
