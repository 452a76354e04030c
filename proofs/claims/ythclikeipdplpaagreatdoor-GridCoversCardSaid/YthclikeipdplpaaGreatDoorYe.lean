/- Polygons from raw numbers: the stream of numbers, gantmake.Poly. -/
import Derived.Test.YthclikeipdplpaaGreatDoorYc
namespace Go.Proofs.YthclikeipdplpaaGreatDoor.Ab
open Go.RowKit
set_option linter.unusedVariables false
set_option linter.unusedSimpArgs false
set_option maxRecDepth 100000

/-- The heap at a call, with old blocks written. -/
structure Mod (A A1 : Hp) : Prop where
  next : A1.next = A.next
  wf : ∀ i, A.next ≤ i → A1.blk i = none
  refs : ∀ id, id < A.next → ∀ cs g e, A1.blk id = some (.row cs g e) → A.blk id = some (.row cs g e) ∨ ∀ v ∈ cs, RB A.next v

section
variable {G : Gl} {fl : Nat} {A : Hp}

theorem Mod.refl (hA : Hok fl A) : Mod A A := ⟨rfl, hA.wf, fun _ _ _ _ _ h => .inl h⟩
theorem Mod.put {A1 : Hp} {id g e : Nat} {cs : List Value} (h : Mod A A1) (hid : id < A.next) (hc : ∀ v ∈ cs, RB A.next v) : Mod A (A1.put id (.row cs g e)) := by
  refine ⟨h.next, fun i hi => ?_, fun i hi cs' g' e' hb => ?_⟩
  · rw [Hp.put_blk, if_neg (by omega)]; exact h.wf i hi
  · rw [Hp.put_blk] at hb
    split at hb
    · cases hb; exact .inr hc
    · exact h.refs i hi cs' g' e' hb
theorem Ended.mod {A1 B : Hp} {r : Value} (h : Mod A A1) (hb : ∀ i, i < A.next → B.blk i = A1.blk i) (hr : RB A.next r) : Ended A r B r A1 :=
  ⟨fun _ => none, ⟨by rw [h.next]; exact Nat.le_refl _, fun id hi => (hb id hi).symm, fun id hi cs g e hbk => h.refs id hi cs g e (by rw [← hb id hi]; exact hbk), fun i hi => h.wf i (by rw [h.next] at hi; exact hi), fun k h1 h2 => by rw [h.next] at h2; omega, fun k p h => (by cases h), fun k k' id sh sh' h => (by cases h)⟩, .same hr⟩
theorem Ended.modOne {A1 B : Hp} {id g sz n c : Nat} {cells : List Value} (h : Mod A A1) (x : ∀ i, i < A.next → B.blk i = A1.blk i) (hid : A.next ≤ id) (hb : B.blk id = some (.row cells g sz)) (hnc : n ≤ c) (hr : ∀ u ∈ cells, RB A.next u) :
    Ended A (.slice (some ⟨id, 0, some g⟩) n c) B (.slice (some ⟨A.next, 0, some 0⟩) n n) (A1.push (.row cells 0 sz)) := by
  refine ⟨fun k => if k = A.next then some (id, 0) else none, ⟨by simp [h.next], fun i hi => ?_, fun i hi cs g' e hbk => ?_, fun i hi => ?_, fun k h1 h2 => ?_, fun k p h => ?_, fun k k' i sh sh' h1 h2 => ?_⟩, rr_one hb hnc⟩
  · rw [Hp.push_blk, h.next, if_neg (by omega)]; exact (x i hi).symm
  · exact h.refs i hi cs g' e (by rw [← x i hi]; exact hbk)
  · rw [Hp.push_next, h.next] at hi
    rw [Hp.push_blk, h.next, if_neg (by omega)]; exact h.wf i (by omega)
  · rw [Hp.push_next, h.next] at h2
    obtain rfl : k = A.next := by omega
    refine ⟨id, 0, cells, g, sz, cells, by simp, hid, hb, by simp [Hp.push_blk, h.next], by simp, fun j v hj => ⟨v, by simpa using hj, .same (hr v (List.mem_of_getElem? hj))⟩⟩
  · split at h
    · rename_i h0 hk; subst hk; simp [h0.next]
    · cases h
  · split at h1
    · split at h2
      · omega
      · cases h2
    · cases h1
theorem put_self {id : Nat} {b : Blk} (h : A.blk id = some b) : A.put id b = A := by
  cases A with
  | mk n f =>
    simp only [Hp.put, Hp.mk.injEq, true_and]
    funext i
    split
    · rename_i e; subst e; exact h.symm
    · rfl
theorem put_put {id : Nat} {b c : Blk} : (A.put id b).put id c = A.put id c := by
  simp only [Hp.put, Hp.mk.injEq, true_and]
  funext i
  split <;> rfl

/-! streams -/
def iC (x : Int) : List Value := [.int .i64 x]
/-- Without the first number. -/
def stl : Value → Value
  | .slice (some a) n c => if n = 0 then .slice (some a) n c else .slice (some (aadd a 1)) (n - 1) (c - 1)
  | v => v
def nxt (xs : List Int) (n : Int) : Int := match xs with | [] => 0 | x :: _ => below x n
def In64 (xs : List Int) : Prop := ∀ x ∈ xs, -9223372036854775808 ≤ x ∧ x ≤ 9223372036854775807
theorem In64.tail {xs : List Int} (h : In64 xs) : In64 xs.tail := fun x hx => h x (List.mem_of_mem_tail hx)
theorem Sl.stl {v : Value} {xs : List Int} (h : Sl A 1 v (xs.map iC)) : Sl A 1 (stl v) (xs.tail.map iC) := by
  obtain ⟨hl, h⟩ := h
  refine ⟨fun c hc => ?_, ?_⟩
  · obtain ⟨x, _, rfl⟩ := List.mem_map.1 hc; rfl
  rcases h with ⟨rfl, h2⟩ | ⟨a, g, rfl, h2, h3, h4, h5⟩ | ⟨a, n, c, g, ds, rfl, hn, hg, hb, hr⟩
  · have : xs = [] := by simpa using h2
    subst this
    exact .inl ⟨rfl, rfl⟩
  · have : xs = [] := by simpa using h2
    subst this
    exact .inr (.inl ⟨a, g, rfl, rfl, h3, h4, h5⟩)
  · cases xs with
    | nil =>
      have : n = 0 := by simpa using hn.symm
      subst this
      exact .inr (.inr ⟨a, 0, c, g, ds, rfl, rfl, hg, hb, fun j x hj => by simp at hj⟩)
    | cons x xs =>
      have hn' : n = xs.length + 1 := by simpa using hn.symm
      subst hn'
      refine .inr (.inr ⟨aadd a 1, xs.length, c - 1, g, ds, by simp [Ab.stl], by simp, hg, hb, fun j y hj => ?_⟩)
      have := hr (j + 1) y (by simpa [iC] using hj)
      simp only [aadd]
      rw [show a.off + 1 + j = a.off + (j + 1) by omega]; exact this
theorem RB.slice {v : Value} {css : List (List Value)} {sz : Nat} (hA : Hok fl A) (h : Sl A sz v css) : RB A.next v := h.rb hA

theorem nxt_range {xs : List Int} {n : Int} (h : 1 ≤ n) : 0 ≤ nxt xs n ∧ nxt xs n < n := by
  cases xs with
  | nil => exact ⟨Int.le_refl _, by simp only [nxt]; omega⟩
  | cons x xs => exact below_range (by omega)

set_option maxHeartbeats 2000000 in
theorem snext {xs : List Int} {sv : Value} {id : Nat} {n : Int} (h1 : 1 ≤ n) (hn : n ≤ 1000) (hx : In64 xs) (hs : Sl A 1 sv (xs.map iC)) (hb : A.blk id = some (.row [sv] 0 1)) (hid : fl ≤ id) (hl : xs.length ≤ 9223372036854775807) :
    Sound Tryz.prog G 90 [.pointer (some ⟨id, 0, some 0⟩), .int .i64 n] fl A (.int .i64 (nxt xs n)) (A.put id (.row [stl sv] 0 1)) := by
  have n1 : (n < 1) = False := eq_false (by omega)
  obtain ⟨o, c, rfl⟩ := hs.len
  cases xs with
  | nil =>
    simp only [List.map_nil, List.length_nil] at hs hb ⊢
    have e : A.put id (.row [stl (.slice o 0 c)] 0 1) = A := put_self (by rw [hb]; cases o <;> rfl)
    rw [e]
    refine Sound.of mixed Tryz.func90 Tryz.ntmps90 Tryz.results90 (by kernel_rfl) rfl (by kernel_rfl) (by simp) fun hA => ?_
    have g0 : A.get G ⟨id, 0, some 0⟩ = some (.slice o 0 c) := by simp [Hp.get, hb]
    have c0 : (((0 : Nat) : Int) = 0) = True := eq_true rfl
    simp only [↓R1, R2, R3, R4, TY, reduceIte, Nat.reduceEqDiff, Nat.reduceAdd, Nat.reduceMul, Nat.reduceLT, Nat.reduceLeDiff, reduceCtorEq, decide_true, decide_false, Int.reduceLE, Int.reduceLT, Int.reduceToNat, Int.reduceAdd, Int.reduceSub, Int.reduceMul, Int.reduceEq, g0, n1, c0]
    exact Ended.back hA (Xt.refl _) rfl (RB.int _ _)
  | cons x xs =>
    obtain ⟨a, rfl, hg⟩ := hs.at (G := G) (i := 0) (by simp)
    have g1 : A.get G (aadd a 0) = some (.int .i64 x) := hg 0 _ rfl
    have hes2 : eszOK A a.block 1 := hs.esz
    have hsl := hs.stl
    simp only [List.map_cons, List.length_cons, List.length_map] at hs hb hsl ⊢
    have es : stl (.slice (some a) (xs.length + 1) c) = .slice (some (aadd a 1)) (xs.length + 1 - 1) (c - 1) := by simp [Ab.stl]
    rw [es] at hsl ⊢
    refine Sound.of mixed Tryz.func90 Tryz.ntmps90 Tryz.results90 (by kernel_rfl) rfl (by kernel_rfl) (by simp) fun hA => ?_
    have hlt := hA.lt hb
    have g0 : A.get G ⟨id, 0, some 0⟩ = some (.slice (some a) (xs.length + 1) c) := by simp [Hp.get, hb]
    have c1 : (((xs.length + 1 : Nat) : Int) = 0) = False := eq_false (by omega)
    have c2 : (1 : Nat) ≤ xs.length + 1 := by omega
    have c3 : (0 : Int) < ((xs.length + 1 : Nat) : Int) := by omega
    have bl := fun fl A => below_ok (G := G) (fl := fl) (A := A) (x := x) (n := n) (by omega) hn (hx x (by simp)).1 (hx x (by simp)).2
    have g2 : A.get G a = some (.int .i64 x) := g1
    simp only [↓R1, R2, R3, R4, TY, reduceIte, Nat.reduceEqDiff, Nat.reduceAdd, Nat.reduceMul, Nat.reduceLT, Nat.reduceLeDiff, reduceCtorEq, decide_true, decide_false, Int.reduceLE, Int.reduceLT, Int.reduceToNat, Int.reduceAdd, Int.reduceSub, Int.reduceMul, Int.reduceEq, g0, n1, c1, c2, c3, g1, g2, hes2, hb, hid]
    refine call_of (bl _ _) ?_
    simp only [↓R1, R2, R3, R4, TY, reduceIte, Nat.reduceEqDiff, Nat.reduceAdd, Nat.reduceMul, Nat.reduceLT, Nat.reduceLeDiff, reduceCtorEq, decide_true, decide_false, Int.reduceLE, Int.reduceLT, Int.reduceToNat, Int.reduceAdd, Int.reduceSub, Int.reduceMul, Int.reduceEq]
    refine Ended.mod (Mod.put (Mod.refl hA) hlt fun v hv => ?_) (fun i hi => ?_) (RB.int _ _)
    · simp only [List.mem_cons, List.not_mem_nil, or_false] at hv
      subst hv
      exact hsl.rb hA
    · rfl

/-! polygons -/
def q4 (n : Int) : Rat := mkRat n 4
def qat (x y : Int) : V2 := (q4 x, q4 y)
def mp (w h s t : Int) : List V2 :=
  if s = 0 then [qat (-w) (-h), qat w (-h), qat w h, qat (-w) h] else if s = 1 then [qat (-w) (-h), qat w (-h), qat t h]
  else if s = 2 then [qat (-w - 1) (-h - 1), qat w (-h - 1), qat (w + 1) (-h), qat (w + 1) h, qat (-w - 1) h] else [qat (-w) 0, qat 0 (-h), qat w 0, qat 0 h]
def mpoly (xs : List Int) : List V2 := mp (1 + nxt xs 6) (1 + nxt xs.tail 6) (nxt xs.tail.tail 4) (nxt xs.tail.tail.tail (2 * (1 + nxt xs 6) + 1) - (1 + nxt xs 6))

theorem mat_ok {x y : Int} (hx : -1000 ≤ x) (hx' : x ≤ 1000) (hy : -1000 ≤ y) (hy' : y ≤ 1000) : Sound Tryz.prog G 91 [.int .i64 x, .int .i64 y] fl A (prV (q4 x) (q4 y)) A := by
  refine Sound.of mixed Tryz.func91 Tryz.ntmps91 Tryz.results91 (by kernel_rfl) rfl (by kernel_rfl) (by simp) fun hA => ?_
  have hfl := hA.floor
  have o1 := fun fl A => mof_ok (G := G) (fl := fl) (A := A) (n := x) (d := 4) (by decide) (by decide) (by omega) (by omega)
  have o2 := fun fl A => mof_ok (G := G) (fl := fl) (A := A) (n := y) (d := 4) (by decide) (by decide) (by omega) (by omega)
  have hrb := prV_rb A.next (q4 x) (q4 y)
  have e1 : mkRat x 4 = q4 x := rfl
  have e2 : mkRat y 4 = q4 y := rfl
  rw [e1] at o1
  rw [e2] at o2
  generalize q4 x = p at *
  generalize q4 y = q at *
  simp only [prV_def] at hrb ⊢
  simp only [ratV_def] at o1 o2
  simp only [↓R1, R2, R3, R4, TY, reduceIte, Nat.reduceEqDiff, Nat.reduceAdd, Nat.reduceMul, Nat.reduceLT, Nat.reduceLeDiff, reduceCtorEq, decide_true, decide_false, Int.reduceLE, Int.reduceLT, Int.reduceToNat, Int.reduceAdd, Int.reduceSub, Int.reduceMul, Int.reduceEq, hfl, NE, NE9, Nat.add_assoc]
  refine call_of (o1 _ _) ?_
  simp only [↓R1, R2, R3, R4, TY, reduceIte, Nat.reduceEqDiff, Nat.reduceAdd, Nat.reduceMul, Nat.reduceLT, Nat.reduceLeDiff, reduceCtorEq, decide_true, decide_false, Int.reduceLE, Int.reduceLT, Int.reduceToNat, Int.reduceAdd, Int.reduceSub, Int.reduceMul, Int.reduceEq, hfl, NE, NE9, Nat.add_assoc]
  refine call_of (o2 _ _) ?_
  simp only [↓R1, R2, R3, R4, TY, reduceIte, Nat.reduceEqDiff, Nat.reduceAdd, Nat.reduceMul, Nat.reduceLT, Nat.reduceLeDiff, reduceCtorEq, decide_true, decide_false, Int.reduceLE, Int.reduceLT, Int.reduceToNat, Int.reduceAdd, Int.reduceSub, Int.reduceMul, Int.reduceEq, hfl, NE, NE9, Nat.add_assoc]
  refine Ended.back hA ?_ rfl hrb
  simp (maxDischargeDepth := 20) only [xt_push, xt_put, xt_refl, Nat.le_refl, Nat.le_add_right, Nat.add_assoc, Nat.reduceAdd]

theorem stl_blk {sv : Value} {id : Nat} (h : ∀ a n c, sv = .slice (some a) n c → a.block ≠ id) : ∀ a n c, stl sv = .slice (some a) n c → a.block ≠ id := by
  intro a n c e
  unfold Ab.stl at e
  split at e
  · rename_i a' n' c'
    split at e
    · cases e; exact h _ _ _ rfl
    · cases e; exact h a' n' c' rfl
  · rename_i hno
    subst e
    exact absurd rfl (hno a n c)
theorem Sl.putne {sv : Value} {id : Nat} {b : Blk} {css : List (List Value)} (hs : Sl A 1 sv css) (h : ∀ a n c, sv = .slice (some a) n c → a.block ≠ id) : Sl (A.put id b) 1 sv css :=
  hs.keep (Nat.le_refl _) fun a n c e => by rw [Hp.put_blk, if_neg (h a n c e)]
theorem snext2 {xs : List Int} {sv : Value} {id : Nat} {n : Int} (h1 : 1 ≤ n) (hn : n ≤ 1000) (hx : In64 xs) (hs : Sl A 1 sv (xs.map iC)) (hid : fl ≤ id) (hl : xs.length ≤ 9223372036854775807) (hne : ∀ a n c, sv = .slice (some a) n c → a.block ≠ id) :
    Sound Tryz.prog G 90 [.pointer (some ⟨id, 0, some 0⟩), .int .i64 n] fl (A.put id (.row [sv] 0 1)) (.int .i64 (nxt xs n)) (A.put id (.row [stl sv] 0 1)) := by
  have := snext (G := G) (fl := fl) (A := A.put id (.row [sv] 0 1)) h1 hn hx (hs.putne hne) (by rw [Hp.put_blk, if_pos rfl]) hid hl
  rwa [put_put] at this

set_option maxHeartbeats 8000000 in
theorem mpoly_0 {xs : List Int} {sv : Value} {id : Nat} (hk : nxt xs.tail.tail 4 = 0) (hx : In64 xs) (hs : Sl A 1 sv (xs.map iC)) (hb : A.blk id = some (.row [sv] 0 1)) (hid : fl ≤ id) (hl : xs.length ≤ 9223372036854775807) (hne : ∀ a n c, sv = .slice (some a) n c → a.block ≠ id) :
    Sound Tryz.prog G 53 [.pointer (some ⟨id, 0, some 0⟩)] fl A (.slice (some ⟨A.next, 0, some 0⟩) (mpoly xs).length (mpoly xs).length) ((A.put id (.row [stl (stl (stl sv))] 0 1)).push (.row ((mpoly xs).map vC).flatten 0 6)) := by
  have hw := nxt_range (xs := xs) (n := 6) (by decide)
  have hh := nxt_range (xs := xs.tail) (n := 6) (by decide)
  have ht := nxt_range (xs := xs.tail.tail.tail) (n := 2 * (1 + nxt xs 6) + 1) (by omega)
  have n1 := snext (G := G) (fl := fl) (A := A) (n := 6) (by decide) (by decide) hx hs hb hid hl
  have n2 := snext2 (G := G) (fl := fl) (A := A) (n := 6) (by decide) (by decide) hx.tail hs.stl hid (by have := xs.length_tail; omega) (stl_blk hne)
  have n3 := snext2 (G := G) (fl := fl) (A := A) (n := 4) (by decide) (by decide) hx.tail.tail hs.stl.stl hid (by have := xs.length_tail; have := xs.tail.length_tail; omega) (stl_blk (stl_blk hne))
  have n4 := snext2 (G := G) (fl := fl) (A := A) (n := 2 * (1 + nxt xs 6) + 1) (by omega) (by omega) hx.tail.tail.tail hs.stl.stl.stl hid (by have := xs.length_tail; have := xs.tail.length_tail; have := xs.tail.tail.length_tail; omega) (stl_blk (stl_blk (stl_blk hne)))
  have hrb : ∀ hA : Hok fl A, RB A.next (stl (stl (stl sv))) := fun hA => (hs.stl.stl.stl).rb hA
  unfold mpoly
  rw [hk] at n3 ⊢
  have w1 : IntKind.i64.wrap (1 + nxt xs 6) = 1 + nxt xs 6 := wrapI (by omega)
  have w2 : IntKind.i64.wrap (1 + nxt xs.tail 6) = 1 + nxt xs.tail 6 := wrapI (by omega)
  generalize nxt xs.tail.tail.tail (2 * (1 + nxt xs 6) + 1) = t at *
  generalize nxt xs 6 = w0 at *
  generalize nxt xs.tail 6 = h0 at *
  have p1 := fun fl A => mat_ok (G := G) (fl := fl) (A := A) (x := -(1 + w0)) (y := -(1 + h0)) (by omega) (by omega) (by omega) (by omega)
  have p2 := fun fl A => mat_ok (G := G) (fl := fl) (A := A) (x := (1 + w0)) (y := -(1 + h0)) (by omega) (by omega) (by omega) (by omega)
  have p3 := fun fl A => mat_ok (G := G) (fl := fl) (A := A) (x := (1 + w0)) (y := (1 + h0)) (by omega) (by omega) (by omega) (by omega)
  have p4 := fun fl A => mat_ok (G := G) (fl := fl) (A := A) (x := -(1 + w0)) (y := (1 + h0)) (by omega) (by omega) (by omega) (by omega)
  have v1 : IntKind.i64.wrap (0 - (1 + w0)) = -(1 + w0) := by rw [wrapI (by omega)]; omega
  have v2 : IntKind.i64.wrap (0 - (1 + h0)) = -(1 + h0) := by rw [wrapI (by omega)]; omega
  have v3 : IntKind.i64.wrap (-(1 + w0) - 1) = -(1 + w0) - 1 := wrapI (by omega)
  have v4 : IntKind.i64.wrap (-(1 + h0) - 1) = -(1 + h0) - 1 := wrapI (by omega)
  have v5 : IntKind.i64.wrap (1 + w0 + 1) = 1 + w0 + 1 := wrapI (by omega)
  have v6 : IntKind.i64.wrap (2 * (1 + w0)) = 2 * (1 + w0) := wrapI (by omega)
  have v7 : IntKind.i64.wrap (2 * (1 + w0) + 1) = 2 * (1 + w0) + 1 := wrapI (by omega)
  have v8 : IntKind.i64.wrap (t - (1 + w0)) = t - (1 + w0) := wrapI (by omega)
  have zz : zl [Value.bool false, .string { data := #[] }, .string { data := #[] }, .bool false, .string { data := #[] }, .string { data := #[] }] 24 = [Value.bool false, .string { data := #[] }, .string { data := #[] }, .bool false, .string { data := #[] }, .string { data := #[] }, Value.bool false, .string { data := #[] }, .string { data := #[] }, .bool false, .string { data := #[] }, .string { data := #[] }, Value.bool false, .string { data := #[] }, .string { data := #[] }, .bool false, .string { data := #[] }, .string { data := #[] }, Value.bool false, .string { data := #[] }, .string { data := #[] }, .bool false, .string { data := #[] }, .string { data := #[] }] := rfl
  unfold mp
  simp only [reduceIte, Int.reduceEq, qat]
  generalize q4 = Q at *
  simp only [prV_def] at p1 p2 p3 p4
  refine Sound.of mixed Tryz.func53 Tryz.ntmps53 Tryz.results53 (by kernel_rfl) rfl (by kernel_rfl) (by simp) fun hA => ?_
  have hlt := hA.lt hb
  simp only [↓R1, R2, R3, R4, TY, reduceIte, Nat.reduceEqDiff, Nat.reduceAdd, Nat.reduceMul, Nat.reduceLT, Nat.reduceLeDiff, reduceCtorEq, decide_true, decide_false, Int.reduceLE, Int.reduceLT, Int.reduceToNat, Int.reduceAdd, Int.reduceSub, Int.reduceMul, Int.reduceEq, w1, w2, v1, v2, v3, v4, v5, v6, v7, v8, zz]
  refine call_of (n1) ?_
  simp only [↓R1, R2, R3, R4, TY, reduceIte, Nat.reduceEqDiff, Nat.reduceAdd, Nat.reduceMul, Nat.reduceLT, Nat.reduceLeDiff, reduceCtorEq, decide_true, decide_false, Int.reduceLE, Int.reduceLT, Int.reduceToNat, Int.reduceAdd, Int.reduceSub, Int.reduceMul, Int.reduceEq, w1, w2, v1, v2, v3, v4, v5, v6, v7, v8, zz]
  refine call_of (n2) ?_
  simp only [↓R1, R2, R3, R4, TY, reduceIte, Nat.reduceEqDiff, Nat.reduceAdd, Nat.reduceMul, Nat.reduceLT, Nat.reduceLeDiff, reduceCtorEq, decide_true, decide_false, Int.reduceLE, Int.reduceLT, Int.reduceToNat, Int.reduceAdd, Int.reduceSub, Int.reduceMul, Int.reduceEq, w1, w2, v1, v2, v3, v4, v5, v6, v7, v8, zz]
  refine call_of (n3) ?_
  simp only [↓R1, R2, R3, R4, TY, reduceIte, Nat.reduceEqDiff, Nat.reduceAdd, Nat.reduceMul, Nat.reduceLT, Nat.reduceLeDiff, reduceCtorEq, decide_true, decide_false, Int.reduceLE, Int.reduceLT, Int.reduceToNat, Int.reduceAdd, Int.reduceSub, Int.reduceMul, Int.reduceEq, w1, w2, v1, v2, v3, v4, v5, v6, v7, v8, zz]
  refine call_of (p1 _ _) ?_
  simp only [↓R1, R2, R3, R4, TY, reduceIte, Nat.reduceEqDiff, Nat.reduceAdd, Nat.reduceMul, Nat.reduceLT, Nat.reduceLeDiff, reduceCtorEq, decide_true, decide_false, Int.reduceLE, Int.reduceLT, Int.reduceToNat, Int.reduceAdd, Int.reduceSub, Int.reduceMul, Int.reduceEq, w1, w2, v1, v2, v3, v4, v5, v6, v7, v8, zz]
  refine call_of (p2 _ _) ?_
  simp only [↓R1, R2, R3, R4, TY, reduceIte, Nat.reduceEqDiff, Nat.reduceAdd, Nat.reduceMul, Nat.reduceLT, Nat.reduceLeDiff, reduceCtorEq, decide_true, decide_false, Int.reduceLE, Int.reduceLT, Int.reduceToNat, Int.reduceAdd, Int.reduceSub, Int.reduceMul, Int.reduceEq, w1, w2, v1, v2, v3, v4, v5, v6, v7, v8, zz]
  refine call_of (p3 _ _) ?_
  simp only [↓R1, R2, R3, R4, TY, reduceIte, Nat.reduceEqDiff, Nat.reduceAdd, Nat.reduceMul, Nat.reduceLT, Nat.reduceLeDiff, reduceCtorEq, decide_true, decide_false, Int.reduceLE, Int.reduceLT, Int.reduceToNat, Int.reduceAdd, Int.reduceSub, Int.reduceMul, Int.reduceEq, w1, w2, v1, v2, v3, v4, v5, v6, v7, v8, zz]
  refine call_of (p4 _ _) ?_
  simp only [↓R1, R2, R3, R4, TY, reduceIte, Nat.reduceEqDiff, Nat.reduceAdd, Nat.reduceMul, Nat.reduceLT, Nat.reduceLeDiff, reduceCtorEq, decide_true, decide_false, Int.reduceLE, Int.reduceLT, Int.reduceToNat, Int.reduceAdd, Int.reduceSub, Int.reduceMul, Int.reduceEq, w1, w2, v1, v2, v3, v4, v5, v6, v7, v8, zz]
  refine Ended.modOne (Mod.put (Mod.refl hA) hlt fun v hv => ?_) (fun i hi => ?_) (Nat.le_refl _) ?_ (Nat.le_refl _) fun u hu => ?_
  · simp only [List.mem_cons, List.not_mem_nil, or_false] at hv
    subst hv
    exact hrb hA
  · rw [Hp.push_blk, if_neg (by simp only [Hp.put_next]; omega)]
  · exact push_at rfl
  · simp only [List.map_cons, List.map_nil, List.flatten_cons, List.flatten_nil, vC_def, List.append_nil, List.cons_append, List.nil_append, List.mem_cons, List.not_mem_nil, or_false] at hu
    rcases hu with rfl | rfl | rfl | rfl | rfl | rfl | rfl | rfl | rfl | rfl | rfl | rfl | rfl | rfl | rfl | rfl | rfl | rfl | rfl | rfl | rfl | rfl | rfl | rfl <;> exact RB.zc rfl
set_option maxHeartbeats 8000000 in
theorem mpoly_1 {xs : List Int} {sv : Value} {id : Nat} (hk : nxt xs.tail.tail 4 = 1) (hx : In64 xs) (hs : Sl A 1 sv (xs.map iC)) (hb : A.blk id = some (.row [sv] 0 1)) (hid : fl ≤ id) (hl : xs.length ≤ 9223372036854775807) (hne : ∀ a n c, sv = .slice (some a) n c → a.block ≠ id) :
    Sound Tryz.prog G 53 [.pointer (some ⟨id, 0, some 0⟩)] fl A (.slice (some ⟨A.next, 0, some 0⟩) (mpoly xs).length (mpoly xs).length) ((A.put id (.row [stl (stl (stl (stl sv)))] 0 1)).push (.row ((mpoly xs).map vC).flatten 0 6)) := by
  have hw := nxt_range (xs := xs) (n := 6) (by decide)
  have hh := nxt_range (xs := xs.tail) (n := 6) (by decide)
  have ht := nxt_range (xs := xs.tail.tail.tail) (n := 2 * (1 + nxt xs 6) + 1) (by omega)
  have n1 := snext (G := G) (fl := fl) (A := A) (n := 6) (by decide) (by decide) hx hs hb hid hl
  have n2 := snext2 (G := G) (fl := fl) (A := A) (n := 6) (by decide) (by decide) hx.tail hs.stl hid (by have := xs.length_tail; omega) (stl_blk hne)
  have n3 := snext2 (G := G) (fl := fl) (A := A) (n := 4) (by decide) (by decide) hx.tail.tail hs.stl.stl hid (by have := xs.length_tail; have := xs.tail.length_tail; omega) (stl_blk (stl_blk hne))
  have n4 := snext2 (G := G) (fl := fl) (A := A) (n := 2 * (1 + nxt xs 6) + 1) (by omega) (by omega) hx.tail.tail.tail hs.stl.stl.stl hid (by have := xs.length_tail; have := xs.tail.length_tail; have := xs.tail.tail.length_tail; omega) (stl_blk (stl_blk (stl_blk hne)))
  have hrb : ∀ hA : Hok fl A, RB A.next (stl (stl (stl (stl sv)))) := fun hA => (hs.stl.stl.stl.stl).rb hA
  unfold mpoly
  rw [hk] at n3 ⊢
  have w1 : IntKind.i64.wrap (1 + nxt xs 6) = 1 + nxt xs 6 := wrapI (by omega)
  have w2 : IntKind.i64.wrap (1 + nxt xs.tail 6) = 1 + nxt xs.tail 6 := wrapI (by omega)
  generalize nxt xs.tail.tail.tail (2 * (1 + nxt xs 6) + 1) = t at *
  generalize nxt xs 6 = w0 at *
  generalize nxt xs.tail 6 = h0 at *
  have p1 := fun fl A => mat_ok (G := G) (fl := fl) (A := A) (x := -(1 + w0)) (y := -(1 + h0)) (by omega) (by omega) (by omega) (by omega)
  have p2 := fun fl A => mat_ok (G := G) (fl := fl) (A := A) (x := (1 + w0)) (y := -(1 + h0)) (by omega) (by omega) (by omega) (by omega)
  have p3 := fun fl A => mat_ok (G := G) (fl := fl) (A := A) (x := t - (1 + w0)) (y := (1 + h0)) (by omega) (by omega) (by omega) (by omega)
  have v1 : IntKind.i64.wrap (0 - (1 + w0)) = -(1 + w0) := by rw [wrapI (by omega)]; omega
  have v2 : IntKind.i64.wrap (0 - (1 + h0)) = -(1 + h0) := by rw [wrapI (by omega)]; omega
  have v3 : IntKind.i64.wrap (-(1 + w0) - 1) = -(1 + w0) - 1 := wrapI (by omega)
  have v4 : IntKind.i64.wrap (-(1 + h0) - 1) = -(1 + h0) - 1 := wrapI (by omega)
  have v5 : IntKind.i64.wrap (1 + w0 + 1) = 1 + w0 + 1 := wrapI (by omega)
  have v6 : IntKind.i64.wrap (2 * (1 + w0)) = 2 * (1 + w0) := wrapI (by omega)
  have v7 : IntKind.i64.wrap (2 * (1 + w0) + 1) = 2 * (1 + w0) + 1 := wrapI (by omega)
  have v8 : IntKind.i64.wrap (t - (1 + w0)) = t - (1 + w0) := wrapI (by omega)
  have zz : zl [Value.bool false, .string { data := #[] }, .string { data := #[] }, .bool false, .string { data := #[] }, .string { data := #[] }] 18 = [Value.bool false, .string { data := #[] }, .string { data := #[] }, .bool false, .string { data := #[] }, .string { data := #[] }, Value.bool false, .string { data := #[] }, .string { data := #[] }, .bool false, .string { data := #[] }, .string { data := #[] }, Value.bool false, .string { data := #[] }, .string { data := #[] }, .bool false, .string { data := #[] }, .string { data := #[] }] := rfl
  unfold mp
  simp only [reduceIte, Int.reduceEq, qat]
  generalize q4 = Q at *
  simp only [prV_def] at p1 p2 p3
  refine Sound.of mixed Tryz.func53 Tryz.ntmps53 Tryz.results53 (by kernel_rfl) rfl (by kernel_rfl) (by simp) fun hA => ?_
  have hlt := hA.lt hb
  simp only [↓R1, R2, R3, R4, TY, reduceIte, Nat.reduceEqDiff, Nat.reduceAdd, Nat.reduceMul, Nat.reduceLT, Nat.reduceLeDiff, reduceCtorEq, decide_true, decide_false, Int.reduceLE, Int.reduceLT, Int.reduceToNat, Int.reduceAdd, Int.reduceSub, Int.reduceMul, Int.reduceEq, w1, w2, v1, v2, v3, v4, v5, v6, v7, v8, zz]
  refine call_of (n1) ?_
  simp only [↓R1, R2, R3, R4, TY, reduceIte, Nat.reduceEqDiff, Nat.reduceAdd, Nat.reduceMul, Nat.reduceLT, Nat.reduceLeDiff, reduceCtorEq, decide_true, decide_false, Int.reduceLE, Int.reduceLT, Int.reduceToNat, Int.reduceAdd, Int.reduceSub, Int.reduceMul, Int.reduceEq, w1, w2, v1, v2, v3, v4, v5, v6, v7, v8, zz]
  refine call_of (n2) ?_
  simp only [↓R1, R2, R3, R4, TY, reduceIte, Nat.reduceEqDiff, Nat.reduceAdd, Nat.reduceMul, Nat.reduceLT, Nat.reduceLeDiff, reduceCtorEq, decide_true, decide_false, Int.reduceLE, Int.reduceLT, Int.reduceToNat, Int.reduceAdd, Int.reduceSub, Int.reduceMul, Int.reduceEq, w1, w2, v1, v2, v3, v4, v5, v6, v7, v8, zz]
  refine call_of (n3) ?_
  simp only [↓R1, R2, R3, R4, TY, reduceIte, Nat.reduceEqDiff, Nat.reduceAdd, Nat.reduceMul, Nat.reduceLT, Nat.reduceLeDiff, reduceCtorEq, decide_true, decide_false, Int.reduceLE, Int.reduceLT, Int.reduceToNat, Int.reduceAdd, Int.reduceSub, Int.reduceMul, Int.reduceEq, w1, w2, v1, v2, v3, v4, v5, v6, v7, v8, zz]
  refine call_of (p1 _ _) ?_
  simp only [↓R1, R2, R3, R4, TY, reduceIte, Nat.reduceEqDiff, Nat.reduceAdd, Nat.reduceMul, Nat.reduceLT, Nat.reduceLeDiff, reduceCtorEq, decide_true, decide_false, Int.reduceLE, Int.reduceLT, Int.reduceToNat, Int.reduceAdd, Int.reduceSub, Int.reduceMul, Int.reduceEq, w1, w2, v1, v2, v3, v4, v5, v6, v7, v8, zz]
  refine call_of (p2 _ _) ?_
  simp only [↓R1, R2, R3, R4, TY, reduceIte, Nat.reduceEqDiff, Nat.reduceAdd, Nat.reduceMul, Nat.reduceLT, Nat.reduceLeDiff, reduceCtorEq, decide_true, decide_false, Int.reduceLE, Int.reduceLT, Int.reduceToNat, Int.reduceAdd, Int.reduceSub, Int.reduceMul, Int.reduceEq, w1, w2, v1, v2, v3, v4, v5, v6, v7, v8, zz]
  refine call_of (n4) ?_
  simp only [↓R1, R2, R3, R4, TY, reduceIte, Nat.reduceEqDiff, Nat.reduceAdd, Nat.reduceMul, Nat.reduceLT, Nat.reduceLeDiff, reduceCtorEq, decide_true, decide_false, Int.reduceLE, Int.reduceLT, Int.reduceToNat, Int.reduceAdd, Int.reduceSub, Int.reduceMul, Int.reduceEq, w1, w2, v1, v2, v3, v4, v5, v6, v7, v8, zz]
  refine call_of (p3 _ _) ?_
  simp only [↓R1, R2, R3, R4, TY, reduceIte, Nat.reduceEqDiff, Nat.reduceAdd, Nat.reduceMul, Nat.reduceLT, Nat.reduceLeDiff, reduceCtorEq, decide_true, decide_false, Int.reduceLE, Int.reduceLT, Int.reduceToNat, Int.reduceAdd, Int.reduceSub, Int.reduceMul, Int.reduceEq, w1, w2, v1, v2, v3, v4, v5, v6, v7, v8, zz]
  refine Ended.modOne (Mod.put (Mod.refl hA) hlt fun v hv => ?_) (fun i hi => ?_) (Nat.le_refl _) ?_ (Nat.le_refl _) fun u hu => ?_
  · simp only [List.mem_cons, List.not_mem_nil, or_false] at hv
    subst hv
    exact hrb hA
  · rw [Hp.push_blk, if_neg (by simp only [Hp.put_next]; omega)]
  · exact push_at rfl
  · simp only [List.map_cons, List.map_nil, List.flatten_cons, List.flatten_nil, vC_def, List.append_nil, List.cons_append, List.nil_append, List.mem_cons, List.not_mem_nil, or_false] at hu
    rcases hu with rfl | rfl | rfl | rfl | rfl | rfl | rfl | rfl | rfl | rfl | rfl | rfl | rfl | rfl | rfl | rfl | rfl | rfl <;> exact RB.zc rfl
set_option maxHeartbeats 8000000 in
theorem mpoly_2 {xs : List Int} {sv : Value} {id : Nat} (hk : nxt xs.tail.tail 4 = 2) (hx : In64 xs) (hs : Sl A 1 sv (xs.map iC)) (hb : A.blk id = some (.row [sv] 0 1)) (hid : fl ≤ id) (hl : xs.length ≤ 9223372036854775807) (hne : ∀ a n c, sv = .slice (some a) n c → a.block ≠ id) :
    Sound Tryz.prog G 53 [.pointer (some ⟨id, 0, some 0⟩)] fl A (.slice (some ⟨A.next, 0, some 0⟩) (mpoly xs).length (mpoly xs).length) ((A.put id (.row [stl (stl (stl sv))] 0 1)).push (.row ((mpoly xs).map vC).flatten 0 6)) := by
  have hw := nxt_range (xs := xs) (n := 6) (by decide)
  have hh := nxt_range (xs := xs.tail) (n := 6) (by decide)
  have ht := nxt_range (xs := xs.tail.tail.tail) (n := 2 * (1 + nxt xs 6) + 1) (by omega)
  have n1 := snext (G := G) (fl := fl) (A := A) (n := 6) (by decide) (by decide) hx hs hb hid hl
  have n2 := snext2 (G := G) (fl := fl) (A := A) (n := 6) (by decide) (by decide) hx.tail hs.stl hid (by have := xs.length_tail; omega) (stl_blk hne)
  have n3 := snext2 (G := G) (fl := fl) (A := A) (n := 4) (by decide) (by decide) hx.tail.tail hs.stl.stl hid (by have := xs.length_tail; have := xs.tail.length_tail; omega) (stl_blk (stl_blk hne))
  have n4 := snext2 (G := G) (fl := fl) (A := A) (n := 2 * (1 + nxt xs 6) + 1) (by omega) (by omega) hx.tail.tail.tail hs.stl.stl.stl hid (by have := xs.length_tail; have := xs.tail.length_tail; have := xs.tail.tail.length_tail; omega) (stl_blk (stl_blk (stl_blk hne)))
  have hrb : ∀ hA : Hok fl A, RB A.next (stl (stl (stl sv))) := fun hA => (hs.stl.stl.stl).rb hA
  unfold mpoly
  rw [hk] at n3 ⊢
  have w1 : IntKind.i64.wrap (1 + nxt xs 6) = 1 + nxt xs 6 := wrapI (by omega)
  have w2 : IntKind.i64.wrap (1 + nxt xs.tail 6) = 1 + nxt xs.tail 6 := wrapI (by omega)
  generalize nxt xs.tail.tail.tail (2 * (1 + nxt xs 6) + 1) = t at *
  generalize nxt xs 6 = w0 at *
  generalize nxt xs.tail 6 = h0 at *
  have p1 := fun fl A => mat_ok (G := G) (fl := fl) (A := A) (x := -(1 + w0) - 1) (y := -(1 + h0) - 1) (by omega) (by omega) (by omega) (by omega)
  have p2 := fun fl A => mat_ok (G := G) (fl := fl) (A := A) (x := (1 + w0)) (y := -(1 + h0) - 1) (by omega) (by omega) (by omega) (by omega)
  have p3 := fun fl A => mat_ok (G := G) (fl := fl) (A := A) (x := (1 + w0) + 1) (y := -(1 + h0)) (by omega) (by omega) (by omega) (by omega)
  have p4 := fun fl A => mat_ok (G := G) (fl := fl) (A := A) (x := (1 + w0) + 1) (y := (1 + h0)) (by omega) (by omega) (by omega) (by omega)
  have p5 := fun fl A => mat_ok (G := G) (fl := fl) (A := A) (x := -(1 + w0) - 1) (y := (1 + h0)) (by omega) (by omega) (by omega) (by omega)
  have v1 : IntKind.i64.wrap (0 - (1 + w0)) = -(1 + w0) := by rw [wrapI (by omega)]; omega
  have v2 : IntKind.i64.wrap (0 - (1 + h0)) = -(1 + h0) := by rw [wrapI (by omega)]; omega
  have v3 : IntKind.i64.wrap (-(1 + w0) - 1) = -(1 + w0) - 1 := wrapI (by omega)
  have v4 : IntKind.i64.wrap (-(1 + h0) - 1) = -(1 + h0) - 1 := wrapI (by omega)
  have v5 : IntKind.i64.wrap (1 + w0 + 1) = 1 + w0 + 1 := wrapI (by omega)
  have v6 : IntKind.i64.wrap (2 * (1 + w0)) = 2 * (1 + w0) := wrapI (by omega)
  have v7 : IntKind.i64.wrap (2 * (1 + w0) + 1) = 2 * (1 + w0) + 1 := wrapI (by omega)
  have v8 : IntKind.i64.wrap (t - (1 + w0)) = t - (1 + w0) := wrapI (by omega)
  have zz : zl [Value.bool false, .string { data := #[] }, .string { data := #[] }, .bool false, .string { data := #[] }, .string { data := #[] }] 30 = [Value.bool false, .string { data := #[] }, .string { data := #[] }, .bool false, .string { data := #[] }, .string { data := #[] }, Value.bool false, .string { data := #[] }, .string { data := #[] }, .bool false, .string { data := #[] }, .string { data := #[] }, Value.bool false, .string { data := #[] }, .string { data := #[] }, .bool false, .string { data := #[] }, .string { data := #[] }, Value.bool false, .string { data := #[] }, .string { data := #[] }, .bool false, .string { data := #[] }, .string { data := #[] }, Value.bool false, .string { data := #[] }, .string { data := #[] }, .bool false, .string { data := #[] }, .string { data := #[] }] := rfl
  unfold mp
  simp only [reduceIte, Int.reduceEq, qat]
  generalize q4 = Q at *
  simp only [prV_def] at p1 p2 p3 p4 p5
  refine Sound.of mixed Tryz.func53 Tryz.ntmps53 Tryz.results53 (by kernel_rfl) rfl (by kernel_rfl) (by simp) fun hA => ?_
  have hlt := hA.lt hb
  simp only [↓R1, R2, R3, R4, TY, reduceIte, Nat.reduceEqDiff, Nat.reduceAdd, Nat.reduceMul, Nat.reduceLT, Nat.reduceLeDiff, reduceCtorEq, decide_true, decide_false, Int.reduceLE, Int.reduceLT, Int.reduceToNat, Int.reduceAdd, Int.reduceSub, Int.reduceMul, Int.reduceEq, w1, w2, v1, v2, v3, v4, v5, v6, v7, v8, zz]
  refine call_of (n1) ?_
  simp only [↓R1, R2, R3, R4, TY, reduceIte, Nat.reduceEqDiff, Nat.reduceAdd, Nat.reduceMul, Nat.reduceLT, Nat.reduceLeDiff, reduceCtorEq, decide_true, decide_false, Int.reduceLE, Int.reduceLT, Int.reduceToNat, Int.reduceAdd, Int.reduceSub, Int.reduceMul, Int.reduceEq, w1, w2, v1, v2, v3, v4, v5, v6, v7, v8, zz]
  refine call_of (n2) ?_
  simp only [↓R1, R2, R3, R4, TY, reduceIte, Nat.reduceEqDiff, Nat.reduceAdd, Nat.reduceMul, Nat.reduceLT, Nat.reduceLeDiff, reduceCtorEq, decide_true, decide_false, Int.reduceLE, Int.reduceLT, Int.reduceToNat, Int.reduceAdd, Int.reduceSub, Int.reduceMul, Int.reduceEq, w1, w2, v1, v2, v3, v4, v5, v6, v7, v8, zz]
  refine call_of (n3) ?_
  simp only [↓R1, R2, R3, R4, TY, reduceIte, Nat.reduceEqDiff, Nat.reduceAdd, Nat.reduceMul, Nat.reduceLT, Nat.reduceLeDiff, reduceCtorEq, decide_true, decide_false, Int.reduceLE, Int.reduceLT, Int.reduceToNat, Int.reduceAdd, Int.reduceSub, Int.reduceMul, Int.reduceEq, w1, w2, v1, v2, v3, v4, v5, v6, v7, v8, zz]
  refine call_of (p1 _ _) ?_
  simp only [↓R1, R2, R3, R4, TY, reduceIte, Nat.reduceEqDiff, Nat.reduceAdd, Nat.reduceMul, Nat.reduceLT, Nat.reduceLeDiff, reduceCtorEq, decide_true, decide_false, Int.reduceLE, Int.reduceLT, Int.reduceToNat, Int.reduceAdd, Int.reduceSub, Int.reduceMul, Int.reduceEq, w1, w2, v1, v2, v3, v4, v5, v6, v7, v8, zz]
  refine call_of (p2 _ _) ?_
  simp only [↓R1, R2, R3, R4, TY, reduceIte, Nat.reduceEqDiff, Nat.reduceAdd, Nat.reduceMul, Nat.reduceLT, Nat.reduceLeDiff, reduceCtorEq, decide_true, decide_false, Int.reduceLE, Int.reduceLT, Int.reduceToNat, Int.reduceAdd, Int.reduceSub, Int.reduceMul, Int.reduceEq, w1, w2, v1, v2, v3, v4, v5, v6, v7, v8, zz]
  refine call_of (p3 _ _) ?_
  simp only [↓R1, R2, R3, R4, TY, reduceIte, Nat.reduceEqDiff, Nat.reduceAdd, Nat.reduceMul, Nat.reduceLT, Nat.reduceLeDiff, reduceCtorEq, decide_true, decide_false, Int.reduceLE, Int.reduceLT, Int.reduceToNat, Int.reduceAdd, Int.reduceSub, Int.reduceMul, Int.reduceEq, w1, w2, v1, v2, v3, v4, v5, v6, v7, v8, zz]
  refine call_of (p4 _ _) ?_
  simp only [↓R1, R2, R3, R4, TY, reduceIte, Nat.reduceEqDiff, Nat.reduceAdd, Nat.reduceMul, Nat.reduceLT, Nat.reduceLeDiff, reduceCtorEq, decide_true, decide_false, Int.reduceLE, Int.reduceLT, Int.reduceToNat, Int.reduceAdd, Int.reduceSub, Int.reduceMul, Int.reduceEq, w1, w2, v1, v2, v3, v4, v5, v6, v7, v8, zz]
  refine call_of (p5 _ _) ?_
  simp only [↓R1, R2, R3, R4, TY, reduceIte, Nat.reduceEqDiff, Nat.reduceAdd, Nat.reduceMul, Nat.reduceLT, Nat.reduceLeDiff, reduceCtorEq, decide_true, decide_false, Int.reduceLE, Int.reduceLT, Int.reduceToNat, Int.reduceAdd, Int.reduceSub, Int.reduceMul, Int.reduceEq, w1, w2, v1, v2, v3, v4, v5, v6, v7, v8, zz]
  refine Ended.modOne (Mod.put (Mod.refl hA) hlt fun v hv => ?_) (fun i hi => ?_) (Nat.le_refl _) ?_ (Nat.le_refl _) fun u hu => ?_
  · simp only [List.mem_cons, List.not_mem_nil, or_false] at hv
    subst hv
    exact hrb hA
  · rw [Hp.push_blk, if_neg (by simp only [Hp.put_next]; omega)]
  · exact push_at rfl
  · simp only [List.map_cons, List.map_nil, List.flatten_cons, List.flatten_nil, vC_def, List.append_nil, List.cons_append, List.nil_append, List.mem_cons, List.not_mem_nil, or_false] at hu
    rcases hu with rfl | rfl | rfl | rfl | rfl | rfl | rfl | rfl | rfl | rfl | rfl | rfl | rfl | rfl | rfl | rfl | rfl | rfl | rfl | rfl | rfl | rfl | rfl | rfl | rfl | rfl | rfl | rfl | rfl | rfl <;> exact RB.zc rfl
set_option maxHeartbeats 8000000 in
theorem mpoly_3 {xs : List Int} {sv : Value} {id : Nat} (hk : nxt xs.tail.tail 4 = 3) (hx : In64 xs) (hs : Sl A 1 sv (xs.map iC)) (hb : A.blk id = some (.row [sv] 0 1)) (hid : fl ≤ id) (hl : xs.length ≤ 9223372036854775807) (hne : ∀ a n c, sv = .slice (some a) n c → a.block ≠ id) :
    Sound Tryz.prog G 53 [.pointer (some ⟨id, 0, some 0⟩)] fl A (.slice (some ⟨A.next, 0, some 0⟩) (mpoly xs).length (mpoly xs).length) ((A.put id (.row [stl (stl (stl sv))] 0 1)).push (.row ((mpoly xs).map vC).flatten 0 6)) := by
  have hw := nxt_range (xs := xs) (n := 6) (by decide)
  have hh := nxt_range (xs := xs.tail) (n := 6) (by decide)
  have ht := nxt_range (xs := xs.tail.tail.tail) (n := 2 * (1 + nxt xs 6) + 1) (by omega)
  have n1 := snext (G := G) (fl := fl) (A := A) (n := 6) (by decide) (by decide) hx hs hb hid hl
  have n2 := snext2 (G := G) (fl := fl) (A := A) (n := 6) (by decide) (by decide) hx.tail hs.stl hid (by have := xs.length_tail; omega) (stl_blk hne)
  have n3 := snext2 (G := G) (fl := fl) (A := A) (n := 4) (by decide) (by decide) hx.tail.tail hs.stl.stl hid (by have := xs.length_tail; have := xs.tail.length_tail; omega) (stl_blk (stl_blk hne))
  have n4 := snext2 (G := G) (fl := fl) (A := A) (n := 2 * (1 + nxt xs 6) + 1) (by omega) (by omega) hx.tail.tail.tail hs.stl.stl.stl hid (by have := xs.length_tail; have := xs.tail.length_tail; have := xs.tail.tail.length_tail; omega) (stl_blk (stl_blk (stl_blk hne)))
  have hrb : ∀ hA : Hok fl A, RB A.next (stl (stl (stl sv))) := fun hA => (hs.stl.stl.stl).rb hA
  unfold mpoly
  rw [hk] at n3 ⊢
  have w1 : IntKind.i64.wrap (1 + nxt xs 6) = 1 + nxt xs 6 := wrapI (by omega)
  have w2 : IntKind.i64.wrap (1 + nxt xs.tail 6) = 1 + nxt xs.tail 6 := wrapI (by omega)
  generalize nxt xs.tail.tail.tail (2 * (1 + nxt xs 6) + 1) = t at *
  generalize nxt xs 6 = w0 at *
  generalize nxt xs.tail 6 = h0 at *
  have p1 := fun fl A => mat_ok (G := G) (fl := fl) (A := A) (x := -(1 + w0)) (y := 0) (by omega) (by omega) (by omega) (by omega)
  have p2 := fun fl A => mat_ok (G := G) (fl := fl) (A := A) (x := 0) (y := -(1 + h0)) (by omega) (by omega) (by omega) (by omega)
  have p3 := fun fl A => mat_ok (G := G) (fl := fl) (A := A) (x := (1 + w0)) (y := 0) (by omega) (by omega) (by omega) (by omega)
  have p4 := fun fl A => mat_ok (G := G) (fl := fl) (A := A) (x := 0) (y := (1 + h0)) (by omega) (by omega) (by omega) (by omega)
  have v1 : IntKind.i64.wrap (0 - (1 + w0)) = -(1 + w0) := by rw [wrapI (by omega)]; omega
  have v2 : IntKind.i64.wrap (0 - (1 + h0)) = -(1 + h0) := by rw [wrapI (by omega)]; omega
  have v3 : IntKind.i64.wrap (-(1 + w0) - 1) = -(1 + w0) - 1 := wrapI (by omega)
  have v4 : IntKind.i64.wrap (-(1 + h0) - 1) = -(1 + h0) - 1 := wrapI (by omega)
  have v5 : IntKind.i64.wrap (1 + w0 + 1) = 1 + w0 + 1 := wrapI (by omega)
  have v6 : IntKind.i64.wrap (2 * (1 + w0)) = 2 * (1 + w0) := wrapI (by omega)
  have v7 : IntKind.i64.wrap (2 * (1 + w0) + 1) = 2 * (1 + w0) + 1 := wrapI (by omega)
  have v8 : IntKind.i64.wrap (t - (1 + w0)) = t - (1 + w0) := wrapI (by omega)
  have zz : zl [Value.bool false, .string { data := #[] }, .string { data := #[] }, .bool false, .string { data := #[] }, .string { data := #[] }] 24 = [Value.bool false, .string { data := #[] }, .string { data := #[] }, .bool false, .string { data := #[] }, .string { data := #[] }, Value.bool false, .string { data := #[] }, .string { data := #[] }, .bool false, .string { data := #[] }, .string { data := #[] }, Value.bool false, .string { data := #[] }, .string { data := #[] }, .bool false, .string { data := #[] }, .string { data := #[] }, Value.bool false, .string { data := #[] }, .string { data := #[] }, .bool false, .string { data := #[] }, .string { data := #[] }] := rfl
  unfold mp
  simp only [reduceIte, Int.reduceEq, qat]
  generalize q4 = Q at *
  simp only [prV_def] at p1 p2 p3 p4
  refine Sound.of mixed Tryz.func53 Tryz.ntmps53 Tryz.results53 (by kernel_rfl) rfl (by kernel_rfl) (by simp) fun hA => ?_
  have hlt := hA.lt hb
  simp only [↓R1, R2, R3, R4, TY, reduceIte, Nat.reduceEqDiff, Nat.reduceAdd, Nat.reduceMul, Nat.reduceLT, Nat.reduceLeDiff, reduceCtorEq, decide_true, decide_false, Int.reduceLE, Int.reduceLT, Int.reduceToNat, Int.reduceAdd, Int.reduceSub, Int.reduceMul, Int.reduceEq, w1, w2, v1, v2, v3, v4, v5, v6, v7, v8, zz]
  refine call_of (n1) ?_
  simp only [↓R1, R2, R3, R4, TY, reduceIte, Nat.reduceEqDiff, Nat.reduceAdd, Nat.reduceMul, Nat.reduceLT, Nat.reduceLeDiff, reduceCtorEq, decide_true, decide_false, Int.reduceLE, Int.reduceLT, Int.reduceToNat, Int.reduceAdd, Int.reduceSub, Int.reduceMul, Int.reduceEq, w1, w2, v1, v2, v3, v4, v5, v6, v7, v8, zz]
  refine call_of (n2) ?_
  simp only [↓R1, R2, R3, R4, TY, reduceIte, Nat.reduceEqDiff, Nat.reduceAdd, Nat.reduceMul, Nat.reduceLT, Nat.reduceLeDiff, reduceCtorEq, decide_true, decide_false, Int.reduceLE, Int.reduceLT, Int.reduceToNat, Int.reduceAdd, Int.reduceSub, Int.reduceMul, Int.reduceEq, w1, w2, v1, v2, v3, v4, v5, v6, v7, v8, zz]
  refine call_of (n3) ?_
  simp only [↓R1, R2, R3, R4, TY, reduceIte, Nat.reduceEqDiff, Nat.reduceAdd, Nat.reduceMul, Nat.reduceLT, Nat.reduceLeDiff, reduceCtorEq, decide_true, decide_false, Int.reduceLE, Int.reduceLT, Int.reduceToNat, Int.reduceAdd, Int.reduceSub, Int.reduceMul, Int.reduceEq, w1, w2, v1, v2, v3, v4, v5, v6, v7, v8, zz]
  refine call_of (p1 _ _) ?_
  simp only [↓R1, R2, R3, R4, TY, reduceIte, Nat.reduceEqDiff, Nat.reduceAdd, Nat.reduceMul, Nat.reduceLT, Nat.reduceLeDiff, reduceCtorEq, decide_true, decide_false, Int.reduceLE, Int.reduceLT, Int.reduceToNat, Int.reduceAdd, Int.reduceSub, Int.reduceMul, Int.reduceEq, w1, w2, v1, v2, v3, v4, v5, v6, v7, v8, zz]
  refine call_of (p2 _ _) ?_
  simp only [↓R1, R2, R3, R4, TY, reduceIte, Nat.reduceEqDiff, Nat.reduceAdd, Nat.reduceMul, Nat.reduceLT, Nat.reduceLeDiff, reduceCtorEq, decide_true, decide_false, Int.reduceLE, Int.reduceLT, Int.reduceToNat, Int.reduceAdd, Int.reduceSub, Int.reduceMul, Int.reduceEq, w1, w2, v1, v2, v3, v4, v5, v6, v7, v8, zz]
  refine call_of (p3 _ _) ?_
  simp only [↓R1, R2, R3, R4, TY, reduceIte, Nat.reduceEqDiff, Nat.reduceAdd, Nat.reduceMul, Nat.reduceLT, Nat.reduceLeDiff, reduceCtorEq, decide_true, decide_false, Int.reduceLE, Int.reduceLT, Int.reduceToNat, Int.reduceAdd, Int.reduceSub, Int.reduceMul, Int.reduceEq, w1, w2, v1, v2, v3, v4, v5, v6, v7, v8, zz]
  refine call_of (p4 _ _) ?_
  simp only [↓R1, R2, R3, R4, TY, reduceIte, Nat.reduceEqDiff, Nat.reduceAdd, Nat.reduceMul, Nat.reduceLT, Nat.reduceLeDiff, reduceCtorEq, decide_true, decide_false, Int.reduceLE, Int.reduceLT, Int.reduceToNat, Int.reduceAdd, Int.reduceSub, Int.reduceMul, Int.reduceEq, w1, w2, v1, v2, v3, v4, v5, v6, v7, v8, zz]
  refine Ended.modOne (Mod.put (Mod.refl hA) hlt fun v hv => ?_) (fun i hi => ?_) (Nat.le_refl _) ?_ (Nat.le_refl _) fun u hu => ?_
  · simp only [List.mem_cons, List.not_mem_nil, or_false] at hv
    subst hv
    exact hrb hA
  · rw [Hp.push_blk, if_neg (by simp only [Hp.put_next]; omega)]
  · exact push_at rfl
  · simp only [List.map_cons, List.map_nil, List.flatten_cons, List.flatten_nil, vC_def, List.append_nil, List.cons_append, List.nil_append, List.mem_cons, List.not_mem_nil, or_false] at hu
    rcases hu with rfl | rfl | rfl | rfl | rfl | rfl | rfl | rfl | rfl | rfl | rfl | rfl | rfl | rfl | rfl | rfl | rfl | rfl | rfl | rfl | rfl | rfl | rfl | rfl <;> exact RB.zc rfl
end
end Go.Proofs.YthclikeipdplpaaGreatDoor.Ab

/- Polygons: frames of lists, Has, Area, Support; gantmake.Poly; the fact about package poly. -/
namespace Go.Proofs.YthclikeipdplpaaGreatDoor.Ab
open Go.RowKit
set_option linter.unusedVariables false
set_option linter.unusedSimpArgs false
set_option maxRecDepth 100000

theorem pr0_len : pr0.length = 6 := rfl
theorem vC_len (p : V2) : (vC p).length = 6 := rfl
theorem set_chunk (a b c d e f : Value) : ∀ (css : List (List Value)) (i : Nat), (∀ x ∈ css, x.length = 6) → i < css.length →
    (((((css.flatten.set (i * 6) a).set (i * 6 + 1) b).set (i * 6 + 2) c).set (i * 6 + 3) d).set (i * 6 + 4) e).set (i * 6 + 5) f = (css.set i [a, b, c, d, e, f]).flatten
  | [], i, _, hi => by simp at hi
  | x :: xs, i, hl, hi => by
    have hx : x.length = 6 := hl x (by simp)
    match x, hx with
    | [x0, x1, x2, x3, x4, x5], _ =>
      cases i with
      | zero => simp
      | succ i =>
        have ih := set_chunk a b c d e f xs i (fun y hy => hl y (by simp [hy])) (by simpa using hi)
        have h6 : ∀ j, (i + 1) * 6 + j = i * 6 + j + 1 + 1 + 1 + 1 + 1 + 1 := fun j => by omega
        rw [show (i + 1) * 6 = i * 6 + 1 + 1 + 1 + 1 + 1 + 1 by omega]
        simp only [List.flatten_cons, List.cons_append, List.nil_append, List.set_cons_succ, show i * 6 + 1 + 1 + 1 + 1 + 1 + 1 + 1 = i * 6 + 1 + 1 + 1 + 1 + 1 + 1 + 1 from rfl]
        rw [ih]
theorem flt_len {n : Nat} : ∀ {css : List (List Value)}, (∀ x ∈ css, x.length = n) → css.flatten.length = css.length * n
  | [], _ => by simp
  | x :: xs, h => by
    rw [List.flatten_cons, List.length_append, h x (by simp), flt_len fun y hy => h y (by simp [hy]), List.length_cons, Nat.succ_mul]; omega
/-- So many of the first ones done. -/
def part (n i : Nat) (f : Nat → List Value) : List (List Value) := (List.range n).map fun j => if j < i then f j else pr0
theorem part_length {n i : Nat} {f : Nat → List Value} : (part n i f).length = n := by simp [part]
theorem part_6 {n i : Nat} {f : Nat → List Value} (h : ∀ j, (f j).length = 6) : ∀ x ∈ part n i f, x.length = 6 := by
  intro x hx
  obtain ⟨j, _, rfl⟩ := List.mem_map.1 hx
  show (if j < i then f j else pr0).length = 6
  split
  · exact h j
  · rfl
theorem part_set {n i : Nat} {f : Nat → List Value} (hi : i < n) : (part n i f).set i (f i) = part n (i + 1) f := by
  apply List.ext_getElem?
  intro j
  rw [List.getElem?_set]
  by_cases hj : j < n
  · have e : ∀ m, (part n m f)[j]? = some (if j < m then f j else pr0) := fun m => by simp [part, hj]
    rw [e, e]
    by_cases hij : i = j
    · subst hij; rw [if_pos rfl, if_pos (by rw [part_length]; exact hi), if_pos (by omega)]
    · rw [if_neg hij]
      by_cases h2 : j < i
      · rw [if_pos h2, if_pos (by omega)]
      · rw [if_neg h2, if_neg (by omega)]
  · have e : ∀ m, (part n m f)[j]? = none := fun m => List.getElem?_eq_none (by rw [part_length]; omega)
    rw [e, e, if_neg (by omega)]
theorem part_all {l : List V2} {g : V2 → V2} : part l.length l.length (fun j => vC (g (pget l j))) = (l.map g).map vC := by
  apply List.ext_getElem?
  intro j
  by_cases hj : j < l.length
  · simp [part, hj, pget]
  · rw [List.getElem?_eq_none (by rw [part_length]; omega), List.getElem?_eq_none (by simp; omega)]
theorem zl_part {n : Nat} {f : Nat → List Value} : zl [Value.bool false, .string { data := #[] }, .string { data := #[] }, .bool false, .string { data := #[] }, .string { data := #[] }] (n * 6) = (part n 0 f).flatten := by
  apply List.ext_getElem?
  intro j
  have hl : ∀ x ∈ part n 0 f, x.length = 6 := by
    intro x hx
    obtain ⟨i, _, rfl⟩ := List.mem_map.1 hx
    rfl
  by_cases hj : j < n * 6
  · have e1 : (part n 0 f)[j / 6]? = some pr0 := by simp [part, show j / 6 < n by omega]
    have e2 : pr0[j % 6]? = some (pr0[j % 6]'(by rw [pr0_len]; omega)) := List.getElem?_eq_getElem _
    have := flatten_get hl e1 e2
    rw [show j / 6 * 6 + j % 6 = j by omega] at this
    rw [this]
    simp only [zl, List.getElem?_map, List.getElem?_range hj, Option.map_some]
    have hlen : ([Value.bool false, .string { data := #[] }, .string { data := #[] }, .bool false, .string { data := #[] }, .string { data := #[] }] : List Value).length = 6 := rfl
    rw [hlen]
    show some (pr0.getD (j % 6) default) = _
    rw [List.getD_eq_getElem?_getD, e2]
    rfl
  · rw [List.getElem?_eq_none (by simp [zl]; omega), List.getElem?_eq_none (by rw [flt_len hl, part_length]; omega)]
theorem vC_rb (n : Nat) (p : V2) : ∀ u ∈ vC p, RB n u := by
  intro u hu
  simp only [vC_def, List.mem_cons, List.not_mem_nil, or_false] at hu
  rcases hu with rfl | rfl | rfl | rfl | rfl | rfl <;> exact RB.zc rfl
theorem vCs_rb (n : Nat) (l : List V2) : ∀ u ∈ (l.map vC).flatten, RB n u := by
  intro u hu
  obtain ⟨c, hc, hu⟩ := List.mem_flatten.1 hu
  obtain ⟨p, _, rfl⟩ := List.mem_map.1 hc
  exact vC_rb n p u hu
theorem sl_push {A : Hp} {sz : Nat} {css : List (List Value)} (h : ∀ c ∈ css, c.length = sz) : Sl (A.push (.row css.flatten 0 sz)) sz (.slice (some ⟨A.next, 0, some 0⟩) css.length css.length) css :=
  ⟨h, .inr (.inr ⟨⟨A.next, 0, some 0⟩, css.length, css.length, 0, css.flatten, rfl, rfl, rfl, push_at rfl, fun j x hj => by rw [Nat.zero_add]; exact hj⟩)⟩
theorem sl_vC {A : Hp} (l : List V2) : Sl (A.push (.row (l.map vC).flatten 0 6)) 6 (.slice (some ⟨A.next, 0, some 0⟩) l.length l.length) (l.map vC) := by
  have := sl_push (A := A) (sz := 6) (css := l.map vC) (fun c hc => by obtain ⟨p, _, rfl⟩ := List.mem_map.1 hc; rfl)
  rwa [List.length_map] at this
def Fz (x y : Rat) (o : Option Rat) (j k : Nat) : Prop := Rz x j ∧ Rz y j ∧ Rz (o.getD 0) k

section
variable {G : Gl} {fl : Nat} {A : Hp}

end
end Go.Proofs.YthclikeipdplpaaGreatDoor.Ab
