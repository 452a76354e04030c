/- Heaps that have grown; counting loops; the end of a body that leaves nothing behind. -/
import Derived.Test.YtpaffoiiipgkeaaDoorAb17
namespace Go.Proofs.YtpaffoiiipgkeaaDoor.Ab
open Go.RowKit
set_option linter.unusedVariables false
set_option linter.unusedSimpArgs false
set_option linter.defProp false

/-- B has the blocks of A below n. -/
structure Xt (n : Nat) (A B : Hp) : Prop where
  blk : ∀ id, id < n → B.blk id = A.blk id
  next : n ≤ B.next
theorem Xt.refl (A : Hp) : Xt A.next A A := ⟨fun _ _ => rfl, Nat.le_refl _⟩
theorem Xt.push {n : Nat} {A B : Hp} (h : Xt n A B) (b : Blk) : Xt n A (B.push b) :=
  ⟨fun id hid => by rw [Hp.push_blk, if_neg (by have := h.next; omega)]; exact h.blk id hid, by have := h.next; rw [Hp.push_next]; omega⟩
theorem Xt.put {n : Nat} {A B : Hp} (h : Xt n A B) {id : Nat} (hid : n ≤ id) (b : Blk) : Xt n A (B.put id b) :=
  ⟨fun i hi => by rw [Hp.put_blk, if_neg (by omega)]; exact h.blk i hi, h.next⟩
theorem Xt.trans {n : Nat} {A B C : Hp} (h : Xt n A B) (k : Xt B.next B C) : Xt n A C :=
  ⟨fun id hid => (k.blk id (Nat.lt_of_lt_of_le hid h.next)).trans (h.blk id hid), Nat.le_trans h.next k.next⟩
theorem Xt.get {n : Nat} {A B : Hp} {G : Gl} (h : Xt n A B) {a : Addr} (ha : a.block < n) : B.get G a = A.get G a := by simp only [Hp.get, h.blk _ ha]
theorem Xt.esz {n : Nat} {A B : Hp} (h : Xt n A B) {id sz : Nat} (ha : id < n) : eszOK B id sz = eszOK A id sz := by simp only [eszOK, h.blk _ ha]
theorem xt_push {n : Nat} {A B : Hp} {b : Blk} (h : Xt n A B) : Xt n A (B.push b) = True := eq_true (h.push b)
theorem xt_put {n id : Nat} {A B : Hp} {b : Blk} (h : Xt n A B) (hid : n ≤ id) : Xt n A (B.put id b) = True := eq_true (h.put hid b)
theorem xt_refl {A : Hp} : Xt A.next A A = True := eq_true (Xt.refl A)

section
variable {P : Program} {G : Gl} {fl : Nat} {τ : Tm} {A : Hp}

theorem floOf_wr {ops : Array Oper} {d : Bool} {o : Oper} (h : isWr (!okRegion P false ops) o = true) : floOf P fl ops d o A = fl := by
  simp [floOf, h]

theorem aadd_block {a : Addr} {k : Nat} : (aadd a k).block = a.block := rfl
theorem aadd_spot {a : Addr} {k : Nat} : (aadd a k).spot = a.spot := rfl
theorem lt_add {a b k : Nat} (h : a < b) : (a < b + k) = True := eq_true (Nat.lt_of_lt_of_le h (Nat.le_add_right _ _))
theorem le_add {a b k : Nat} (h : a ≤ b) : (a ≤ b + k) = True := eq_true (Nat.le_trans h (Nat.le_add_right _ _))
theorem ne_next {a b : Nat} (h : a < b) : (a = b) = False := eq_false (by omega)
theorem ne_next_add {a b k : Nat} (h : a < b) : (a = b + k) = False := eq_false (by omega)
theorem natc_nonneg {n : Nat} : (0 ≤ (n : Int)) = True := eq_true (Int.natCast_nonneg n)
theorem natc_toNat {n : Nat} : ((n : Int)).toNat = n := Int.toNat_natCast n
theorem natc_lt {a b : Nat} : ((a : Int) < (b : Int)) = (a < b) := propext Int.ofNat_lt
theorem natc_le {a b : Nat} : ((a : Int) ≤ (b : Int)) = (a ≤ b) := propext Int.ofNat_le
theorem natc_succ {a : Nat} : ((a : Int) + 1) = ((a + 1 : Nat) : Int) := by omega
theorem natc_eq {a b : Nat} : ((a : Int) = (b : Int)) = (a = b) := propext Int.ofNat_inj

theorem lt_self_add {a k : Nat} : (a < a + k) = (0 < k) := propext ⟨fun h => by omega, fun h => by omega⟩
theorem add_lt_add {a i k : Nat} : (a + i < a + k) = (i < k) := propext ⟨fun h => by omega, fun h => by omega⟩

theorem esz_push {b : Blk} {id sz : Nat} (h : id < A.next) : eszOK (A.push b) id sz = eszOK A id sz := by
  simp only [eszOK, Hp.push_blk, if_neg (show ¬ id = A.next by omega)]
theorem esz_put {b : Blk} {id i sz : Nat} (h : (i = id) = False) : eszOK (A.put id b) i sz = eszOK A i sz := by
  simp only [eszOK, Hp.put_blk, h, if_false]

theorem wrap_succ {j : Nat} (h : j < 9223372036854775807) : IntKind.i64.wrap ((j : Int) + 1) = ((j + 1 : Nat) : Int) := by rw [wrapI (by omega)]; omega

/-- More rules: heaps, counting. -/
def R4 := And.intro @aadd_block (And.intro @aadd_spot (And.intro @get_push_old (And.intro @get_put_other (And.intro @lt_add (And.intro @le_add (And.intro @ne_next (And.intro @ne_next_add (And.intro @natc_nonneg (And.intro @natc_toNat (And.intro @natc_lt (And.intro @natc_le (And.intro @lt_self_add (And.intro @add_lt_add (And.intro @esz_push (And.intro @esz_put (And.intro @Nat.zero_mul (And.intro @Nat.sub_zero (And.intro @Nat.zero_le (And.intro @Nat.le_refl (And.intro @true_or (And.intro @or_true (And.intro @Int.toNat_natCast (And.intro @Nat.lt_irrefl (And.intro @wrap_succ @Nat.mul_one))))))))))))))))))))))))

theorem dec_f {q : Prop} [Decidable q] (h : ¬ q) : false = decide q := (decide_eq_false h).symm
theorem dec_t {q : Prop} [Decidable q] (h : q) : true = decide q := (decide_eq_true h).symm
theorem dec_i {p q : Prop} [Decidable p] [Decidable q] (h : p ↔ q) : decide p = decide q := by by_cases hp : p <;> simp [hp, h.symm] <;> simp_all

/-- A block that is there is below the next. -/
theorem Hok.lt (h : Hok fl A) {id : Nat} {b : Blk} (hb : A.blk id = some b) : id < A.next := by
  rcases Nat.lt_or_ge id A.next with h' | h'
  · exact h'
  · rw [h.wf id h'] at hb; cases hb
theorem Sl.lt {sz n c : Nat} {a : Addr} {css : List (List Value)} (hA : Hok fl A) (h : Sl A sz (.slice (some a) n c) css) : a.block < A.next := by
  rcases h.2 with ⟨h1, rfl⟩ | ⟨a, g, h1, h2, h3, h4, h5⟩ | ⟨a, n, c, g, ds, h1, hn, hg, hb, hr⟩
  · cases h1
  · cases h1; exact h4
  · cases h1; exact hA.lt hb
theorem Sl.xt {B : Hp} {sz : Nat} {v : Value} {css : List (List Value)} (hA : Hok fl A) (h : Sl A sz v css) (x : Xt A.next A B) : Sl B sz v css :=
  h.keep x.next fun a n c e => x.blk _ (by subst e; exact h.lt hA)
theorem Sl.rb {sz : Nat} {v : Value} {css : List (List Value)} (hA : Hok fl A) (h : Sl A sz v css) : RB A.next v := by
  have h0 := h
  rcases h.2 with ⟨h1, rfl⟩ | ⟨a, g, h1, h2, h3, h4, h5⟩ | ⟨a, n, c, g, ds, h1, hn, hg, hb, hr⟩
  · subst h1; exact RB.sl0 _ _
  · subst h1
    exact ⟨.slice (some a) 0 0, .sl h4 (Nat.le_refl _) (Nat.le_refl _) ⟨g, h3, fun cs g e hb => by simp at hb⟩⟩
  · subst h1
    have hlt := h0.lt hA
    exact ⟨.slice (some a) n (max n c), .sl hlt (Nat.le_max_right _ _) (Nat.le_max_left _ _) ⟨g, hg, fun cs g e hb => by simp at hb⟩⟩

/-- The body has ended; nothing that was there has turned, and the result leads nowhere new. -/
theorem Ended.back {B : Hp} {r v : Value} (hA : Hok fl A) (x : Xt A.next A B) (hv : r = v) (hr : RB A.next v) : Ended A r B v A := by
  subst hv
  exact Ended.same hA hr x.blk

/-- A counting loop: slot ti counts from b on, n rounds. -/
def rangeI (J : Nat → Tm → Hp → Prop) (n : Nat) (τ : Tm) (A : Hp) : Prop := ∃ j, j ≤ n ∧ J j τ A
def rangeM (ti : Nat) (b : Int) (n : Nat) (τ : Tm) (A : Hp) : Nat := match τ ti with | some (.int _ x) => n - (x - b).toNat | _ => 0
theorem for_of {c : Code} {K : Exit → Tm → Hp → Prop} (ti : Nat) (b : Int) (n : Nat) (J : Nat → Tm → Hp → Prop) (h0 : J 0 τ A)
    (h : ∀ j τ A, j ≤ n → J j τ A → acode P G fl c τ A (loopK (rangeI J n) (rangeM ti b n) τ A K)) : acode P G fl (.loop c) τ A K :=
  loop_of (rangeI J n) (rangeM ti b n) ⟨0, Nat.zero_le _, h0⟩ fun τ A ⟨j, hj, hJj⟩ => h j τ A hj hJj
theorem for_on {J : Nat → Tm → Hp → Prop} {n j ti : Nat} {b x y : Int} {τ' : Tm} {A' : Hp} {K : Exit → Tm → Hp → Prop} (h1 : τ ti = some (.int .i64 x)) (hx : x = b + j) (hj : j < n)
    (h2 : τ' ti = some (.int .i64 y)) (hy : y = b + (j + 1 : Nat)) (h : J (j + 1) τ' A') : loopK (rangeI J n) (rangeM ti b n) τ A K .normal τ' A' := by
  refine loop_on ⟨j + 1, hj, h⟩ ?_
  simp only [rangeM, h1, h2]
  omega
theorem range_of {c : Code} {K : Exit → Tm → Hp → Prop} (ti n : Nat) (J : Nat → Tm → Hp → Prop) (h0 : J 0 τ A)
    (h : ∀ j τ A, j ≤ n → J j τ A → acode P G fl c τ A (loopK (rangeI J n) (rangeM ti 0 n) τ A K)) : acode P G fl (.loop c) τ A K := for_of ti 0 n J h0 h
theorem range_on {J : Nat → Tm → Hp → Prop} {n j ti : Nat} {τ' : Tm} {A' : Hp} {K : Exit → Tm → Hp → Prop} (h1 : τ ti = some (.int .i64 (j : Nat))) (hj : j < n)
    (h2 : τ' ti = some (.int .i64 ((j + 1 : Nat) : Int))) (h : J (j + 1) τ' A') : loopK (rangeI J n) (rangeM ti 0 n) τ A K .normal τ' A' :=
  for_on h1 (by omega) hj h2 (by omega) h

/-- A row of truth values. -/
def bools (n : Nat) (f : Nat → Bool) : List Value := (List.range n).map fun k => .bool (f k)
theorem bools_length {n : Nat} {f : Nat → Bool} : (bools n f).length = n := by simp [bools]
theorem bools_get {n k : Nat} {f : Nat → Bool} (h : k < n) : (bools n f)[k]? = some (.bool (f k)) := by simp [bools, h]
theorem bools_set {n k : Nat} {f : Nat → Bool} {b : Bool} : (bools n f).set k (.bool b) = bools n (fun i => if i = k then b else f i) := by
  apply List.ext_getElem?
  intro i
  rw [List.getElem?_set]
  by_cases hi : i < n
  · by_cases hk : k = i
    · subst hk; rw [if_pos rfl, if_pos (by rw [bools_length]; exact hi), bools_get hi, if_pos rfl]
    · rw [if_neg hk, bools_get hi, bools_get hi, if_neg (Ne.symm hk)]
  · have h1 : ∀ f, (bools n f)[i]? = none := fun f => List.getElem?_eq_none (by rw [bools_length]; omega)
    rw [h1, h1]
    split
    · rw [bools_length]; rename_i h; subst h; simp [hi]
    · rfl
theorem bools_zero {n : Nat} : List.replicate n (Value.bool false) = bools n (fun _ => false) := by
  apply List.ext_getElem?
  intro i
  by_cases hi : i < n
  · rw [bools_get hi]; simp [hi]
  · rw [List.getElem?_eq_none (by simp; omega), List.getElem?_eq_none (by rw [bools_length]; omega)]
theorem all_rep {n : Nat} {v : Value} {f : Value → Bool} (h : f v = true) : (List.replicate n v).all f = true := by simp [h]
theorem bools_ones {n : Nat} {f : Nat → Bool} {p : Value → Bool} (h : ∀ b, p (.bool b) = true) : (bools n f).all p = true := by simp [bools, h]
end
end Go.Proofs.YtpaffoiiipgkeaaDoor.Ab
