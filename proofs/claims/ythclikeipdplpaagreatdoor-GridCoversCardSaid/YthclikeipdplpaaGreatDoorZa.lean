/- Cells of a grid: plain facts; floors, sides. -/
import Derived.Test.YthclikeipdplpaaGreatDoorYr
import Derived.Test.YthclikeipdplpaaGreatDoorVo
namespace Go.Proofs.YthclikeipdplpaaGreatDoor.Ab
open Go.RowKit
set_option linter.unusedVariables false
set_option linter.unusedSimpArgs false
set_option maxRecDepth 100000

/-- A cell: X and Y. -/
abbrev Ce := Int × Int
def cC (c : Ce) : List Value := [.int .i64 c.1, .int .i64 c.2]
/-- A row of cells, and rows of cells. -/
def crow (x0 y : Int) : Nat → List Ce
  | 0 => []
  | i + 1 => crow x0 y i ++ [(x0 + i, y)]
def gcl (x0 y0 : Int) (nx : Nat) : Nat → List Ce
  | 0 => []
  | j + 1 => gcl x0 y0 nx j ++ crow x0 (y0 + j) nx
theorem mem_crow {x0 y : Int} {c : Ce} : ∀ n, c ∈ crow x0 y n ↔ (c.2 = y ∧ x0 ≤ c.1 ∧ c.1 < x0 + n)
  | 0 => by
    simp only [crow, List.not_mem_nil, false_iff]
    omega
  | n + 1 => by
    unfold crow
    rw [List.mem_append, mem_crow n, List.mem_singleton]
    constructor
    · rintro (h | h)
      · omega
      · subst h
        exact ⟨rfl, by show x0 ≤ x0 + (n : Int); omega, by show x0 + (n : Int) < x0 + ((n + 1 : Nat) : Int); omega⟩
    · intro h
      by_cases e : c.1 = x0 + n
      · right
        exact Prod.ext e h.1
      · left; omega
theorem mem_gcl {x0 y0 : Int} {nx : Nat} {c : Ce} : ∀ n, c ∈ gcl x0 y0 nx n ↔ (x0 ≤ c.1 ∧ c.1 < x0 + nx ∧ y0 ≤ c.2 ∧ c.2 < y0 + n)
  | 0 => by
    simp only [gcl, List.not_mem_nil, false_iff]
    omega
  | n + 1 => by
    unfold gcl
    rw [List.mem_append, mem_gcl n, mem_crow]
    omega
theorem crow_len {x0 y : Int} : ∀ n, (crow x0 y n).length = n
  | 0 => rfl
  | n + 1 => by unfold crow; simp [crow_len n]
theorem gcl_len {x0 y0 : Int} {nx : Nat} : ∀ n, (gcl x0 y0 nx n).length = n * nx
  | 0 => by simp [gcl]
  | n + 1 => by unfold gcl; rw [List.length_append, gcl_len n, crow_len, Nat.succ_mul]
/-- The order of cells. -/
def clt (a b : Ce) : Prop := a.2 < b.2 ∨ (a.2 = b.2 ∧ a.1 < b.1)
theorem crow_sorted {x0 y : Int} : ∀ n, (crow x0 y n).Pairwise clt
  | 0 => List.Pairwise.nil
  | n + 1 => by
    unfold crow
    rw [List.pairwise_append]
    refine ⟨crow_sorted n, List.pairwise_singleton _ _, fun a ha b hb => ?_⟩
    rw [List.mem_singleton] at hb
    subst hb
    rw [mem_crow] at ha
    exact .inr ⟨ha.1, ha.2.2⟩
theorem gcl_sorted {x0 y0 : Int} {nx : Nat} : ∀ n, (gcl x0 y0 nx n).Pairwise clt
  | 0 => List.Pairwise.nil
  | n + 1 => by
    unfold gcl
    rw [List.pairwise_append]
    refine ⟨gcl_sorted n, crow_sorted _, fun a ha b hb => ?_⟩
    rw [mem_gcl] at ha
    rw [mem_crow] at hb
    exact .inl (by omega)
/-- The cell before the first one that meets a number, and so on. -/
def c0 (p : Rat) : Int := -(-p).floor - 1
theorem floor_le' (q : Rat) : ((q.floor : Int) : Rat) ≤ q := Rat.floor_le q
theorem lt_floor' (q : Rat) : q < ((q.floor : Int) : Rat) + 1 := by
  have := Rat.lt_floor_add_one q
  exact_mod_cast this
theorem c0_lt (p : Rat) : ((c0 p : Int) : Rat) < p ∧ p ≤ ((c0 p : Int) : Rat) + 1 := by
  have h1 := floor_le' (-p)
  have h2 := lt_floor' (-p)
  have e : ((c0 p : Int) : Rat) = -(((-p).floor : Int) : Rat) - 1 := by
    unfold c0; rw [Rat.intCast_sub, Rat.intCast_neg]; rfl
  rw [e]
  constructor <;> grind
theorem int_lt_of {m n : Int} (h : ((m : Int) : Rat) < ((n : Int) : Rat)) : m < n := Rat.intCast_lt_intCast.1 h
theorem sides_le {p q : Rat} (h : p ≤ q) : c0 p ≤ q.floor := by
  have h1 := (c0_lt p).1
  have h2 := lt_floor' q
  have : c0 p < q.floor + 1 := int_lt_of (by rw [Rat.intCast_add]; have e : ((1 : Int) : Rat) = 1 := rfl; rw [e]; grind)
  omega
theorem floor_8 {q : Rat} (h1 : -8 ≤ q) (h2 : q ≤ 8) : -8 ≤ q.floor ∧ q.floor ≤ 8 := by
  constructor
  · exact Rat.le_floor_iff.2 (by have e : ((-8 : Int) : Rat) = -8 := rfl; rw [e]; exact h1)
  · have h3 := floor_le' q
    have : q.floor < 9 := int_lt_of (by have e : ((9 : Int) : Rat) = 9 := rfl; rw [e]; grind)
    omega
theorem c0_8 {q : Rat} (h1 : -8 ≤ q) (h2 : q ≤ 8) : -9 ≤ c0 q ∧ c0 q ≤ 7 := by
  have := floor_8 (q := -q) (by grind) (by grind)
  unfold c0; omega
end Go.Proofs.YthclikeipdplpaaGreatDoor.Ab
