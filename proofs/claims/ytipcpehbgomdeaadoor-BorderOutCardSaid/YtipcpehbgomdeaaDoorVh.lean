/- Turns: comparison, turned, turnBegun. -/
import Derived.Test.YtipcpehbgomdeaaDoorVc
import Derived.Test.YtipcpehbgomdeaaDoorUe
namespace Go.Proofs.YtipcpehbgomdeaaDoor.Ab
open Go.RowKit
set_option linter.unusedVariables false
set_option linter.unusedSimpArgs false
set_option maxRecDepth 100000

def trn (x : Int) : Option Rat := if below x 5 = 0 then none else some (mrat x)
theorem trn_rz (x : Int) : Rz ((trn x).getD 0) 1 := by
  unfold trn; split
  · exact rz_zero
  · exact mrat_rz x
theorem begun_turn : tcos (some (((1 : Int) : Rat) / ((2 : Int) : Rat))) = ((3 : Int) : Rat) / ((5 : Int) : Rat) ∧ tsin (some (((1 : Int) : Rat) / ((2 : Int) : Rat))) = ((4 : Int) : Rat) / ((5 : Int) : Rat) := by decide +kernel

section
variable {G : Gl} {fl : Nat} {A : Hp}

end
end Go.Proofs.YtipcpehbgomdeaaDoor.Ab

/- Turns: plain facts. -/
namespace Go.Proofs.YtipcpehbgomdeaaDoor.Ab
open Go.RowKit
set_option linter.unusedVariables false
set_option linter.unusedSimpArgs false
set_option maxRecDepth 100000

theorem tnV_def (o : Option Rat) : tnV o = .agg #[.bool o.isNone, .bool (decide ((o.getD 0).num < 0)), .string (S (nb (o.getD 0).num.natAbs)), .string (S (nb (o.getD 0).den))] := rfl
theorem tthen_comm (a b : Option Rat) : tthen a b = tthen b a := by
  cases a <;> cases b <;> simp only [tthen] 
  rename_i x y
  rw [Rat.mul_comm x y, Rat.add_comm x y]
theorem tthen_zero (a : Option Rat) : tthen a (some 0) = a := by
  cases a with
  | none => simp [tthen, topp]
  | some x => simp only [tthen]; rw [if_neg (by grind)]; congr 1; grind
theorem tthen_back (a : Option Rat) : tthen a (tback a) = some 0 := by
  cases a with
  | none => simp [tthen, tback]
  | some x => simp only [tthen, tback, Option.map]; have := one_sq x; rw [if_neg (by grind)]; congr 1; grind
theorem tsq (a : Option Rat) : tcos a * tcos a + tsin a * tsin a = 1 := by
  cases a with
  | none => simp only [tcos, tsin, Option.getD]; grind
  | some x => simp only [tcos, tsin, Option.getD]; have := one_sq x; grind
theorem tcos_add (a b : Option Rat) : tcos (tthen a b) = tcos a * tcos b - tsin a * tsin b := by
  match a, b with
  | none, none => simp only [tthen, tcos, tsin, Option.getD]; grind
  | none, some y => 
    have := one_sq y
    simp only [tthen, topp]; split <;> simp only [tcos, tsin, Option.getD]
    · rename_i h; subst h; grind
    · have h2 : 1 + (-1 / y) * (-1 / y) ≠ 0 := one_sq _
      grind
  | some y, none => 
    have := one_sq y
    simp only [tthen, topp]; split <;> simp only [tcos, tsin, Option.getD]
    · rename_i h; subst h; grind
    · have h2 : 1 + (-1 / y) * (-1 / y) ≠ 0 := one_sq _
      grind
  | some x, some y => 
    have h1 := one_sq x
    have h2 := one_sq y
    simp only [tthen]; split <;> simp only [tcos, tsin, Option.getD]
    · rename_i h; grind
    · have h3 : 1 + ((x + y) / (1 - x * y)) * ((x + y) / (1 - x * y)) ≠ 0 := one_sq _
      grind
theorem tsin_add (a b : Option Rat) : tsin (tthen a b) = tsin a * tcos b + tcos a * tsin b := by
  match a, b with
  | none, none => simp only [tthen, tcos, tsin, Option.getD]; grind
  | none, some y => 
    have := one_sq y
    simp only [tthen, topp]; split <;> simp only [tcos, tsin, Option.getD]
    · rename_i h; subst h; grind
    · have h2 : 1 + (-1 / y) * (-1 / y) ≠ 0 := one_sq _
      grind
  | some y, none => 
    have := one_sq y
    simp only [tthen, topp]; split <;> simp only [tcos, tsin, Option.getD]
    · rename_i h; subst h; grind
    · have h2 : 1 + (-1 / y) * (-1 / y) ≠ 0 := one_sq _
      grind
  | some x, some y => 
    have h1 := one_sq x
    have h2 := one_sq y
    simp only [tthen]; split <;> simp only [tcos, tsin, Option.getD]
    · rename_i h; grind
    · have h3 : 1 + ((x + y) / (1 - x * y)) * ((x + y) / (1 - x * y)) ≠ 0 := one_sq _
      grind
/-- cosine and sine know the turn -/
theorem tcs_inj {a b : Option Rat} (hc : tcos a = tcos b) (hs : tsin a = tsin b) : a = b := by
  match a, b with
  | none, none => rfl
  | none, some y => have := one_sq y; simp only [tcos, tsin, Option.getD] at hc hs; exfalso; grind
  | some y, none => have := one_sq y; simp only [tcos, tsin, Option.getD] at hc hs; exfalso; grind
  | some x, some y => 
    have h1 := one_sq x
    have h2 := one_sq y
    simp only [tcos, tsin, Option.getD] at hc hs
    have e1 : (x + x) / (1 + x * x) = x * (1 + (1 - x * x) / (1 + x * x)) := by grind
    have e2 : (y + y) / (1 + y * y) = y * (1 + (1 - x * x) / (1 + x * x)) := by rw [hc]; grind
    have e3 : 1 + (1 - x * x) / (1 + x * x) ≠ 0 := by grind
    congr 1
    grind
theorem tthen_assoc (a b c : Option Rat) : tthen (tthen a b) c = tthen a (tthen b c) := by
  apply tcs_inj
  · simp only [tcos_add, tsin_add]; grind
  · simp only [tcos_add, tsin_add]; grind

end Go.Proofs.YtipcpehbgomdeaaDoor.Ab
