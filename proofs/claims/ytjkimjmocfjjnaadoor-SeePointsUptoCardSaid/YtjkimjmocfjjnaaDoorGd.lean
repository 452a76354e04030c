/- The reference's functions for poses. -/
import Derived.Test.YtjkimjmocfjjnaaDoorGc
namespace Go.Proofs.YtjkimjmocfjjnaaDoor.Ab
open Go.RowKit
set_option linter.unusedVariables false
set_option linter.unusedSimpArgs false
set_option maxRecDepth 100000

theorem rcmp_lt_iff {p q : Rat} : rcmp p q < 0 ↔ p < q := by
  unfold rcmp
  split
  · rename_i h; simp [h]
  · rename_i h; split <;> simp [h]
theorem rcmp_gt_iff {p q : Rat} : 0 < rcmp p q ↔ q < p := by
  unfold rcmp
  split
  · rename_i h; simp; grind
  · split
    · rename_i h; simp [h]
    · rename_i h; simp at h ⊢; exact h
theorem rsign_gt_iff {q : Rat} : 0 < rsign q ↔ 0 < q := by
  rw [rsign_eq]
  split
  · rename_i h; rw [h]; decide
  · split
    · rename_i h; simp; grind
    · simp; grind
theorem w_1 : IntKind.i64.wrap 1 = 1 := wrapI (by decide)
theorem w_2 : IntKind.i64.wrap 2 = 2 := wrapI (by decide)
theorem w_3 : IntKind.i64.wrap 3 = 3 := wrapI (by decide)
theorem w_4 : IntKind.i64.wrap 4 = 4 := wrapI (by decide)
theorem ex9_0 (a b c d e f g h i : Value) : (#[a, b, c, d, e, f, g, h, i] : Array Value).extract 0 3 = #[a, b, c] := rfl
theorem ex9_1 (a b c d e f g h i : Value) : (#[a, b, c, d, e, f, g, h, i] : Array Value).extract 3 6 = #[d, e, f] := rfl
theorem ex9_2 (a b c d e f g h i : Value) : (#[a, b, c, d, e, f, g, h, i] : Array Value).extract 6 9 = #[g, h, i] := rfl
theorem n_2 : ((2 : Nat) : Int) = 2 := rfl
theorem n_3 : ((3 : Nat) : Int) = 3 := rfl
theorem n_4 : ((4 : Nat) : Int) = 4 := rfl
section
variable {G : Gl} {fl : Nat} {A : Hp}

end
end Go.Proofs.YtjkimjmocfjjnaaDoor.Ab
