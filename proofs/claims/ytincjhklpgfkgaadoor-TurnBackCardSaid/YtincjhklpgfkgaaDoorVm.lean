/- Turns back: plain facts. -/
import Derived.Test.YtincjhklpgfkgaaDoorVg
namespace Go.Proofs.YtincjhklpgfkgaaDoor.Ab
open Go.RowKit
set_option linter.unusedVariables false
set_option linter.unusedSimpArgs false
set_option maxRecDepth 100000

theorem tcos_back (o : Option Rat) : tcos (tback o) = tcos o := by
  cases o with
  | none => rfl
  | some t => simp only [tback, Option.map, tcos]; grind
theorem tsin_back (o : Option Rat) : tsin (tback o) = -tsin o := by
  cases o with
  | none => simp only [tback, Option.map, tsin, Option.getD]; grind
  | some t => simp only [tback, Option.map, tsin, Option.getD]; have := one_sq t; grind

end Go.Proofs.YtincjhklpgfkgaaDoor.Ab
