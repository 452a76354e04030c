/-
  No cell of these rows narrows 'for every input' (looked for: loops, veiled, ifaces, maps, wideKeys, modest, calm, conditions, laid).
  DERIVED. THE GIVEN ROWS OF THIS SEAT. 5 by the template 'for every input the law returns true; each argument reads behind the call as it read before'; 0 by the template 'total and deterministic' (their statements: YtjohiapgancocaaTotals.lean).
  GIVEN WITH THE SEED: the statements are not yours to turn. If you find one false, say at which input.
  Laid BY PROGRAM, IN A SANDBOX (cutbox-rows.mjs): the forced cells as the released guide's own fill.sh prints them over the translation e7ae59b3b9d943b1… (all of the seat's roots in one cut). By AI agents, Wed Nov 11 2026. No macro, syntax, notation, axiom, sorry.
-/
import Derived.Test.YtjohiapgancocaaChecked
import GoSem.Claim
import GoSem.ClaimJoined
import GoSem.ClaimMapViews
import Derived.JoinedTies
import Derived.KernelRfl
namespace Go.Proofs.Ytjohiapgancocaa
/- THE CELL 'sum', in the pinned program and in every row, IS THE sha256 OF THE DUMP (.gsa) THAT YtjohiapgancocaaProg.lean LOADS. Nothing in Lean hashes anything: it is a label: what it is worth is what the hold of that sum in a sandbox is worth. -/
noncomputable def Try.pinned : Pinned := { name := "ytjohiapgancocaa", sum := "e7ae59b3b9d943b174540027df9bdacaefe444499b42120efbd5fe24bb2af2e4", checked := Try.checked }
namespace Rows
def none {H : Type} : Left H := { results := [], args := [] }

/-- 'gantlaw4.ToolsFirst': WHATEVER THE INPUT: true; the input reads as it did. -/
def toolsFirstSpec : ChangeSpec := { name := "toolsFirst", fn := fun _ => fun
  | [d1, d2, d3, d4] => { results := [.lit (.bool true)], args := [d1, d2, d3, d4] }
  | _ => none }
def toolsFirstRow : OpenClaim := { program := "ytjohiapgancocaa", sum := "e7ae59b3b9d943b174540027df9bdacaefe444499b42120efbd5fe24bb2af2e4", func := "gantry/gantlaw4.ToolsFirst", spec := "toolsFirst", apart := false }
def ToolsFirstSaid : Prop := toolsFirstRow.holds Try.pinned (OpenSpec.ofChange toolsFirstSpec)

/-- ITS FALSE NEIGHBOUR: 'it returns false'. Refute it at one input. -/
def toolsFirstWrong : ChangeSpec := { name := "toolsFirst", fn := fun _ => fun
  | [d1, d2, d3, d4] => { results := [.lit (.bool false)], args := [d1, d2, d3, d4] }
  | _ => none }
def ToolsFirstWrongFalsely : Prop := toolsFirstRow.holds Try.pinned (OpenSpec.ofChange toolsFirstWrong)

/-- 'gantlaw4.ToolsChecks': WHATEVER THE INPUT: true; the input reads as it did. -/
def toolsChecksSpec : ChangeSpec := { name := "toolsChecks", fn := fun _ => fun
  | [d1, d2, d3, d4, d5, d6] => { results := [.lit (.bool true)], args := [d1, d2, d3, d4, d5, d6] }
  | _ => none }
def toolsChecksRow : OpenClaim := { program := "ytjohiapgancocaa", sum := "e7ae59b3b9d943b174540027df9bdacaefe444499b42120efbd5fe24bb2af2e4", func := "gantry/gantlaw4.ToolsChecks", spec := "toolsChecks", apart := false }
def ToolsChecksSaid : Prop := toolsChecksRow.holds Try.pinned (OpenSpec.ofChange toolsChecksSpec)

/-- ITS FALSE NEIGHBOUR: 'it returns false'. Refute it at one input. -/
def toolsChecksWrong : ChangeSpec := { name := "toolsChecks", fn := fun _ => fun
  | [d1, d2, d3, d4, d5, d6] => { results := [.lit (.bool false)], args := [d1, d2, d3, d4, d5, d6] }
  | _ => none }
def ToolsChecksWrongFalsely : Prop := toolsChecksRow.holds Try.pinned (OpenSpec.ofChange toolsChecksWrong)

/-- 'gantlaw4.ToolsPlans': WHATEVER THE INPUT: true; the input reads as it did. -/
def toolsPlansSpec : ChangeSpec := { name := "toolsPlans", fn := fun _ => fun
  | [d1, d2] => { results := [.lit (.bool true)], args := [d1, d2] }
  | _ => none }
def toolsPlansRow : OpenClaim := { program := "ytjohiapgancocaa", sum := "e7ae59b3b9d943b174540027df9bdacaefe444499b42120efbd5fe24bb2af2e4", func := "gantry/gantlaw4.ToolsPlans", spec := "toolsPlans", apart := false }
def ToolsPlansSaid : Prop := toolsPlansRow.holds Try.pinned (OpenSpec.ofChange toolsPlansSpec)

/-- ITS FALSE NEIGHBOUR: 'it returns false'. Refute it at one input. -/
def toolsPlansWrong : ChangeSpec := { name := "toolsPlans", fn := fun _ => fun
  | [d1, d2] => { results := [.lit (.bool false)], args := [d1, d2] }
  | _ => none }
def ToolsPlansWrongFalsely : Prop := toolsPlansRow.holds Try.pinned (OpenSpec.ofChange toolsPlansWrong)

/-- 'gantlaw4.OrderTimes': WHATEVER THE INPUT: true; the input reads as it did. -/
def orderTimesSpec : ChangeSpec := { name := "orderTimes", fn := fun _ => fun
  | [d1, d2] => { results := [.lit (.bool true)], args := [d1, d2] }
  | _ => none }
def orderTimesRow : OpenClaim := { program := "ytjohiapgancocaa", sum := "e7ae59b3b9d943b174540027df9bdacaefe444499b42120efbd5fe24bb2af2e4", func := "gantry/gantlaw4.OrderTimes", spec := "orderTimes", unfollowed := true, recurses := true, apart := false }
def OrderTimesSaid : Prop := orderTimesRow.holds Try.pinned (OpenSpec.ofChange orderTimesSpec)

/-- ITS FALSE NEIGHBOUR: 'it returns false'. Refute it at one input. -/
def orderTimesWrong : ChangeSpec := { name := "orderTimes", fn := fun _ => fun
  | [d1, d2] => { results := [.lit (.bool false)], args := [d1, d2] }
  | _ => none }
def OrderTimesWrongFalsely : Prop := orderTimesRow.holds Try.pinned (OpenSpec.ofChange orderTimesWrong)

/-- 'gantlaw4.OrderChecks': WHATEVER THE INPUT: true; the input reads as it did. -/
def orderChecksSpec : ChangeSpec := { name := "orderChecks", fn := fun _ => fun
  | [d1, d2, d3, d4] => { results := [.lit (.bool true)], args := [d1, d2, d3, d4] }
  | _ => none }
def orderChecksRow : OpenClaim := { program := "ytjohiapgancocaa", sum := "e7ae59b3b9d943b174540027df9bdacaefe444499b42120efbd5fe24bb2af2e4", func := "gantry/gantlaw4.OrderChecks", spec := "orderChecks", unfollowed := true, recurses := true, apart := false }
def OrderChecksSaid : Prop := orderChecksRow.holds Try.pinned (OpenSpec.ofChange orderChecksSpec)

/-- ITS FALSE NEIGHBOUR: 'it returns false'. Refute it at one input. -/
def orderChecksWrong : ChangeSpec := { name := "orderChecks", fn := fun _ => fun
  | [d1, d2, d3, d4] => { results := [.lit (.bool false)], args := [d1, d2, d3, d4] }
  | _ => none }
def OrderChecksWrongFalsely : Prop := orderChecksRow.holds Try.pinned (OpenSpec.ofChange orderChecksWrong)

/- THE SECOND FORM. 'bulk': how many values and letters a reading holds, each counted each time it is reached (what is shared counts as often as it is met; a slice's spare places count too). A statement '..UptoSaid' is the law's where the arguments, and the package variables that the reading takes, are together of bulk at most 1048576: NARROWER than '..Said'. Prove '..Said' where nothing that the law and all that it calls make is longer than what came in: it says more and counts as full. Else prove '..UptoSaid'. A law counts once. -/
mutual
def uptoBulk {H : Type} : DataW H → Nat
  | .lit (.string bytes) => bytes.length + 1
  | .lit _ => 1
  | .nil => 1
  | .ptr d => uptoBulk d + 1
  | .slice elems spare => uptoBulkAll elems + uptoBulkAll spare + 1
  | .agg parts => uptoBulkAll parts + 1
  | .iface _ d => uptoBulk d + 1
  | .map entries => uptoBulkEntries entries + 1
  | .held _ => 1
def uptoBulkAll {H : Type} : List (DataW H) → Nat
  | [] => 0
  | d :: r => uptoBulk d + uptoBulkAll r
def uptoBulkEntries {H : Type} : List (Lit × DataW H) → Nat
  | [] => 0
  | x :: r => uptoBulkEntry x + uptoBulkEntries r
def uptoBulkEntry {H : Type} : Lit × DataW H → Nat
  | (.string bytes, d) => bytes.length + uptoBulk d + 1
  | (_, d) => uptoBulk d + 1
 end
def uptoSmall : (H : Type) → List (DataW H) → Bool := fun _ ds => decide (uptoBulkAll ds ≤ 1048576)
def OpenSpec.upto (s : _root_.Go.ChangeSpec) : _root_.Go.OpenSpec := { _root_.Go.OpenSpec.ofChange s with cond := some uptoSmall }

/-- 'gantlaw4.ToolsFirst', WHERE WHAT IT READS IS OF BULK AT MOST 1048576: true; the input reads as it did. -/
def toolsFirstUptoRow : OpenClaim := { program := "ytjohiapgancocaa", sum := "e7ae59b3b9d943b174540027df9bdacaefe444499b42120efbd5fe24bb2af2e4", func := "gantry/gantlaw4.ToolsFirst", spec := "toolsFirst", apart := false, narrowed := true }
def ToolsFirstUptoSaid : Prop := toolsFirstUptoRow.holds Try.pinned (OpenSpec.upto toolsFirstSpec)

/-- 'gantlaw4.ToolsChecks', WHERE WHAT IT READS IS OF BULK AT MOST 1048576: true; the input reads as it did. -/
def toolsChecksUptoRow : OpenClaim := { program := "ytjohiapgancocaa", sum := "e7ae59b3b9d943b174540027df9bdacaefe444499b42120efbd5fe24bb2af2e4", func := "gantry/gantlaw4.ToolsChecks", spec := "toolsChecks", apart := false, narrowed := true }
def ToolsChecksUptoSaid : Prop := toolsChecksUptoRow.holds Try.pinned (OpenSpec.upto toolsChecksSpec)

/-- 'gantlaw4.ToolsPlans', WHERE WHAT IT READS IS OF BULK AT MOST 1048576: true; the input reads as it did. -/
def toolsPlansUptoRow : OpenClaim := { program := "ytjohiapgancocaa", sum := "e7ae59b3b9d943b174540027df9bdacaefe444499b42120efbd5fe24bb2af2e4", func := "gantry/gantlaw4.ToolsPlans", spec := "toolsPlans", apart := false, narrowed := true }
def ToolsPlansUptoSaid : Prop := toolsPlansUptoRow.holds Try.pinned (OpenSpec.upto toolsPlansSpec)

/-- 'gantlaw4.OrderTimes', WHERE WHAT IT READS IS OF BULK AT MOST 1048576: true; the input reads as it did. -/
def orderTimesUptoRow : OpenClaim := { program := "ytjohiapgancocaa", sum := "e7ae59b3b9d943b174540027df9bdacaefe444499b42120efbd5fe24bb2af2e4", func := "gantry/gantlaw4.OrderTimes", spec := "orderTimes", unfollowed := true, recurses := true, apart := false, narrowed := true }
def OrderTimesUptoSaid : Prop := orderTimesUptoRow.holds Try.pinned (OpenSpec.upto orderTimesSpec)

/-- 'gantlaw4.OrderChecks', WHERE WHAT IT READS IS OF BULK AT MOST 1048576: true; the input reads as it did. -/
def orderChecksUptoRow : OpenClaim := { program := "ytjohiapgancocaa", sum := "e7ae59b3b9d943b174540027df9bdacaefe444499b42120efbd5fe24bb2af2e4", func := "gantry/gantlaw4.OrderChecks", spec := "orderChecks", unfollowed := true, recurses := true, apart := false, narrowed := true }
def OrderChecksUptoSaid : Prop := orderChecksUptoRow.holds Try.pinned (OpenSpec.upto orderChecksSpec)

end Rows
end Go.Proofs.Ytjohiapgancocaa
