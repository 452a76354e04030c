/-
  NARROWER THAN 'FOR EVERY INPUT', by the rows' own cells (each row's printed sentence says how): PolyMoves: laid · PolyEnds: laid · ApartMoves: laid · ApartWay: laid · ApartAxis: laid · GridBoole: laid.
  DERIVED. THE GIVEN ROWS OF THIS SEAT. 6 by the template 'for every input the law returns true; each argument reads behind the call as it read before'; 0 by the template 'total and deterministic' (their statements: YthclikeipdplpaaDoorTotals.lean).
  GIVEN WITH THE SEED: the statements are not yours to turn. If you find one false, say at which input.
  Laid BY PROGRAM, IN A SANDBOX (cutbox-rows.mjs): the forced cells as the released guide's own fill.sh prints them over the translation 0c847ceaf09651f4… (all of the seat's roots in one cut). By AI agents, Wed Nov 11 2026. No macro, syntax, notation, axiom, sorry.
-/
import Derived.Test.YthclikeipdplpaaDoorChecked
import GoSem.Claim
import GoSem.ClaimJoined
import GoSem.ClaimMapViews
import Derived.JoinedTies
import Derived.KernelRfl
namespace Go.Proofs.YthclikeipdplpaaDoor
/- THE CELL 'sum', in the pinned program and in every row, IS THE sha256 OF THE DUMP (.gsa) THAT YthclikeipdplpaaDoorProg.lean LOADS. Nothing in Lean hashes anything: it is a label: what it is worth is what the hold of that sum in a sandbox is worth. -/
noncomputable def Tryd.pinned : Pinned := { name := "ythclikeipdplpaadoor", sum := "0c847ceaf09651f48c9e853caefb464ce243ba01d429f314a119c72ef1f002f2", checked := Tryd.checked }
namespace Rows
def none {H : Type} : Left H := { results := [], args := [] }

/- WHAT THE LISTED PACKAGE-LEVEL VARIABLES READ AS WHEN THE CALL BEGINS. Each datum BY PROGRAM (the guide's laid-datum.mjs) off the statement by which the dump's own 'gosem.cut.vars' lays the variable. In a bare row this is a premise. The card (YthclikeipdplpaaDoorCards.lean) ties it to the program's text. -/
def laid_math_bits_deBruijn64tab {H : Type} : DataW H := .agg [.lit (.int .u8 0), .lit (.int .u8 1), .lit (.int .u8 56), .lit (.int .u8 2), .lit (.int .u8 57), .lit (.int .u8 49), .lit (.int .u8 28), .lit (.int .u8 3), .lit (.int .u8 61), .lit (.int .u8 58), .lit (.int .u8 42), .lit (.int .u8 50), .lit (.int .u8 38), .lit (.int .u8 29), .lit (.int .u8 17), .lit (.int .u8 4), .lit (.int .u8 62), .lit (.int .u8 47), .lit (.int .u8 59), .lit (.int .u8 36), .lit (.int .u8 45), .lit (.int .u8 43), .lit (.int .u8 51), .lit (.int .u8 22), .lit (.int .u8 53), .lit (.int .u8 39), .lit (.int .u8 33), .lit (.int .u8 30), .lit (.int .u8 24), .lit (.int .u8 18), .lit (.int .u8 12), .lit (.int .u8 5), .lit (.int .u8 63), .lit (.int .u8 55), .lit (.int .u8 48), .lit (.int .u8 27), .lit (.int .u8 60), .lit (.int .u8 41), .lit (.int .u8 37), .lit (.int .u8 16), .lit (.int .u8 46), .lit (.int .u8 35), .lit (.int .u8 44), .lit (.int .u8 21), .lit (.int .u8 52), .lit (.int .u8 32), .lit (.int .u8 23), .lit (.int .u8 11), .lit (.int .u8 54), .lit (.int .u8 26), .lit (.int .u8 40), .lit (.int .u8 15), .lit (.int .u8 34), .lit (.int .u8 20), .lit (.int .u8 31), .lit (.int .u8 10), .lit (.int .u8 25), .lit (.int .u8 14), .lit (.int .u8 19), .lit (.int .u8 9), .lit (.int .u8 13), .lit (.int .u8 8), .lit (.int .u8 7), .lit (.int .u8 6)]

/-- 'gantkeep1.PolyMoves': WHATEVER THE INPUT: true; the input reads as it did. -/
def polyMovesSpec : ChangeSpec := { name := "polyMoves", fn := fun _ => fun
  | [d1, d2, d3, d4, d5, d6] => { results := [.lit (.bool true)], args := [d1, d2, d3, d4, d5, d6] }
  | _ => none }
def polyMovesRow : OpenClaim := { program := "ythclikeipdplpaadoor", sum := "0c847ceaf09651f48c9e853caefb464ce243ba01d429f314a119c72ef1f002f2", func := "gantry/gantkeep1.PolyMoves", spec := "polyMoves", inPlace := ["math/bits.Sub64", "internal/bytealg.abigen_runtime_cmpstring"], unfollowed := true, recurses := true, named := ["math/bits.deBruijn64tab"], apart := false, laid := [("math/bits.deBruijn64tab", laid_math_bits_deBruijn64tab)] }
def PolyMovesSaid : Prop := polyMovesRow.holds Tryd.pinned (OpenSpec.ofChange polyMovesSpec)

/-- ITS FALSE NEIGHBOUR: 'it returns false'. Refute it at one input. -/
def polyMovesWrong : ChangeSpec := { name := "polyMoves", fn := fun _ => fun
  | [d1, d2, d3, d4, d5, d6] => { results := [.lit (.bool false)], args := [d1, d2, d3, d4, d5, d6] }
  | _ => none }
def PolyMovesWrongFalsely : Prop := polyMovesRow.holds Tryd.pinned (OpenSpec.ofChange polyMovesWrong)

/-- 'gantkeep1.PolyEnds': WHATEVER THE INPUT: true; the input reads as it did. -/
def polyEndsSpec : ChangeSpec := { name := "polyEnds", fn := fun _ => fun
  | [d1, d2, d3, d4, d5] => { results := [.lit (.bool true)], args := [d1, d2, d3, d4, d5] }
  | _ => none }
def polyEndsRow : OpenClaim := { program := "ythclikeipdplpaadoor", sum := "0c847ceaf09651f48c9e853caefb464ce243ba01d429f314a119c72ef1f002f2", func := "gantry/gantkeep1.PolyEnds", spec := "polyEnds", inPlace := ["math/bits.Sub64", "internal/bytealg.abigen_runtime_cmpstring"], unfollowed := true, recurses := true, named := ["math/bits.deBruijn64tab"], apart := false, laid := [("math/bits.deBruijn64tab", laid_math_bits_deBruijn64tab)] }
def PolyEndsSaid : Prop := polyEndsRow.holds Tryd.pinned (OpenSpec.ofChange polyEndsSpec)

/-- ITS FALSE NEIGHBOUR: 'it returns false'. Refute it at one input. -/
def polyEndsWrong : ChangeSpec := { name := "polyEnds", fn := fun _ => fun
  | [d1, d2, d3, d4, d5] => { results := [.lit (.bool false)], args := [d1, d2, d3, d4, d5] }
  | _ => none }
def PolyEndsWrongFalsely : Prop := polyEndsRow.holds Tryd.pinned (OpenSpec.ofChange polyEndsWrong)

/-- 'gantkeep1.ApartMoves': WHATEVER THE INPUT: true; the input reads as it did. -/
def apartMovesSpec : ChangeSpec := { name := "apartMoves", fn := fun _ => fun
  | [d1, d2, d3, d4, d5, d6, d7] => { results := [.lit (.bool true)], args := [d1, d2, d3, d4, d5, d6, d7] }
  | _ => none }
def apartMovesRow : OpenClaim := { program := "ythclikeipdplpaadoor", sum := "0c847ceaf09651f48c9e853caefb464ce243ba01d429f314a119c72ef1f002f2", func := "gantry/gantkeep1.ApartMoves", spec := "apartMoves", inPlace := ["math/bits.Sub64", "internal/bytealg.abigen_runtime_cmpstring"], unfollowed := true, recurses := true, named := ["math/bits.deBruijn64tab"], apart := false, laid := [("math/bits.deBruijn64tab", laid_math_bits_deBruijn64tab)] }
def ApartMovesSaid : Prop := apartMovesRow.holds Tryd.pinned (OpenSpec.ofChange apartMovesSpec)

/-- ITS FALSE NEIGHBOUR: 'it returns false'. Refute it at one input. -/
def apartMovesWrong : ChangeSpec := { name := "apartMoves", fn := fun _ => fun
  | [d1, d2, d3, d4, d5, d6, d7] => { results := [.lit (.bool false)], args := [d1, d2, d3, d4, d5, d6, d7] }
  | _ => none }
def ApartMovesWrongFalsely : Prop := apartMovesRow.holds Tryd.pinned (OpenSpec.ofChange apartMovesWrong)

/-- 'gantkeep1.ApartWay': WHATEVER THE INPUT: true; the input reads as it did. -/
def apartWaySpec : ChangeSpec := { name := "apartWay", fn := fun _ => fun
  | [d1, d2, d3, d4, d5, d6, d7, d8] => { results := [.lit (.bool true)], args := [d1, d2, d3, d4, d5, d6, d7, d8] }
  | _ => none }
def apartWayRow : OpenClaim := { program := "ythclikeipdplpaadoor", sum := "0c847ceaf09651f48c9e853caefb464ce243ba01d429f314a119c72ef1f002f2", func := "gantry/gantkeep1.ApartWay", spec := "apartWay", inPlace := ["math/bits.Sub64", "internal/bytealg.abigen_runtime_cmpstring"], unfollowed := true, recurses := true, named := ["math/bits.deBruijn64tab"], apart := false, laid := [("math/bits.deBruijn64tab", laid_math_bits_deBruijn64tab)] }
def ApartWaySaid : Prop := apartWayRow.holds Tryd.pinned (OpenSpec.ofChange apartWaySpec)

/-- ITS FALSE NEIGHBOUR: 'it returns false'. Refute it at one input. -/
def apartWayWrong : ChangeSpec := { name := "apartWay", fn := fun _ => fun
  | [d1, d2, d3, d4, d5, d6, d7, d8] => { results := [.lit (.bool false)], args := [d1, d2, d3, d4, d5, d6, d7, d8] }
  | _ => none }
def ApartWayWrongFalsely : Prop := apartWayRow.holds Tryd.pinned (OpenSpec.ofChange apartWayWrong)

/-- 'gantkeep1.ApartAxis': WHATEVER THE INPUT: true; the input reads as it did. -/
def apartAxisSpec : ChangeSpec := { name := "apartAxis", fn := fun _ => fun
  | [d1, d2, d3, d4, d5] => { results := [.lit (.bool true)], args := [d1, d2, d3, d4, d5] }
  | _ => none }
def apartAxisRow : OpenClaim := { program := "ythclikeipdplpaadoor", sum := "0c847ceaf09651f48c9e853caefb464ce243ba01d429f314a119c72ef1f002f2", func := "gantry/gantkeep1.ApartAxis", spec := "apartAxis", inPlace := ["math/bits.Sub64", "internal/bytealg.abigen_runtime_cmpstring"], unfollowed := true, recurses := true, named := ["math/bits.deBruijn64tab"], apart := false, laid := [("math/bits.deBruijn64tab", laid_math_bits_deBruijn64tab)] }
def ApartAxisSaid : Prop := apartAxisRow.holds Tryd.pinned (OpenSpec.ofChange apartAxisSpec)

/-- ITS FALSE NEIGHBOUR: 'it returns false'. Refute it at one input. -/
def apartAxisWrong : ChangeSpec := { name := "apartAxis", fn := fun _ => fun
  | [d1, d2, d3, d4, d5] => { results := [.lit (.bool false)], args := [d1, d2, d3, d4, d5] }
  | _ => none }
def ApartAxisWrongFalsely : Prop := apartAxisRow.holds Tryd.pinned (OpenSpec.ofChange apartAxisWrong)

/-- 'gantkeep1.GridBoole': WHATEVER THE INPUT: true; the input reads as it did. -/
def gridBooleSpec : ChangeSpec := { name := "gridBoole", fn := fun _ => fun
  | [d1, d2, d3] => { results := [.lit (.bool true)], args := [d1, d2, d3] }
  | _ => none }
def gridBooleRow : OpenClaim := { program := "ythclikeipdplpaadoor", sum := "0c847ceaf09651f48c9e853caefb464ce243ba01d429f314a119c72ef1f002f2", func := "gantry/gantkeep1.GridBoole", spec := "gridBoole", inPlace := ["math/bits.Sub64", "internal/bytealg.abigen_runtime_cmpstring"], unfollowed := true, recurses := true, named := ["math/bits.deBruijn64tab"], apart := false, laid := [("math/bits.deBruijn64tab", laid_math_bits_deBruijn64tab)] }
def GridBooleSaid : Prop := gridBooleRow.holds Tryd.pinned (OpenSpec.ofChange gridBooleSpec)

/-- ITS FALSE NEIGHBOUR: 'it returns false'. Refute it at one input. -/
def gridBooleWrong : ChangeSpec := { name := "gridBoole", fn := fun _ => fun
  | [d1, d2, d3] => { results := [.lit (.bool false)], args := [d1, d2, d3] }
  | _ => none }
def GridBooleWrongFalsely : Prop := gridBooleRow.holds Tryd.pinned (OpenSpec.ofChange gridBooleWrong)

/- THE SECOND FORM. 'bulk': how many values and letters a reading holds, each counted each time it is reached (what is shared counts as often as it is met; a slice's spare places count too). A statement '..UptoSaid' is the law's where the arguments, and the package variables that the reading takes, are together of bulk at most 1048576: NARROWER than '..Said'. Prove '..Said' where nothing that the law and all that it calls make is longer than what came in: it says more and counts as full. Else prove '..UptoSaid'. A law counts once. -/
mutual
def uptoBulk {H : Type} : DataW H → Nat
  | .lit (.string bytes) => bytes.length + 1
  | .lit _ => 1
  | .nil => 1
  | .ptr d => uptoBulk d + 1
  | .slice elems spare => uptoBulkAll elems + uptoBulkAll spare + 1
  | .agg parts => uptoBulkAll parts + 1
  | .iface _ d => uptoBulk d + 1
  | .map entries => uptoBulkEntries entries + 1
  | .held _ => 1
def uptoBulkAll {H : Type} : List (DataW H) → Nat
  | [] => 0
  | d :: r => uptoBulk d + uptoBulkAll r
def uptoBulkEntries {H : Type} : List (Lit × DataW H) → Nat
  | [] => 0
  | x :: r => uptoBulkEntry x + uptoBulkEntries r
def uptoBulkEntry {H : Type} : Lit × DataW H → Nat
  | (.string bytes, d) => bytes.length + uptoBulk d + 1
  | (_, d) => uptoBulk d + 1
 end
def uptoSmall : (H : Type) → List (DataW H) → Bool := fun _ ds => decide (uptoBulkAll ds ≤ 1048576)
def OpenSpec.upto (s : _root_.Go.ChangeSpec) : _root_.Go.OpenSpec := { _root_.Go.OpenSpec.ofChange s with cond := some uptoSmall }

/-- 'gantkeep1.PolyMoves', WHERE WHAT IT READS IS OF BULK AT MOST 1048576: true; the input reads as it did. -/
def polyMovesUptoRow : OpenClaim := { program := "ythclikeipdplpaadoor", sum := "0c847ceaf09651f48c9e853caefb464ce243ba01d429f314a119c72ef1f002f2", func := "gantry/gantkeep1.PolyMoves", spec := "polyMoves", inPlace := ["math/bits.Sub64", "internal/bytealg.abigen_runtime_cmpstring"], unfollowed := true, recurses := true, named := ["math/bits.deBruijn64tab"], apart := false, laid := [("math/bits.deBruijn64tab", laid_math_bits_deBruijn64tab)], narrowed := true }
def PolyMovesUptoSaid : Prop := polyMovesUptoRow.holds Tryd.pinned (OpenSpec.upto polyMovesSpec)

/-- 'gantkeep1.PolyEnds', WHERE WHAT IT READS IS OF BULK AT MOST 1048576: true; the input reads as it did. -/
def polyEndsUptoRow : OpenClaim := { program := "ythclikeipdplpaadoor", sum := "0c847ceaf09651f48c9e853caefb464ce243ba01d429f314a119c72ef1f002f2", func := "gantry/gantkeep1.PolyEnds", spec := "polyEnds", inPlace := ["math/bits.Sub64", "internal/bytealg.abigen_runtime_cmpstring"], unfollowed := true, recurses := true, named := ["math/bits.deBruijn64tab"], apart := false, laid := [("math/bits.deBruijn64tab", laid_math_bits_deBruijn64tab)], narrowed := true }
def PolyEndsUptoSaid : Prop := polyEndsUptoRow.holds Tryd.pinned (OpenSpec.upto polyEndsSpec)

/-- 'gantkeep1.ApartMoves', WHERE WHAT IT READS IS OF BULK AT MOST 1048576: true; the input reads as it did. -/
def apartMovesUptoRow : OpenClaim := { program := "ythclikeipdplpaadoor", sum := "0c847ceaf09651f48c9e853caefb464ce243ba01d429f314a119c72ef1f002f2", func := "gantry/gantkeep1.ApartMoves", spec := "apartMoves", inPlace := ["math/bits.Sub64", "internal/bytealg.abigen_runtime_cmpstring"], unfollowed := true, recurses := true, named := ["math/bits.deBruijn64tab"], apart := false, laid := [("math/bits.deBruijn64tab", laid_math_bits_deBruijn64tab)], narrowed := true }
def ApartMovesUptoSaid : Prop := apartMovesUptoRow.holds Tryd.pinned (OpenSpec.upto apartMovesSpec)

/-- 'gantkeep1.ApartWay', WHERE WHAT IT READS IS OF BULK AT MOST 1048576: true; the input reads as it did. -/
def apartWayUptoRow : OpenClaim := { program := "ythclikeipdplpaadoor", sum := "0c847ceaf09651f48c9e853caefb464ce243ba01d429f314a119c72ef1f002f2", func := "gantry/gantkeep1.ApartWay", spec := "apartWay", inPlace := ["math/bits.Sub64", "internal/bytealg.abigen_runtime_cmpstring"], unfollowed := true, recurses := true, named := ["math/bits.deBruijn64tab"], apart := false, laid := [("math/bits.deBruijn64tab", laid_math_bits_deBruijn64tab)], narrowed := true }
def ApartWayUptoSaid : Prop := apartWayUptoRow.holds Tryd.pinned (OpenSpec.upto apartWaySpec)

/-- 'gantkeep1.ApartAxis', WHERE WHAT IT READS IS OF BULK AT MOST 1048576: true; the input reads as it did. -/
def apartAxisUptoRow : OpenClaim := { program := "ythclikeipdplpaadoor", sum := "0c847ceaf09651f48c9e853caefb464ce243ba01d429f314a119c72ef1f002f2", func := "gantry/gantkeep1.ApartAxis", spec := "apartAxis", inPlace := ["math/bits.Sub64", "internal/bytealg.abigen_runtime_cmpstring"], unfollowed := true, recurses := true, named := ["math/bits.deBruijn64tab"], apart := false, laid := [("math/bits.deBruijn64tab", laid_math_bits_deBruijn64tab)], narrowed := true }
def ApartAxisUptoSaid : Prop := apartAxisUptoRow.holds Tryd.pinned (OpenSpec.upto apartAxisSpec)

/-- 'gantkeep1.GridBoole', WHERE WHAT IT READS IS OF BULK AT MOST 1048576: true; the input reads as it did. -/
def gridBooleUptoRow : OpenClaim := { program := "ythclikeipdplpaadoor", sum := "0c847ceaf09651f48c9e853caefb464ce243ba01d429f314a119c72ef1f002f2", func := "gantry/gantkeep1.GridBoole", spec := "gridBoole", inPlace := ["math/bits.Sub64", "internal/bytealg.abigen_runtime_cmpstring"], unfollowed := true, recurses := true, named := ["math/bits.deBruijn64tab"], apart := false, laid := [("math/bits.deBruijn64tab", laid_math_bits_deBruijn64tab)], narrowed := true }
def GridBooleUptoSaid : Prop := gridBooleUptoRow.holds Tryd.pinned (OpenSpec.upto gridBooleSpec)

end Rows
end Go.Proofs.YthclikeipdplpaaDoor
