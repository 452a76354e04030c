/-
  DERIVED. GIVEN WITH THE SEED: THE CARDS: each row of YtincjhklpgfkgaaDoorRows.lean that lists a variable, with what it lists TIED to the program's text (the seventh form; the later family's looks); each row that meets fmt, with fmt's text TOLD by the authors' own Lean function (tested against real Go, not proved from fmt's source: count such statements apart). THE CARD IS WHAT COUNTS. Prove the row's statement (the work); the ties are given (YtincjhklpgfkgaaDoorTie.lean); close each card by the builder's one call (the guide's Derived/Test/ToyasCard.lean, 'card_holds'). Laid BY PROGRAM, IN A SANDBOX (cutbox-door.mjs). By AI agents, Wed Nov 11 2026. No macro, syntax, notation, axiom, sorry.
-/
import Derived.Test.YtincjhklpgfkgaaDoorRows
import GoSem.ClaimSeven
namespace Go.Proofs.YtincjhklpgfkgaaDoor
namespace Rows

/-- THE TIED CARD OF 'gantkeep1.SpanMeets'. -/
def spanMeetsCard : Claim7 := { stood := { row := spanMeetsRow, standIns := [], harness := (true, "23ae94a0feb32020f456194fd9be8cb745db5f7a7da8e3de0b759f37f47a978e"), looks := false }, kinds := [], alts := [], laidByText := true, laidKinds := [.data], laidTests := true, laidLooks := .later }
def SpanMeetsCardSaid : Prop := Claim7.holds Tryd.pinned (.plain (OpenSpec.ofChange spanMeetsSpec)) spanMeetsCard

/-- THE TIED CARD OF 'gantkeep1.SpanSharp'. -/
def spanSharpCard : Claim7 := { stood := { row := spanSharpRow, standIns := [], harness := (true, "23ae94a0feb32020f456194fd9be8cb745db5f7a7da8e3de0b759f37f47a978e"), looks := false }, kinds := [], alts := [], laidByText := true, laidKinds := [.data], laidTests := true, laidLooks := .later }
def SpanSharpCardSaid : Prop := Claim7.holds Tryd.pinned (.plain (OpenSpec.ofChange spanSharpSpec)) spanSharpCard

/-- THE TIED CARD OF 'gantkeep1.SpanHolds'. -/
def spanHoldsCard : Claim7 := { stood := { row := spanHoldsRow, standIns := [], harness := (true, "23ae94a0feb32020f456194fd9be8cb745db5f7a7da8e3de0b759f37f47a978e"), looks := false }, kinds := [], alts := [], laidByText := true, laidKinds := [.data], laidTests := true, laidLooks := .later }
def SpanHoldsCardSaid : Prop := Claim7.holds Tryd.pinned (.plain (OpenSpec.ofChange spanHoldsSpec)) spanHoldsCard

/-- THE TIED CARD OF 'gantkeep1.TurnGroup'. -/
def turnGroupCard : Claim7 := { stood := { row := turnGroupRow, standIns := [], harness := (true, "23ae94a0feb32020f456194fd9be8cb745db5f7a7da8e3de0b759f37f47a978e"), looks := false }, kinds := [], alts := [], laidByText := true, laidKinds := [.data], laidTests := true, laidLooks := .later }
def TurnGroupCardSaid : Prop := Claim7.holds Tryd.pinned (.plain (OpenSpec.ofChange turnGroupSpec)) turnGroupCard

/-- THE TIED CARD OF 'gantkeep1.VecLaws'. -/
def vecLawsCard : Claim7 := { stood := { row := vecLawsRow, standIns := [], harness := (true, "23ae94a0feb32020f456194fd9be8cb745db5f7a7da8e3de0b759f37f47a978e"), looks := false }, kinds := [], alts := [], laidByText := true, laidKinds := [.data], laidTests := true, laidLooks := .later }
def VecLawsCardSaid : Prop := Claim7.holds Tryd.pinned (.plain (OpenSpec.ofChange vecLawsSpec)) vecLawsCard

/-- THE TIED CARD OF 'gantkeep1.FrameGroup'. -/
def frameGroupCard : Claim7 := { stood := { row := frameGroupRow, standIns := [], harness := (true, "23ae94a0feb32020f456194fd9be8cb745db5f7a7da8e3de0b759f37f47a978e"), looks := false }, kinds := [], alts := [], laidByText := true, laidKinds := [.data], laidTests := true, laidLooks := .later }
def FrameGroupCardSaid : Prop := Claim7.holds Tryd.pinned (.plain (OpenSpec.ofChange frameGroupSpec)) frameGroupCard

/-- THE TIED CARD OF 'gantkeep1.TurnHolds'. -/
def turnHoldsCard : Claim7 := { stood := { row := turnHoldsRow, standIns := [], harness := (true, "23ae94a0feb32020f456194fd9be8cb745db5f7a7da8e3de0b759f37f47a978e"), looks := false }, kinds := [], alts := [], laidByText := true, laidKinds := [.data], laidTests := true, laidLooks := .later }
def TurnHoldsCardSaid : Prop := Claim7.holds Tryd.pinned (.plain (OpenSpec.ofChange turnHoldsSpec)) turnHoldsCard

/-- THE TIED CARD OF 'gantkeep1.TurnBack'. -/
def turnBackCard : Claim7 := { stood := { row := turnBackRow, standIns := [], harness := (true, "23ae94a0feb32020f456194fd9be8cb745db5f7a7da8e3de0b759f37f47a978e"), looks := false }, kinds := [], alts := [], laidByText := true, laidKinds := [.data], laidTests := true, laidLooks := .later }
def TurnBackCardSaid : Prop := Claim7.holds Tryd.pinned (.plain (OpenSpec.ofChange turnBackSpec)) turnBackCard

/-- THE TIED CARD OF 'gantkeep1.BorderNext'. -/
def borderNextCard : Claim7 := { stood := { row := borderNextRow, standIns := [], harness := (true, "23ae94a0feb32020f456194fd9be8cb745db5f7a7da8e3de0b759f37f47a978e"), looks := false }, kinds := [], alts := [], laidByText := true, laidKinds := [.data], laidTests := true, laidLooks := .later }
def BorderNextCardSaid : Prop := Claim7.holds Tryd.pinned (.plain (OpenSpec.ofChange borderNextSpec)) borderNextCard

/-- THE TIED CARD OF 'gantkeep1.BorderOut'. -/
def borderOutCard : Claim7 := { stood := { row := borderOutRow, standIns := [], harness := (true, "23ae94a0feb32020f456194fd9be8cb745db5f7a7da8e3de0b759f37f47a978e"), looks := false }, kinds := [], alts := [], laidByText := true, laidKinds := [.data], laidTests := true, laidLooks := .later }
def BorderOutCardSaid : Prop := Claim7.holds Tryd.pinned (.plain (OpenSpec.ofChange borderOutSpec)) borderOutCard

/-- THE SECOND FORM's CARD OF 'gantkeep1.SpanMeets'. -/
def spanMeetsUptoCard : Claim7 := { stood := { row := spanMeetsUptoRow, standIns := [], harness := (true, "23ae94a0feb32020f456194fd9be8cb745db5f7a7da8e3de0b759f37f47a978e"), looks := false }, kinds := [], alts := [], laidByText := true, laidKinds := [.data], laidTests := true, laidLooks := .later }
def SpanMeetsUptoCardSaid : Prop := Claim7.holds Tryd.pinned (.plain (OpenSpec.upto spanMeetsSpec)) spanMeetsUptoCard

/-- THE SECOND FORM's CARD OF 'gantkeep1.SpanSharp'. -/
def spanSharpUptoCard : Claim7 := { stood := { row := spanSharpUptoRow, standIns := [], harness := (true, "23ae94a0feb32020f456194fd9be8cb745db5f7a7da8e3de0b759f37f47a978e"), looks := false }, kinds := [], alts := [], laidByText := true, laidKinds := [.data], laidTests := true, laidLooks := .later }
def SpanSharpUptoCardSaid : Prop := Claim7.holds Tryd.pinned (.plain (OpenSpec.upto spanSharpSpec)) spanSharpUptoCard

/-- THE SECOND FORM's CARD OF 'gantkeep1.SpanHolds'. -/
def spanHoldsUptoCard : Claim7 := { stood := { row := spanHoldsUptoRow, standIns := [], harness := (true, "23ae94a0feb32020f456194fd9be8cb745db5f7a7da8e3de0b759f37f47a978e"), looks := false }, kinds := [], alts := [], laidByText := true, laidKinds := [.data], laidTests := true, laidLooks := .later }
def SpanHoldsUptoCardSaid : Prop := Claim7.holds Tryd.pinned (.plain (OpenSpec.upto spanHoldsSpec)) spanHoldsUptoCard

/-- THE SECOND FORM's CARD OF 'gantkeep1.TurnGroup'. -/
def turnGroupUptoCard : Claim7 := { stood := { row := turnGroupUptoRow, standIns := [], harness := (true, "23ae94a0feb32020f456194fd9be8cb745db5f7a7da8e3de0b759f37f47a978e"), looks := false }, kinds := [], alts := [], laidByText := true, laidKinds := [.data], laidTests := true, laidLooks := .later }
def TurnGroupUptoCardSaid : Prop := Claim7.holds Tryd.pinned (.plain (OpenSpec.upto turnGroupSpec)) turnGroupUptoCard

/-- THE SECOND FORM's CARD OF 'gantkeep1.VecLaws'. -/
def vecLawsUptoCard : Claim7 := { stood := { row := vecLawsUptoRow, standIns := [], harness := (true, "23ae94a0feb32020f456194fd9be8cb745db5f7a7da8e3de0b759f37f47a978e"), looks := false }, kinds := [], alts := [], laidByText := true, laidKinds := [.data], laidTests := true, laidLooks := .later }
def VecLawsUptoCardSaid : Prop := Claim7.holds Tryd.pinned (.plain (OpenSpec.upto vecLawsSpec)) vecLawsUptoCard

/-- THE SECOND FORM's CARD OF 'gantkeep1.FrameGroup'. -/
def frameGroupUptoCard : Claim7 := { stood := { row := frameGroupUptoRow, standIns := [], harness := (true, "23ae94a0feb32020f456194fd9be8cb745db5f7a7da8e3de0b759f37f47a978e"), looks := false }, kinds := [], alts := [], laidByText := true, laidKinds := [.data], laidTests := true, laidLooks := .later }
def FrameGroupUptoCardSaid : Prop := Claim7.holds Tryd.pinned (.plain (OpenSpec.upto frameGroupSpec)) frameGroupUptoCard

/-- THE SECOND FORM's CARD OF 'gantkeep1.TurnHolds'. -/
def turnHoldsUptoCard : Claim7 := { stood := { row := turnHoldsUptoRow, standIns := [], harness := (true, "23ae94a0feb32020f456194fd9be8cb745db5f7a7da8e3de0b759f37f47a978e"), looks := false }, kinds := [], alts := [], laidByText := true, laidKinds := [.data], laidTests := true, laidLooks := .later }
def TurnHoldsUptoCardSaid : Prop := Claim7.holds Tryd.pinned (.plain (OpenSpec.upto turnHoldsSpec)) turnHoldsUptoCard

/-- THE SECOND FORM's CARD OF 'gantkeep1.TurnBack'. -/
def turnBackUptoCard : Claim7 := { stood := { row := turnBackUptoRow, standIns := [], harness := (true, "23ae94a0feb32020f456194fd9be8cb745db5f7a7da8e3de0b759f37f47a978e"), looks := false }, kinds := [], alts := [], laidByText := true, laidKinds := [.data], laidTests := true, laidLooks := .later }
def TurnBackUptoCardSaid : Prop := Claim7.holds Tryd.pinned (.plain (OpenSpec.upto turnBackSpec)) turnBackUptoCard

/-- THE SECOND FORM's CARD OF 'gantkeep1.BorderNext'. -/
def borderNextUptoCard : Claim7 := { stood := { row := borderNextUptoRow, standIns := [], harness := (true, "23ae94a0feb32020f456194fd9be8cb745db5f7a7da8e3de0b759f37f47a978e"), looks := false }, kinds := [], alts := [], laidByText := true, laidKinds := [.data], laidTests := true, laidLooks := .later }
def BorderNextUptoCardSaid : Prop := Claim7.holds Tryd.pinned (.plain (OpenSpec.upto borderNextSpec)) borderNextUptoCard

/-- THE SECOND FORM's CARD OF 'gantkeep1.BorderOut'. -/
def borderOutUptoCard : Claim7 := { stood := { row := borderOutUptoRow, standIns := [], harness := (true, "23ae94a0feb32020f456194fd9be8cb745db5f7a7da8e3de0b759f37f47a978e"), looks := false }, kinds := [], alts := [], laidByText := true, laidKinds := [.data], laidTests := true, laidLooks := .later }
def BorderOutUptoCardSaid : Prop := Claim7.holds Tryd.pinned (.plain (OpenSpec.upto borderOutSpec)) borderOutUptoCard
end Rows
end Go.Proofs.YtincjhklpgfkgaaDoor
