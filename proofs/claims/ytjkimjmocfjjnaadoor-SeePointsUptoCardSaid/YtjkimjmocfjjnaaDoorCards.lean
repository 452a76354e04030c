/-
  DERIVED. GIVEN WITH THE SEED: THE CARDS: each row of YtjkimjmocfjjnaaDoorRows.lean that lists a variable, with what it lists TIED to the program's text (the seventh form; the later family's looks); each row that meets fmt, with fmt's text TOLD by the authors' own Lean function (tested against real Go, not proved from fmt's source: count such statements apart). THE CARD IS WHAT COUNTS. Prove the row's statement (the work); the ties are given (YtjkimjmocfjjnaaDoorTie.lean); close each card by the builder's one call (the guide's Derived/Test/ToyasCard.lean, 'card_holds'). Laid BY PROGRAM, IN A SANDBOX (cutbox-door.mjs). By AI agents, Wed Nov 11 2026. No macro, syntax, notation, axiom, sorry.
-/
import Derived.Test.YtjkimjmocfjjnaaDoorRows
import GoSem.ClaimSeven
namespace Go.Proofs.YtjkimjmocfjjnaaDoor
namespace Rows

/-- THE TIED CARD OF 'gantlaw4.SeeSays'. -/
def seeSaysCard : Claim7 := { stood := { row := seeSaysRow, standIns := [], harness := (true, "12bbbbb2b9fcbca6eac4f4263242de6b1f18b754acc9506d7089e48ecbcce925"), looks := false }, kinds := [], alts := [], laidByText := true, laidKinds := [.data], laidTests := true, laidLooks := .later }
def SeeSaysCardSaid : Prop := Claim7.holds Tryd.pinned (.plain (OpenSpec.ofChange seeSaysSpec)) seeSaysCard

/-- THE TIED CARD OF 'gantlaw4.SeePoints'. -/
def seePointsCard : Claim7 := { stood := { row := seePointsRow, standIns := [], harness := (true, "12bbbbb2b9fcbca6eac4f4263242de6b1f18b754acc9506d7089e48ecbcce925"), looks := false }, kinds := [], alts := [], laidByText := true, laidKinds := [.data], laidTests := true, laidLooks := .later }
def SeePointsCardSaid : Prop := Claim7.holds Tryd.pinned (.plain (OpenSpec.ofChange seePointsSpec)) seePointsCard

/-- THE TIED CARD OF 'gantlaw4.CarrySays'. -/
def carrySaysCard : Claim7 := { stood := { row := carrySaysRow, standIns := [], harness := (true, "12bbbbb2b9fcbca6eac4f4263242de6b1f18b754acc9506d7089e48ecbcce925"), looks := false }, kinds := [], alts := [], laidByText := true, laidKinds := [.data], laidTests := true, laidLooks := .later }
def CarrySaysCardSaid : Prop := Claim7.holds Tryd.pinned (.plain (OpenSpec.ofChange carrySaysSpec)) carrySaysCard

/-- THE TIED CARD OF 'gantlaw4.CarryNeeds'. -/
def carryNeedsCard : Claim7 := { stood := { row := carryNeedsRow, standIns := [], harness := (true, "12bbbbb2b9fcbca6eac4f4263242de6b1f18b754acc9506d7089e48ecbcce925"), looks := false }, kinds := [], alts := [], laidByText := true, laidKinds := [.data], laidTests := true, laidLooks := .later }
def CarryNeedsCardSaid : Prop := Claim7.holds Tryd.pinned (.plain (OpenSpec.ofChange carryNeedsSpec)) carryNeedsCard

/-- THE SECOND FORM's CARD OF 'gantlaw4.SeeSays'. -/
def seeSaysUptoCard : Claim7 := { stood := { row := seeSaysUptoRow, standIns := [], harness := (true, "12bbbbb2b9fcbca6eac4f4263242de6b1f18b754acc9506d7089e48ecbcce925"), looks := false }, kinds := [], alts := [], laidByText := true, laidKinds := [.data], laidTests := true, laidLooks := .later }
def SeeSaysUptoCardSaid : Prop := Claim7.holds Tryd.pinned (.plain (OpenSpec.upto seeSaysSpec)) seeSaysUptoCard

/-- THE SECOND FORM's CARD OF 'gantlaw4.SeePoints'. -/
def seePointsUptoCard : Claim7 := { stood := { row := seePointsUptoRow, standIns := [], harness := (true, "12bbbbb2b9fcbca6eac4f4263242de6b1f18b754acc9506d7089e48ecbcce925"), looks := false }, kinds := [], alts := [], laidByText := true, laidKinds := [.data], laidTests := true, laidLooks := .later }
def SeePointsUptoCardSaid : Prop := Claim7.holds Tryd.pinned (.plain (OpenSpec.upto seePointsSpec)) seePointsUptoCard

/-- THE SECOND FORM's CARD OF 'gantlaw4.CarrySays'. -/
def carrySaysUptoCard : Claim7 := { stood := { row := carrySaysUptoRow, standIns := [], harness := (true, "12bbbbb2b9fcbca6eac4f4263242de6b1f18b754acc9506d7089e48ecbcce925"), looks := false }, kinds := [], alts := [], laidByText := true, laidKinds := [.data], laidTests := true, laidLooks := .later }
def CarrySaysUptoCardSaid : Prop := Claim7.holds Tryd.pinned (.plain (OpenSpec.upto carrySaysSpec)) carrySaysUptoCard

/-- THE SECOND FORM's CARD OF 'gantlaw4.CarryNeeds'. -/
def carryNeedsUptoCard : Claim7 := { stood := { row := carryNeedsUptoRow, standIns := [], harness := (true, "12bbbbb2b9fcbca6eac4f4263242de6b1f18b754acc9506d7089e48ecbcce925"), looks := false }, kinds := [], alts := [], laidByText := true, laidKinds := [.data], laidTests := true, laidLooks := .later }
def CarryNeedsUptoCardSaid : Prop := Claim7.holds Tryd.pinned (.plain (OpenSpec.upto carryNeedsSpec)) carryNeedsUptoCard
end Rows
end Go.Proofs.YtjkimjmocfjjnaaDoor
