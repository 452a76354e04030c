/-
  DERIVED. GIVEN WITH THE SEED: THE CARDS: each row of YthclikeipdplpaaGreatDoorRows.lean that lists a variable, with what it lists TIED to the program's text (the seventh form; the later family's looks); each row that meets fmt, with fmt's text TOLD by the authors' own Lean function (tested against real Go, not proved from fmt's source: count such statements apart). THE CARD IS WHAT COUNTS. Prove the row's statement (the work); the ties are given (YthclikeipdplpaaGreatDoorTie.lean); close each card by the builder's one call (the guide's Derived/Test/ToyasCard.lean, 'card_holds'). Laid BY PROGRAM, IN A SANDBOX (cutbox-door.mjs). By AI agents, Wed Nov 11 2026. No macro, syntax, notation, axiom, sorry.
-/
import Derived.Test.YthclikeipdplpaaGreatDoorRows
import GoSem.ClaimSeven
namespace Go.Proofs.YthclikeipdplpaaGreatDoor
namespace Rows

/-- THE TIED CARD OF 'gantkeep1.GridCovers'. -/
def gridCoversCard : Claim7 := { stood := { row := gridCoversRow, standIns := [], harness := (true, "ab0be1e04394f8723f1fcf50c2dc8b2bba1cefd7d63e211175a74ef4587dfabb"), looks := false }, kinds := [], alts := [], laidByText := true, laidKinds := [.data], laidTests := true, laidLooks := .later }
def GridCoversCardSaid : Prop := Claim7.holds Tryz.pinned (.plain (OpenSpec.ofChange gridCoversSpec)) gridCoversCard

/-- THE TIED CARD OF 'gantkeep1.GridGrows'. -/
def gridGrowsCard : Claim7 := { stood := { row := gridGrowsRow, standIns := [], harness := (true, "ab0be1e04394f8723f1fcf50c2dc8b2bba1cefd7d63e211175a74ef4587dfabb"), looks := false }, kinds := [], alts := [], laidByText := true, laidKinds := [.data], laidTests := true, laidLooks := .later }
def GridGrowsCardSaid : Prop := Claim7.holds Tryz.pinned (.plain (OpenSpec.ofChange gridGrowsSpec)) gridGrowsCard

/-- THE TIED CARD OF 'gantkeep1.PolyHull'. -/
def polyHullCard : Claim7 := { stood := { row := polyHullRow, standIns := [], harness := (true, "ab0be1e04394f8723f1fcf50c2dc8b2bba1cefd7d63e211175a74ef4587dfabb"), looks := false }, kinds := [], alts := [], laidByText := true, laidKinds := [.data], laidTests := true, laidLooks := .later }
def PolyHullCardSaid : Prop := Claim7.holds Tryz.pinned (.plain (OpenSpec.ofChange polyHullSpec)) polyHullCard

/-- THE SECOND FORM's CARD OF 'gantkeep1.GridCovers'. -/
def gridCoversUptoCard : Claim7 := { stood := { row := gridCoversUptoRow, standIns := [], harness := (true, "ab0be1e04394f8723f1fcf50c2dc8b2bba1cefd7d63e211175a74ef4587dfabb"), looks := false }, kinds := [], alts := [], laidByText := true, laidKinds := [.data], laidTests := true, laidLooks := .later }
def GridCoversUptoCardSaid : Prop := Claim7.holds Tryz.pinned (.plain (OpenSpec.upto gridCoversSpec)) gridCoversUptoCard

/-- THE SECOND FORM's CARD OF 'gantkeep1.GridGrows'. -/
def gridGrowsUptoCard : Claim7 := { stood := { row := gridGrowsUptoRow, standIns := [], harness := (true, "ab0be1e04394f8723f1fcf50c2dc8b2bba1cefd7d63e211175a74ef4587dfabb"), looks := false }, kinds := [], alts := [], laidByText := true, laidKinds := [.data], laidTests := true, laidLooks := .later }
def GridGrowsUptoCardSaid : Prop := Claim7.holds Tryz.pinned (.plain (OpenSpec.upto gridGrowsSpec)) gridGrowsUptoCard

/-- THE SECOND FORM's CARD OF 'gantkeep1.PolyHull'. -/
def polyHullUptoCard : Claim7 := { stood := { row := polyHullUptoRow, standIns := [], harness := (true, "ab0be1e04394f8723f1fcf50c2dc8b2bba1cefd7d63e211175a74ef4587dfabb"), looks := false }, kinds := [], alts := [], laidByText := true, laidKinds := [.data], laidTests := true, laidLooks := .later }
def PolyHullUptoCardSaid : Prop := Claim7.holds Tryz.pinned (.plain (OpenSpec.upto polyHullSpec)) polyHullUptoCard
end Rows
end Go.Proofs.YthclikeipdplpaaGreatDoor
