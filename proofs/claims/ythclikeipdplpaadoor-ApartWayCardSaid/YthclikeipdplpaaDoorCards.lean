/-
  DERIVED. GIVEN WITH THE SEED: THE CARDS: each row of YthclikeipdplpaaDoorRows.lean that lists a variable, with what it lists TIED to the program's text (the seventh form; the later family's looks); each row that meets fmt, with fmt's text TOLD by the authors' own Lean function (tested against real Go, not proved from fmt's source: count such statements apart). THE CARD IS WHAT COUNTS. Prove the row's statement (the work); the ties are given (YthclikeipdplpaaDoorTie.lean); close each card by the builder's one call (the guide's Derived/Test/ToyasCard.lean, 'card_holds'). Laid BY PROGRAM, IN A SANDBOX (cutbox-door.mjs). By AI agents, Wed Nov 11 2026. No macro, syntax, notation, axiom, sorry.
-/
import Derived.Test.YthclikeipdplpaaDoorRows
import GoSem.ClaimSeven
namespace Go.Proofs.YthclikeipdplpaaDoor
namespace Rows

/-- THE TIED CARD OF 'gantkeep1.PolyMoves'. -/
def polyMovesCard : Claim7 := { stood := { row := polyMovesRow, standIns := [], harness := (true, "33ed3c36ac5a0ed22b7d8fb1c109f818f4d17edf540b13f47b8d09e8ebe101a0"), looks := false }, kinds := [], alts := [], laidByText := true, laidKinds := [.data], laidTests := true, laidLooks := .later }
def PolyMovesCardSaid : Prop := Claim7.holds Tryd.pinned (.plain (OpenSpec.ofChange polyMovesSpec)) polyMovesCard

/-- THE TIED CARD OF 'gantkeep1.PolyEnds'. -/
def polyEndsCard : Claim7 := { stood := { row := polyEndsRow, standIns := [], harness := (true, "33ed3c36ac5a0ed22b7d8fb1c109f818f4d17edf540b13f47b8d09e8ebe101a0"), looks := false }, kinds := [], alts := [], laidByText := true, laidKinds := [.data], laidTests := true, laidLooks := .later }
def PolyEndsCardSaid : Prop := Claim7.holds Tryd.pinned (.plain (OpenSpec.ofChange polyEndsSpec)) polyEndsCard

/-- THE TIED CARD OF 'gantkeep1.ApartMoves'. -/
def apartMovesCard : Claim7 := { stood := { row := apartMovesRow, standIns := [], harness := (true, "33ed3c36ac5a0ed22b7d8fb1c109f818f4d17edf540b13f47b8d09e8ebe101a0"), looks := false }, kinds := [], alts := [], laidByText := true, laidKinds := [.data], laidTests := true, laidLooks := .later }
def ApartMovesCardSaid : Prop := Claim7.holds Tryd.pinned (.plain (OpenSpec.ofChange apartMovesSpec)) apartMovesCard

/-- THE TIED CARD OF 'gantkeep1.ApartWay'. -/
def apartWayCard : Claim7 := { stood := { row := apartWayRow, standIns := [], harness := (true, "33ed3c36ac5a0ed22b7d8fb1c109f818f4d17edf540b13f47b8d09e8ebe101a0"), looks := false }, kinds := [], alts := [], laidByText := true, laidKinds := [.data], laidTests := true, laidLooks := .later }
def ApartWayCardSaid : Prop := Claim7.holds Tryd.pinned (.plain (OpenSpec.ofChange apartWaySpec)) apartWayCard

/-- THE TIED CARD OF 'gantkeep1.ApartAxis'. -/
def apartAxisCard : Claim7 := { stood := { row := apartAxisRow, standIns := [], harness := (true, "33ed3c36ac5a0ed22b7d8fb1c109f818f4d17edf540b13f47b8d09e8ebe101a0"), looks := false }, kinds := [], alts := [], laidByText := true, laidKinds := [.data], laidTests := true, laidLooks := .later }
def ApartAxisCardSaid : Prop := Claim7.holds Tryd.pinned (.plain (OpenSpec.ofChange apartAxisSpec)) apartAxisCard

/-- THE TIED CARD OF 'gantkeep1.GridBoole'. -/
def gridBooleCard : Claim7 := { stood := { row := gridBooleRow, standIns := [], harness := (true, "33ed3c36ac5a0ed22b7d8fb1c109f818f4d17edf540b13f47b8d09e8ebe101a0"), looks := false }, kinds := [], alts := [], laidByText := true, laidKinds := [.data], laidTests := true, laidLooks := .later }
def GridBooleCardSaid : Prop := Claim7.holds Tryd.pinned (.plain (OpenSpec.ofChange gridBooleSpec)) gridBooleCard

/-- THE SECOND FORM's CARD OF 'gantkeep1.PolyMoves'. -/
def polyMovesUptoCard : Claim7 := { stood := { row := polyMovesUptoRow, standIns := [], harness := (true, "33ed3c36ac5a0ed22b7d8fb1c109f818f4d17edf540b13f47b8d09e8ebe101a0"), looks := false }, kinds := [], alts := [], laidByText := true, laidKinds := [.data], laidTests := true, laidLooks := .later }
def PolyMovesUptoCardSaid : Prop := Claim7.holds Tryd.pinned (.plain (OpenSpec.upto polyMovesSpec)) polyMovesUptoCard

/-- THE SECOND FORM's CARD OF 'gantkeep1.PolyEnds'. -/
def polyEndsUptoCard : Claim7 := { stood := { row := polyEndsUptoRow, standIns := [], harness := (true, "33ed3c36ac5a0ed22b7d8fb1c109f818f4d17edf540b13f47b8d09e8ebe101a0"), looks := false }, kinds := [], alts := [], laidByText := true, laidKinds := [.data], laidTests := true, laidLooks := .later }
def PolyEndsUptoCardSaid : Prop := Claim7.holds Tryd.pinned (.plain (OpenSpec.upto polyEndsSpec)) polyEndsUptoCard

/-- THE SECOND FORM's CARD OF 'gantkeep1.ApartMoves'. -/
def apartMovesUptoCard : Claim7 := { stood := { row := apartMovesUptoRow, standIns := [], harness := (true, "33ed3c36ac5a0ed22b7d8fb1c109f818f4d17edf540b13f47b8d09e8ebe101a0"), looks := false }, kinds := [], alts := [], laidByText := true, laidKinds := [.data], laidTests := true, laidLooks := .later }
def ApartMovesUptoCardSaid : Prop := Claim7.holds Tryd.pinned (.plain (OpenSpec.upto apartMovesSpec)) apartMovesUptoCard

/-- THE SECOND FORM's CARD OF 'gantkeep1.ApartWay'. -/
def apartWayUptoCard : Claim7 := { stood := { row := apartWayUptoRow, standIns := [], harness := (true, "33ed3c36ac5a0ed22b7d8fb1c109f818f4d17edf540b13f47b8d09e8ebe101a0"), looks := false }, kinds := [], alts := [], laidByText := true, laidKinds := [.data], laidTests := true, laidLooks := .later }
def ApartWayUptoCardSaid : Prop := Claim7.holds Tryd.pinned (.plain (OpenSpec.upto apartWaySpec)) apartWayUptoCard

/-- THE SECOND FORM's CARD OF 'gantkeep1.ApartAxis'. -/
def apartAxisUptoCard : Claim7 := { stood := { row := apartAxisUptoRow, standIns := [], harness := (true, "33ed3c36ac5a0ed22b7d8fb1c109f818f4d17edf540b13f47b8d09e8ebe101a0"), looks := false }, kinds := [], alts := [], laidByText := true, laidKinds := [.data], laidTests := true, laidLooks := .later }
def ApartAxisUptoCardSaid : Prop := Claim7.holds Tryd.pinned (.plain (OpenSpec.upto apartAxisSpec)) apartAxisUptoCard

/-- THE SECOND FORM's CARD OF 'gantkeep1.GridBoole'. -/
def gridBooleUptoCard : Claim7 := { stood := { row := gridBooleUptoRow, standIns := [], harness := (true, "33ed3c36ac5a0ed22b7d8fb1c109f818f4d17edf540b13f47b8d09e8ebe101a0"), looks := false }, kinds := [], alts := [], laidByText := true, laidKinds := [.data], laidTests := true, laidLooks := .later }
def GridBooleUptoCardSaid : Prop := Claim7.holds Tryd.pinned (.plain (OpenSpec.upto gridBooleSpec)) gridBooleUptoCard
end Rows
end Go.Proofs.YthclikeipdplpaaDoor
