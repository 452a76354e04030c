/-
  DERIVED. GIVEN WITH THE SEED: THE CARDS: each row of YtipcpehbgomdeaaDoorRows.lean that lists a variable, with what it lists TIED to the program's text (the seventh form; the later family's looks); each row that meets fmt, with fmt's text TOLD by the authors' own Lean function (tested against real Go, not proved from fmt's source: count such statements apart). THE CARD IS WHAT COUNTS. Prove the row's statement (the work); the ties are given (YtipcpehbgomdeaaDoorTie.lean); close each card by the builder's one call (the guide's Derived/Test/ToyasCard.lean, 'card_holds'). Laid BY PROGRAM, IN A SANDBOX (cutbox-door.mjs). By AI agents, Wed Nov 11 2026. No macro, syntax, notation, axiom, sorry.
-/
import Derived.Test.YtipcpehbgomdeaaDoorRows
import GoSem.ClaimSeven
namespace Go.Proofs.YtipcpehbgomdeaaDoor
namespace Rows

/-- THE TIED CARD OF 'gantkeep1.BorderNext'. -/
def borderNextCard : Claim7 := { stood := { row := borderNextRow, standIns := [], harness := (true, "2db64060a41500162ab5ba9d7496e71576771b3569233c1fd1606602e16d8644"), looks := false }, kinds := [], alts := [], laidByText := true, laidKinds := [.data], laidTests := true, laidLooks := .later }
def BorderNextCardSaid : Prop := Claim7.holds Tryd.pinned (.plain (OpenSpec.ofChange borderNextSpec)) borderNextCard

/-- THE TIED CARD OF 'gantkeep1.BorderOut'. -/
def borderOutCard : Claim7 := { stood := { row := borderOutRow, standIns := [], harness := (true, "2db64060a41500162ab5ba9d7496e71576771b3569233c1fd1606602e16d8644"), looks := false }, kinds := [], alts := [], laidByText := true, laidKinds := [.data], laidTests := true, laidLooks := .later }
def BorderOutCardSaid : Prop := Claim7.holds Tryd.pinned (.plain (OpenSpec.ofChange borderOutSpec)) borderOutCard

/-- THE SECOND FORM's CARD OF 'gantkeep1.BorderNext'. -/
def borderNextUptoCard : Claim7 := { stood := { row := borderNextUptoRow, standIns := [], harness := (true, "2db64060a41500162ab5ba9d7496e71576771b3569233c1fd1606602e16d8644"), looks := false }, kinds := [], alts := [], laidByText := true, laidKinds := [.data], laidTests := true, laidLooks := .later }
def BorderNextUptoCardSaid : Prop := Claim7.holds Tryd.pinned (.plain (OpenSpec.upto borderNextSpec)) borderNextUptoCard

/-- THE SECOND FORM's CARD OF 'gantkeep1.BorderOut'. -/
def borderOutUptoCard : Claim7 := { stood := { row := borderOutUptoRow, standIns := [], harness := (true, "2db64060a41500162ab5ba9d7496e71576771b3569233c1fd1606602e16d8644"), looks := false }, kinds := [], alts := [], laidByText := true, laidKinds := [.data], laidTests := true, laidLooks := .later }
def BorderOutUptoCardSaid : Prop := Claim7.holds Tryd.pinned (.plain (OpenSpec.upto borderOutSpec)) borderOutUptoCard
end Rows
end Go.Proofs.YtipcpehbgomdeaaDoor
