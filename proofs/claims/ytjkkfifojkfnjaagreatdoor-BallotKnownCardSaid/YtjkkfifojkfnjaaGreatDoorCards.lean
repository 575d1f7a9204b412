/-
  DERIVED. GIVEN WITH THE SEED: THE CARDS: each row of YtjkkfifojkfnjaaGreatDoorRows.lean that lists a variable, with what it lists TIED to the program's text (the seventh form; the later family's looks); each row that meets fmt, with fmt's text TOLD by the authors' own Lean function (tested against real Go, not proved from fmt's source: count such statements apart). THE CARD IS WHAT COUNTS. Prove the row's statement (the work); the ties are given (YtjkkfifojkfnjaaGreatDoorTie.lean); close each card by the builder's one call (the guide's Derived/Test/ToyasCard.lean, 'card_holds'). Laid BY PROGRAM, IN A SANDBOX (cutbox-door.mjs). By AI agents, Wed Nov 11 2026. No macro, syntax, notation, axiom, sorry.
-/
import Derived.Test.YtjkkfifojkfnjaaGreatDoorRows
import GoSem.ClaimSeven
namespace Go.Proofs.YtjkkfifojkfnjaaGreatDoor
namespace Rows

/-- THE TIED CARD OF 'reliquarylaw17.BallotKnown'. -/
def ballotKnownCard : Claim7 := { stood := { row := ballotKnownRow, standIns := [], harness := (true, "4e32c37c889826903dcb4cfc1a3966cbdfde0f1a99bbdb15d9f018026a8dbb1e"), looks := false }, kinds := [], alts := [], laidByText := true, laidKinds := [.data], laidTests := true, laidLooks := .later }
def BallotKnownCardSaid : Prop := Claim7.holds Tryz.pinned (.plain (OpenSpec.ofChange ballotKnownSpec)) ballotKnownCard

/-- THE SECOND FORM's CARD OF 'reliquarylaw17.BallotKnown'. -/
def ballotKnownUptoCard : Claim7 := { stood := { row := ballotKnownUptoRow, standIns := [], harness := (true, "4e32c37c889826903dcb4cfc1a3966cbdfde0f1a99bbdb15d9f018026a8dbb1e"), looks := false }, kinds := [], alts := [], laidByText := true, laidKinds := [.data], laidTests := true, laidLooks := .later }
def BallotKnownUptoCardSaid : Prop := Claim7.holds Tryz.pinned (.plain (OpenSpec.upto ballotKnownSpec)) ballotKnownUptoCard
end Rows
end Go.Proofs.YtjkkfifojkfnjaaGreatDoor
