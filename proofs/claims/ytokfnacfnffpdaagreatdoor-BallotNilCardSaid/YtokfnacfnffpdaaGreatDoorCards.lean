/-
  DERIVED. GIVEN WITH THE SEED: THE CARDS: each row of YtokfnacfnffpdaaGreatDoorRows.lean that lists a variable, with what it lists TIED to the program's text (the seventh form; the later family's looks); each row that meets fmt, with fmt's text TOLD by the authors' own Lean function (tested against real Go, not proved from fmt's source: count such statements apart). THE CARD IS WHAT COUNTS. Prove the row's statement (the work); the ties are given (YtokfnacfnffpdaaGreatDoorTie.lean); close each card by the builder's one call (the guide's Derived/Test/ToyasCard.lean, 'card_holds'). Laid BY PROGRAM, IN A SANDBOX (cutbox-door.mjs). By AI agents, Wed Nov 11 2026. No macro, syntax, notation, axiom, sorry.
-/
import Derived.Test.YtokfnacfnffpdaaGreatDoorRows
import GoSem.ClaimSeven
namespace Go.Proofs.YtokfnacfnffpdaaGreatDoor
namespace Rows

/-- THE TIED CARD OF 'reliquarylaw17.BallotNil'. -/
def ballotNilCard : Claim7 := { stood := { row := ballotNilRow, standIns := [], harness := (true, "99583fdee735fc5baeb1e05a8ee4c940d0e83eae061de52a1ef8aa4c16c1395f"), looks := false }, kinds := [], alts := [], laidByText := true, laidKinds := [.data], laidTests := true, laidLooks := .later }
def BallotNilCardSaid : Prop := Claim7.holds Tryz.pinned (.plain (OpenSpec.ofChange ballotNilSpec)) ballotNilCard

/-- THE SECOND FORM's CARD OF 'reliquarylaw17.BallotNil'. -/
def ballotNilUptoCard : Claim7 := { stood := { row := ballotNilUptoRow, standIns := [], harness := (true, "99583fdee735fc5baeb1e05a8ee4c940d0e83eae061de52a1ef8aa4c16c1395f"), looks := false }, kinds := [], alts := [], laidByText := true, laidKinds := [.data], laidTests := true, laidLooks := .later }
def BallotNilUptoCardSaid : Prop := Claim7.holds Tryz.pinned (.plain (OpenSpec.upto ballotNilSpec)) ballotNilUptoCard
end Rows
end Go.Proofs.YtokfnacfnffpdaaGreatDoor
