/-
  DERIVED. GIVEN WITH THE SEED: THE CARDS: each row of YtdndmkcppacjnaaGreatDoorRows.lean that lists a variable, with what it lists TIED to the program's text (the seventh form; the later family's looks); each row that meets fmt, with fmt's text TOLD by the authors' own Lean function (tested against real Go, not proved from fmt's source: count such statements apart). THE CARD IS WHAT COUNTS. Prove the row's statement (the work); the ties are given (YtdndmkcppacjnaaGreatDoorTie.lean); close each card by the builder's one call (the guide's Derived/Test/ToyasCard.lean, 'card_holds'). Laid BY PROGRAM, IN A SANDBOX (cutbox-door.mjs). By AI agents, Wed Nov 11 2026. No macro, syntax, notation, axiom, sorry.
-/
import Derived.Test.YtdndmkcppacjnaaGreatDoorRows
import GoSem.ClaimSeven
namespace Go.Proofs.YtdndmkcppacjnaaGreatDoor
namespace Rows

/-- THE TIED CARD OF 'reliquarylaw25.BlsNone'. -/
def blsNoneCard : Claim7 := { stood := { row := blsNoneRow, standIns := [], harness := (true, "1cb4f57493ca41140c97869b13c3ec347bfaf5bce5c4c0248916c5eeb34bea7c"), looks := false }, kinds := [], alts := [], laidByText := true, laidKinds := [.data], laidTests := true, laidLooks := .later }
def BlsNoneCardSaid : Prop := Claim7.holds Tryz.pinned (.plain (OpenSpec.ofChange blsNoneSpec)) blsNoneCard

/-- THE SECOND FORM's CARD OF 'reliquarylaw25.BlsNone'. -/
def blsNoneUptoCard : Claim7 := { stood := { row := blsNoneUptoRow, standIns := [], harness := (true, "1cb4f57493ca41140c97869b13c3ec347bfaf5bce5c4c0248916c5eeb34bea7c"), looks := false }, kinds := [], alts := [], laidByText := true, laidKinds := [.data], laidTests := true, laidLooks := .later }
def BlsNoneUptoCardSaid : Prop := Claim7.holds Tryz.pinned (.plain (OpenSpec.upto blsNoneSpec)) blsNoneUptoCard
end Rows
end Go.Proofs.YtdndmkcppacjnaaGreatDoor
