/-
  DERIVED. GIVEN WITH THE SEED: THE CARDS: each row of YtokfnacfnffpdabGreatDoorRows.lean that lists a variable, with what it lists TIED to the program's text (the seventh form; the later family's looks); each row that meets fmt, with fmt's text TOLD by the authors' own Lean function (tested against real Go, not proved from fmt's source: count such statements apart). THE CARD IS WHAT COUNTS. Prove the row's statement (the work); the ties are given (YtokfnacfnffpdabGreatDoorTie.lean); close each card by the builder's one call (the guide's Derived/Test/ToyasCard.lean, 'card_holds'). Laid BY PROGRAM, IN A SANDBOX (cutbox-door.mjs). By AI agents, Wed Nov 11 2026. No macro, syntax, notation, axiom, sorry.
-/
import Derived.Test.YtokfnacfnffpdabGreatDoorRows
import GoSem.ClaimSeven
namespace Go.Proofs.YtokfnacfnffpdabGreatDoor
namespace Rows

/-- THE TIED CARD OF 'reliquarylaw18.OrderNil'. -/
def orderNilCard : Claim7 := { stood := { row := orderNilRow, standIns := [], harness := (true, "6fc59b49a297e55917a1aaa7c2cfde20639b28347a121a31907952f405d36c72"), looks := true }, kinds := [], alts := [], laidByText := true, laidKinds := [.data], laidTests := true, laidLooks := .later }
def OrderNilCardSaid : Prop := Claim7.holds Tryz.pinned (.plain (OpenSpec.ofChange orderNilSpec)) orderNilCard

/-- THE SECOND FORM's CARD OF 'reliquarylaw18.OrderNil'. -/
def orderNilUptoCard : Claim7 := { stood := { row := orderNilUptoRow, standIns := [], harness := (true, "6fc59b49a297e55917a1aaa7c2cfde20639b28347a121a31907952f405d36c72"), looks := true }, kinds := [], alts := [], laidByText := true, laidKinds := [.data], laidTests := true, laidLooks := .later }
def OrderNilUptoCardSaid : Prop := Claim7.holds Tryz.pinned (.plain (OpenSpec.upto orderNilSpec)) orderNilUptoCard
end Rows
end Go.Proofs.YtokfnacfnffpdabGreatDoor
