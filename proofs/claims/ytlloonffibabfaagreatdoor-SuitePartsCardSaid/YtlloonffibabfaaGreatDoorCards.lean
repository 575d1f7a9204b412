/-
  DERIVED. GIVEN WITH THE SEED: THE CARDS: each row of YtlloonffibabfaaGreatDoorRows.lean that lists a variable, with what it lists TIED to the program's text (the seventh form; the later family's looks); each row that meets fmt, with fmt's text TOLD by the authors' own Lean function (tested against real Go, not proved from fmt's source: count such statements apart). THE CARD IS WHAT COUNTS. Prove the row's statement (the work); the ties are given (YtlloonffibabfaaGreatDoorTie.lean); close each card by the builder's one call (the guide's Derived/Test/ToyasCard.lean, 'card_holds'). Laid BY PROGRAM, IN A SANDBOX (cutbox-door.mjs). By AI agents, Wed Nov 11 2026. No macro, syntax, notation, axiom, sorry.
-/
import Derived.Test.YtlloonffibabfaaGreatDoorRows
import GoSem.ClaimSeven
namespace Go.Proofs.YtlloonffibabfaaGreatDoor
namespace Rows

/-- THE TIED CARD OF 'reliquarylaw11.SuiteHashes'. -/
def suiteHashesCard : Claim7 := { stood := { row := suiteHashesRow, standIns := [], harness := (true, "a24b590213dfcbd6ebd87f853a37f7301d7095ef4afaecf794f4e0597b1407a9"), looks := false }, kinds := [], alts := [], laidByText := true, laidKinds := [.data], laidTests := true, laidLooks := .later }
def SuiteHashesCardSaid : Prop := Claim7.holds Tryz.pinned (.plain (OpenSpec.ofChange suiteHashesSpec)) suiteHashesCard

/-- THE TIED CARD OF 'reliquarylaw11.SuiteParts'. -/
def suitePartsCard : Claim7 := { stood := { row := suitePartsRow, standIns := [], harness := (true, "a24b590213dfcbd6ebd87f853a37f7301d7095ef4afaecf794f4e0597b1407a9"), looks := false }, kinds := [], alts := [], laidByText := true, laidKinds := [.data], laidTests := true, laidLooks := .later }
def SuitePartsCardSaid : Prop := Claim7.holds Tryz.pinned (.plain (OpenSpec.ofChange suitePartsSpec)) suitePartsCard

/-- THE TIED CARD OF 'reliquarylaw11.SuiteGroup'. -/
def suiteGroupCard : Claim7 := { stood := { row := suiteGroupRow, standIns := [], harness := (true, "a24b590213dfcbd6ebd87f853a37f7301d7095ef4afaecf794f4e0597b1407a9"), looks := false }, kinds := [], alts := [], laidByText := true, laidKinds := [.data], laidTests := true, laidLooks := .later }
def SuiteGroupCardSaid : Prop := Claim7.holds Tryz.pinned (.plain (OpenSpec.ofChange suiteGroupSpec)) suiteGroupCard

/-- THE TIED CARD OF 'reliquarylaw19.ShareMultiples'. -/
def shareMultiplesCard : Claim7 := { stood := { row := shareMultiplesRow, standIns := [], harness := (true, "a24b590213dfcbd6ebd87f853a37f7301d7095ef4afaecf794f4e0597b1407a9"), looks := false }, kinds := [], alts := [], laidByText := true, laidKinds := [.data], laidTests := true, laidLooks := .later }
def ShareMultiplesCardSaid : Prop := Claim7.holds Tryz.pinned (.plain (OpenSpec.ofChange shareMultiplesSpec)) shareMultiplesCard

/-- THE SECOND FORM's CARD OF 'reliquarylaw11.SuiteHashes'. -/
def suiteHashesUptoCard : Claim7 := { stood := { row := suiteHashesUptoRow, standIns := [], harness := (true, "a24b590213dfcbd6ebd87f853a37f7301d7095ef4afaecf794f4e0597b1407a9"), looks := false }, kinds := [], alts := [], laidByText := true, laidKinds := [.data], laidTests := true, laidLooks := .later }
def SuiteHashesUptoCardSaid : Prop := Claim7.holds Tryz.pinned (.plain (OpenSpec.upto suiteHashesSpec)) suiteHashesUptoCard

/-- THE SECOND FORM's CARD OF 'reliquarylaw11.SuiteParts'. -/
def suitePartsUptoCard : Claim7 := { stood := { row := suitePartsUptoRow, standIns := [], harness := (true, "a24b590213dfcbd6ebd87f853a37f7301d7095ef4afaecf794f4e0597b1407a9"), looks := false }, kinds := [], alts := [], laidByText := true, laidKinds := [.data], laidTests := true, laidLooks := .later }
def SuitePartsUptoCardSaid : Prop := Claim7.holds Tryz.pinned (.plain (OpenSpec.upto suitePartsSpec)) suitePartsUptoCard

/-- THE SECOND FORM's CARD OF 'reliquarylaw11.SuiteGroup'. -/
def suiteGroupUptoCard : Claim7 := { stood := { row := suiteGroupUptoRow, standIns := [], harness := (true, "a24b590213dfcbd6ebd87f853a37f7301d7095ef4afaecf794f4e0597b1407a9"), looks := false }, kinds := [], alts := [], laidByText := true, laidKinds := [.data], laidTests := true, laidLooks := .later }
def SuiteGroupUptoCardSaid : Prop := Claim7.holds Tryz.pinned (.plain (OpenSpec.upto suiteGroupSpec)) suiteGroupUptoCard

/-- THE SECOND FORM's CARD OF 'reliquarylaw19.ShareMultiples'. -/
def shareMultiplesUptoCard : Claim7 := { stood := { row := shareMultiplesUptoRow, standIns := [], harness := (true, "a24b590213dfcbd6ebd87f853a37f7301d7095ef4afaecf794f4e0597b1407a9"), looks := false }, kinds := [], alts := [], laidByText := true, laidKinds := [.data], laidTests := true, laidLooks := .later }
def ShareMultiplesUptoCardSaid : Prop := Claim7.holds Tryz.pinned (.plain (OpenSpec.upto shareMultiplesSpec)) shareMultiplesUptoCard
end Rows
end Go.Proofs.YtlloonffibabfaaGreatDoor
