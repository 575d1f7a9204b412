/- Part Hs of the proof. -/
import Derived.Test.YtlloonffibabfaaGreatDoorHr
set_option linter.unusedVariables false
set_option linter.unusedSimpArgs false
namespace Go.Proofs.YtlloonffibabfaaGreatDoor
theorem suiteParts_holds:Rows.SuitePartsCardSaid:=Qhw Go.Sx.x_parts11
end Go.Proofs.YtlloonffibabfaaGreatDoor
