/- Part Gt of the proof. -/
import Derived.Test.YtlloonffibabfaaGreatDoorGs
set_option linter.unusedVariables false
set_option linter.unusedSimpArgs false
namespace Go.Proofs.YtlloonffibabfaaGreatDoor
theorem suiteGroup_holds:Rows.SuiteGroupCardSaid:=Qkc Go.Sx.x_group11
end Go.Proofs.YtlloonffibabfaaGreatDoor
