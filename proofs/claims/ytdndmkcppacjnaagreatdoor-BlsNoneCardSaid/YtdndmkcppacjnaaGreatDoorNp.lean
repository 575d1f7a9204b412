/- Part Np of the proof. -/
import Derived.Test.YtdndmkcppacjnaaGreatDoorNo
set_option linter.unusedVariables false
set_option linter.unusedSimpArgs false
namespace Go.Proofs.YtdndmkcppacjnaaGreatDoor
theorem blsNone_holds:Rows.BlsNoneCardSaid:=blsNone_over Go.Sx.x_bnone
end Go.Proofs.YtdndmkcppacjnaaGreatDoor
