/- Part Gu of the proof. -/
import Derived.Test.YtaablkpongjlkaaGreatGr
import Derived.Test.YtaablkpongjlkaaGreatGt
set_option linter.unusedVariables false
set_option linter.unusedSimpArgs false
namespace Go.Proofs.YtaablkpongjlkaaGreat
theorem suiteSigs_holds:Rows.SuiteSigsSaid:=suiteSigsDone.over Go.Sx.x_sigs11
end Go.Proofs.YtaablkpongjlkaaGreat
