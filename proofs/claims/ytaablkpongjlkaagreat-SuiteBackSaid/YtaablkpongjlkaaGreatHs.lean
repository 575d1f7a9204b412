/- Part Hs of the proof. -/
import Derived.Test.YtaablkpongjlkaaGreatHp
import Derived.Test.YtaablkpongjlkaaGreatHr
set_option linter.unusedVariables false
set_option linter.unusedSimpArgs false
namespace Go.Proofs.YtaablkpongjlkaaGreat
theorem suiteBack_holds:Rows.SuiteBackSaid:=suiteBackDone.over Go.Sx.x_back11
end Go.Proofs.YtaablkpongjlkaaGreat
