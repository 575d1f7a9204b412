/- SuiteKnown: the chapter's examples are answered as it says: proved of the code, with no condition. -/
import Derived.Test.YtlddchekkjjleaaGreatCc
import Derived.Test.YtlddchekkjjleaaGreatTb
set_option linter.unusedVariables false
set_option linter.unusedSimpArgs false
namespace Go.Proofs.YtlddchekkjjleaaGreat
theorem suiteKnown_holds : Rows.SuiteKnownSaid := suiteKnownDone.over Go.Sx.x_known11
end Go.Proofs.YtlddchekkjjleaaGreat
