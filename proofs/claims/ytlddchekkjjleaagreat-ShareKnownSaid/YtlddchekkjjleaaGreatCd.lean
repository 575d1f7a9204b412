/- ShareKnown: the chapter's examples are answered as it says: proved of the code, with no condition. -/
import Derived.Test.YtlddchekkjjleaaGreatCc
import Derived.Test.YtlddchekkjjleaaGreatTb
set_option linter.unusedVariables false
set_option linter.unusedSimpArgs false
namespace Go.Proofs.YtlddchekkjjleaaGreat
theorem shareKnown_holds : Rows.ShareKnownSaid := shareKnownDone.over Go.Sx.x_known19
end Go.Proofs.YtlddchekkjjleaaGreat
