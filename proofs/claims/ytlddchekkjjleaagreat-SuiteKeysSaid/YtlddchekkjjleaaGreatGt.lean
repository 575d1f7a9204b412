/- SuiteKeys: whether keys may be, what comes of adding, negating and multiplying them, their bytes, and the key of any bytes are as the chapter says: proved of the code, with no condition. -/
import Derived.Test.YtlddchekkjjleaaGreatGs
import Derived.Test.YtlddchekkjjleaaGreatGr
set_option linter.unusedVariables false
set_option linter.unusedSimpArgs false
namespace Go.Proofs.YtlddchekkjjleaaGreat
theorem suiteKeys_holds:Rows.SuiteKeysSaid:=suiteKeysDone.over Go.Sx.x_keys11
end Go.Proofs.YtlddchekkjjleaaGreat
