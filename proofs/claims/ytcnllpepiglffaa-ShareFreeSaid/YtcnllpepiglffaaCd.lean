/- ShareFree: for any shares but one of as many as are needed, and any secret, there is a polynomial that has them all, for every input: proved of the code, with no condition. -/
import Derived.Test.YtcnllpepiglffaaCc
import Derived.Test.YtcnllpepiglffaaTb
set_option linter.unusedVariables false
set_option linter.unusedSimpArgs false
namespace Go.Proofs.Ytcnllpepiglffaa
theorem shareFree_holds : Rows.ShareFreeSaid := shareFreeDone.over Go.Sx.x_free
end Go.Proofs.Ytcnllpepiglffaa
