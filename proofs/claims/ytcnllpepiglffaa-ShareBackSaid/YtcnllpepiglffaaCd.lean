/- ShareBack: as many shares as a polynomial has coefficients say its value at each place, and all its shares fit its degree, for every input: proved of the code, with no condition. -/
import Derived.Test.YtcnllpepiglffaaCc
import Derived.Test.YtcnllpepiglffaaTb
set_option linter.unusedVariables false
set_option linter.unusedSimpArgs false
namespace Go.Proofs.Ytcnllpepiglffaa
theorem shareBack_holds : Rows.ShareBackSaid := shareBackDone.over Go.Sx.x_back
end Go.Proofs.Ytcnllpepiglffaa
