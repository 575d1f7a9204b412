/- ShareValues: a polynomial's value and its shares are the document's, for every input: proved of the code, with no condition. -/
import Derived.Test.YtcnllpepiglffaaCc
import Derived.Test.YtcnllpepiglffaaTb
namespace Go.Proofs.Ytcnllpepiglffaa
theorem shareValues_holds : Rows.ShareValuesSaid := shareValuesDone.over Go.Sx.x_values
end Go.Proofs.Ytcnllpepiglffaa
