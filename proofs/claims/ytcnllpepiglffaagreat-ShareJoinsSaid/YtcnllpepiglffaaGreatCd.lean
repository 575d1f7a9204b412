/- ShareJoins: the Lagrange numbers of any ids, what any shares join to, and whether they fit a degree, are the document's, or its error is told, for every input: proved of the code, with no condition. -/
import Derived.Test.YtcnllpepiglffaaGreatCc
import Derived.Test.YtcnllpepiglffaaGreatTc
set_option linter.unusedVariables false
set_option linter.unusedSimpArgs false
namespace Go.Proofs.YtcnllpepiglffaaGreat
theorem shareJoins_holds : Rows.ShareJoinsSaid := shareJoinsDone.over Go.Sx.x_joins
end Go.Proofs.YtcnllpepiglffaaGreat
