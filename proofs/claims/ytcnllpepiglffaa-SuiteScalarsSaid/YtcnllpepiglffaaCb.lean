/- SuiteScalars: for every suite and every two numbers the program's scalars are the document's, or just its error is told: proved of the code, with no condition. -/
import Derived.Test.YtcnllpepiglffaaCa
import Derived.Test.YtcnllpepiglffaaTb
namespace Go.Proofs.Ytcnllpepiglffaa
theorem suiteScalars_holds : Rows.SuiteScalarsSaid := suiteScalarsDone.over Go.Sx.x_scal
end Go.Proofs.Ytcnllpepiglffaa
