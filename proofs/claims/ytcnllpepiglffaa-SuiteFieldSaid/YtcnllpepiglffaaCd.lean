/- SuiteField: the scalars of every suite are a field, for every three numbers: proved of the code, with no condition. -/
import Derived.Test.YtcnllpepiglffaaCc
import Derived.Test.YtcnllpepiglffaaTd
namespace Go.Proofs.Ytcnllpepiglffaa
theorem suiteField_holds : Rows.SuiteFieldSaid := suiteFieldDone.over Go.Sx.x_field11
end Go.Proofs.Ytcnllpepiglffaa
