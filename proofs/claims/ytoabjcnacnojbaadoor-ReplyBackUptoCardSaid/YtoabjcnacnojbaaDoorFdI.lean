/- The walk of the document's WordBytes. -/
import Derived.Test.YtoabjcnacnojbaaDoorFdH
set_option linter.unusedVariables false
set_option linter.unusedSimpArgs false
namespace Go.Proofs.YtoabjcnacnojbaaDoor
open Go.RowKit

end Go.Proofs.YtoabjcnacnojbaaDoor
