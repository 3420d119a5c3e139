/- The law FnCreditLeast, plain. -/
import Derived.Test.YtdbecmmeifdafaaDvzmb
namespace Go.Proofs.Ytdbecmmeifdafaa
open Go.RowKit
set_option linter.unusedVariables false
set_option linter.unusedSimpArgs false

end Go.Proofs.Ytdbecmmeifdafaa
