/- The arena by the plan of the least credits has the same credits: plain. -/
import Derived.Test.YtdbecmmeifdafaaDuzmb
namespace Go.Proofs.Ytdbecmmeifdafaa
open Go.RowKit
set_option linter.unusedVariables false
set_option linter.unusedSimpArgs false

end Go.Proofs.Ytdbecmmeifdafaa
