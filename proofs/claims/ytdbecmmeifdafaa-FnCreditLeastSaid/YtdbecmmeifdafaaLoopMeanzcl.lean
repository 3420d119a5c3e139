/- the mean of a loop: both sides -/
import Derived.Test.YtdbecmmeifdafaaLoopSumzcl
import Derived.Test.YtdbecmmeifdafaaTFraczcl
namespace Go.Proofs.Ytdbecmmeifdafaa
open Go.RowKit
set_option linter.unusedVariables false
set_option linter.unusedSimpArgs false

end Go.Proofs.Ytdbecmmeifdafaa
