/- the mean of a loop: both sides -/
import Derived.Test.YtdbecmmeifdafaaLoopSumzcr
import Derived.Test.YtdbecmmeifdafaaTFraczcr
namespace Go.Proofs.Ytdbecmmeifdafaa
open Go.RowKit
set_option linter.unusedVariables false
set_option linter.unusedSimpArgs false

end Go.Proofs.Ytdbecmmeifdafaa
