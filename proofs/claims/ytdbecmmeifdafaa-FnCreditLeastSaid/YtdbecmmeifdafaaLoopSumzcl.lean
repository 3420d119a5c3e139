/- the sum of the costs around a loop: both sides -/
import Derived.Test.YtdbecmmeifdafaaGWzcl
import Derived.Test.YtdbecmmeifdafaaGDzcl
namespace Go.Proofs.Ytdbecmmeifdafaa
open Go.RowKit
set_option linter.unusedVariables false
set_option linter.unusedSimpArgs false

end Go.Proofs.Ytdbecmmeifdafaa
