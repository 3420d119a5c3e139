/- the sum of the costs around a loop: both sides -/
import Derived.Test.YtdbecmmeifdafaaGWzmb
import Derived.Test.YtdbecmmeifdafaaGDzmb
namespace Go.Proofs.Ytdbecmmeifdafaa
open Go.RowKit
set_option linter.unusedVariables false
set_option linter.unusedSimpArgs false

end Go.Proofs.Ytdbecmmeifdafaa
