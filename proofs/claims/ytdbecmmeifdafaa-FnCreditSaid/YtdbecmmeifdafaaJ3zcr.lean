/- a box's objects come home, but for some -/

import Derived.Test.YtdbecmmeifdafaaGDzcr
namespace Go.Proofs.Ytdbecmmeifdafaa
open Go Go.RowKit
set_option linter.unusedVariables false
end Go.Proofs.Ytdbecmmeifdafaa
