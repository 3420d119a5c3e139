/- An arena by a plan of player 0 has fewer ways: plain. -/
import Derived.Test.YtdbecmmeifdafaaDrzcr
import Derived.Test.YtdbecmmeifdafaaFwzcr
namespace Go.Proofs.Ytdbecmmeifdafaa
open Go.RowKit
set_option linter.unusedVariables false
set_option linter.unusedSimpArgs false

end Go.Proofs.Ytdbecmmeifdafaa
