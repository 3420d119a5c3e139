/- the laws' helpers of Frac -/
import Derived.Test.YtdbecmmeifdafaaGDzcr
namespace Go.Proofs.Ytdbecmmeifdafaa
open Go.RowKit
set_option linter.unusedVariables false
set_option linter.unusedSimpArgs false

structure Fr where
  num : Int
  den : Int
  deriving DecidableEq
end Go.Proofs.Ytdbecmmeifdafaa
