/- the laws' helpers of Frac -/
import Derived.Test.YtdbecmmeifdafaaGDzmb
namespace Go.Proofs.Ytdbecmmeifdafaa
open Go.RowKit
set_option linter.unusedVariables false
set_option linter.unusedSimpArgs false

structure Fr where
  num : Int
  den : Int
  deriving DecidableEq
def dFr (x : Fr) : List D := [.int .i64 x.num, .int .i64 x.den]
end Go.Proofs.Ytdbecmmeifdafaa
