/- the laws' helpers of Parity -/
import Derived.Test.YtdbecmmeifdafaaGDzmb
namespace Go.Proofs.Ytdbecmmeifdafaa
open Go.RowKit
set_option linter.unusedVariables false
set_option linter.unusedSimpArgs false

structure Pa where
  a : Ar
  prio : List Int
  deriving DecidableEq
/-- No length exceeds B. -/
structure Pa.Ln (B : Nat) (x : Pa) : Prop where
  a : x.a.Ln B
  prio : LnI B x.prio
end Go.Proofs.Ytdbecmmeifdafaa
