/- plans: both sides -/
import Derived.Test.YtfipgnbpkbnalaaGWzUA
namespace Go.Proofs.Ytfipgnbpkbnalaa
open Go.RowKit
set_option linter.unusedVariables false
set_option linter.unusedSimpArgs false

end Go.Proofs.Ytfipgnbpkbnalaa
