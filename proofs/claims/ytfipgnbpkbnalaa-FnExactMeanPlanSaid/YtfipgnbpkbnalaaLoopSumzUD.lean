/- the sum of the costs around a loop: both sides -/
import Derived.Test.YtfipgnbpkbnalaaGWzUD
import Derived.Test.YtfipgnbpkbnalaaGDzUD
namespace Go.Proofs.Ytfipgnbpkbnalaa
open Go.RowKit
set_option linter.unusedVariables false
set_option linter.unusedSimpArgs false

end Go.Proofs.Ytfipgnbpkbnalaa
