/- a weighted arena with a plan fixed: both sides -/
import Derived.Test.YtfipgnbpkbnalaaFxzUA
import Derived.Test.YtfipgnbpkbnalaaJ3zUA
namespace Go.Proofs.Ytfipgnbpkbnalaa
open Go.RowKit
set_option linter.unusedVariables false
set_option linter.unusedSimpArgs false

end Go.Proofs.Ytfipgnbpkbnalaa
