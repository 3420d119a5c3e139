/- an arena with a plan fixed; with costs: both sides -/
import Derived.Test.YtfipgnbpkbnalaaPozUA
import Derived.Test.YtfipgnbpkbnalaaGPzUA
namespace Go.Proofs.Ytfipgnbpkbnalaa
open Go.RowKit
set_option linter.unusedVariables false
set_option linter.unusedSimpArgs false

end Go.Proofs.Ytfipgnbpkbnalaa
