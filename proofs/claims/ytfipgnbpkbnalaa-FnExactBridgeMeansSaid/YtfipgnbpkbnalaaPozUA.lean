/- plans that are right: both sides -/
import Derived.Test.YtfipgnbpkbnalaaPnzUA
namespace Go.Proofs.Ytfipgnbpkbnalaa
open Go.RowKit
set_option linter.unusedVariables false
set_option linter.unusedSimpArgs false

end Go.Proofs.Ytfipgnbpkbnalaa
