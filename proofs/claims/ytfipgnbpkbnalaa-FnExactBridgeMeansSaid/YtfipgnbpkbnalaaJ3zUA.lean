/- a box's objects come home, but for some -/

import Derived.Test.YtfipgnbpkbnalaaGDzUA
namespace Go.Proofs.Ytfipgnbpkbnalaa
open Go Go.RowKit
set_option linter.unusedVariables false
end Go.Proofs.Ytfipgnbpkbnalaa
