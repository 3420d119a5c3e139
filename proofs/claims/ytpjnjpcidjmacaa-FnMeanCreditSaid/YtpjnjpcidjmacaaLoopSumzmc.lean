/- the sum of the costs around a loop: both sides -/
import Derived.Test.YtpjnjpcidjmacaaGWzmc
import Derived.Test.YtpjnjpcidjmacaaGDzmc
namespace Go.Proofs.Ytpjnjpcidjmacaa
open Go.RowKit
set_option linter.unusedVariables false
set_option linter.unusedSimpArgs false

end Go.Proofs.Ytpjnjpcidjmacaa
