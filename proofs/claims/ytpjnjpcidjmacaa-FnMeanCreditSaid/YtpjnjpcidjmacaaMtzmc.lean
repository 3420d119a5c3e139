/- the means of all vertices: the one side -/
import Derived.Test.YtpjnjpcidjmacaaMozmc
namespace Go.Proofs.Ytpjnjpcidjmacaa
open Go.RowKit
set_option linter.unusedVariables false
set_option linter.unusedSimpArgs false

open MV (Gm)
end Go.Proofs.Ytpjnjpcidjmacaa
