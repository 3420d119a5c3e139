/- fractions: both sides' tests -/
import Derived.Test.YtfipgnbpkbnalaaLoopMeanzUD
namespace Go.Proofs.Ytfipgnbpkbnalaa
open Go.RowKit
set_option linter.unusedVariables false
set_option linter.unusedSimpArgs false

def fracB (f : Fr) : Bool := decide ((-1000000 ≤ f.num ∧ f.num ≤ 1000000) ∧ (1 ≤ f.den ∧ f.den ≤ 1000000) ∧ (Int.gcd f.num f.den : Int) = 1)
end Go.Proofs.Ytfipgnbpkbnalaa
