/- Credits of an arena in which player 0 has fewer ways: plain. -/
import Derived.Test.YtdbecmmeifdafaaCxzmb
namespace Go.Proofs.Ytdbecmmeifdafaa
open Go.RowKit
set_option linter.unusedVariables false
set_option linter.unusedSimpArgs false

/-- x has, of the ways of player 0, no others than w, and of player 1 all. -/
structure FewerW (x w : Wt) : Prop where
  own : x.a.owner = w.a.owner
  w0 : ∀ v, v < w.a.owner.length → gi w.a.owner v = 0 → ∀ i, i < (gl x.a.next v).length → ∃ j, j < (gl w.a.next v).length ∧ toE x v i = toE w v j ∧ coE x v i = coE w v j
  w1 : ∀ v, v < w.a.owner.length → gi w.a.owner v = 1 → ∀ j, j < (gl w.a.next v).length → ∃ i, i < (gl x.a.next v).length ∧ toE x v i = toE w v j ∧ coE x v i = coE w v j
end Go.Proofs.Ytdbecmmeifdafaa
