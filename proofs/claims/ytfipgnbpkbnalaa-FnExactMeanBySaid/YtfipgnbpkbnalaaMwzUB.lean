/- values against a fraction; the means of a game: both sides -/
import Derived.Test.YtfipgnbpkbnalaaMtzUB
import Derived.Test.YtfipgnbpkbnalaaMuzUB
import Derived.Test.YtfipgnbpkbnalaaFkzUB
namespace Go.Proofs.Ytfipgnbpkbnalaa
open Go.RowKit
set_option linter.unusedVariables false
set_option linter.unusedSimpArgs false

open MV (Gm)
theorem wmn_of {w : Wt} (h : meanB w = true) : WMn w := by
  have hw := meanB_ok h
  obtain ⟨h1, h2, h3, h4, h5, h6⟩ := weighted_facts hw
  have h8 : w.cost.length ≤ 8 := by unfold meanB at h; rw [Bool.and_eq_true, decide_eq_true_eq] at h; exact h.2
  exact ⟨wsh_of hw, by omega, fun v hv j hj => (h6 v hv).2.2.2 j (by rw [(h6 v hv).1]; exact hj)⟩
end Go.Proofs.Ytfipgnbpkbnalaa
