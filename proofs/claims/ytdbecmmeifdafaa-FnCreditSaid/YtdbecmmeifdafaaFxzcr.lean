/- an arena with a plan fixed; with costs: both sides -/
import Derived.Test.YtdbecmmeifdafaaPozcr
import Derived.Test.YtdbecmmeifdafaaGPzcr
namespace Go.Proofs.Ytdbecmmeifdafaa
open Go.RowKit
set_option linter.unusedVariables false
set_option linter.unusedSimpArgs false

theorem planOk_facts {a : Ar} {who : Int} {plan : List Int} (h : planOkB a who plan = true) : arenaB a = true ∧ (0 ≤ who ∧ who ≤ 1) ∧ planB a who plan = true := by
  unfold planOkB at h
  rw [Bool.and_eq_true, Bool.and_eq_true, decide_eq_true_eq] at h
  exact ⟨h.1, h.2.1, h.2.2⟩
end Go.Proofs.Ytdbecmmeifdafaa
