/- The law FnCreditLeast, plain. -/
import Derived.Test.YtdbecmmeifdafaaDvzcr
namespace Go.Proofs.Ytdbecmmeifdafaa
open Go.RowKit
set_option linter.unusedVariables false
set_option linter.unusedSimpArgs false

theorem plan_right {w : Wt} (hwb : weightedB w = true) {c : List Int} (hL : Least w (boundW w) c) : planOkB w.a 0 (planRes w c) = true := by
  have hw := wsh_of hwb
  have hfw := weighted_facts hwb
  rw [planRes_yes hwb, planOk_eq hfw.1 (by omega)]
  refine planB_yes (planN_len _ _ _) fun v hv => planAtB_ok ?_
  rw [planN_len] at hv
  rw [planN_at hv]
  by_cases h : gi w.a.owner v = 0 ∧ 0 ≤ gi (c.map (decB (boundW w))) v
  · have h1 : gi c v ≤ boundW w := by
      have := h.2
      rw [decB_map (by rw [hL.len]; exact hv)] at this
      unfold decB at this
      split at this <;> omega
    obtain ⟨j, hj, -, e⟩ := plan_edge hw hL hv h.1 h1
    rw [e]
    refine .inr ⟨h.1, ?_⟩
    unfold hasB
    rw [fidx_set (arenaB_at hfw.1 hv).2.2.2.2 hj]
    exact decide_eq_true hj
  · exact .inl (planAt_no h)
end Go.Proofs.Ytdbecmmeifdafaa
