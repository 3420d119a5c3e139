/- An arena by a plan of player 0 has fewer ways: plain. -/
import Derived.Test.YtdbecmmeifdafaaDrzmb
import Derived.Test.YtdbecmmeifdafaaFwzmb
namespace Go.Proofs.Ytdbecmmeifdafaa
open Go.RowKit
set_option linter.unusedVariables false
set_option linter.unusedSimpArgs false

theorem fix_next {w : Wt} {plan : List Int} {v : Nat} (h : v < w.a.next.length) : gl (fixW w plan).a.next v = if 0 ≤ gi plan v then [gi plan v] else gl w.a.next v := fixL_at h
theorem fix_cost {w : Wt} {plan : List Int} {v : Nat} (h : v < w.cost.length) : gl (fixW w plan).cost v = if 0 ≤ gi plan v then [stepC w v (gi plan v)] else gl w.cost v := fixL_at h
theorem fix_few {w : Wt} (hw : weightedB w = true) {plan : List Int} (hp : planOkB w.a 0 plan = true) : FewerW (fixW w plan) w := by
  obtain ⟨h1, h2, h3, h4, h5, h6⟩ := weighted_facts hw
  rw [planOk_eq h1 (by omega)] at hp
  obtain ⟨hpl, hpa⟩ := planB_at hp
  refine ⟨rfl, fun v hv e i hi => ?_, fun v hv e j hj => ?_⟩
  · unfold toE coE
    rw [fix_next (by omega)] at hi ⊢
    rw [fix_cost (by omega)]
    by_cases hg : 0 ≤ gi plan v
    · rw [if_pos hg] at hi ⊢
      rw [if_pos hg]
      have hh : hasB (gl w.a.next v) (gi plan v) = true := ((hpa v (by omega)).resolve_left (by omega)).2
      have hlt := hasB_lt hh
      have hi0 : i = 0 := by simp at hi; omega
      subst hi0
      refine ⟨fidx (gl w.a.next v) (gi plan v), hlt, ?_, ?_⟩
      · rw [fidx_spec hlt]; rfl
      · show stepC w v (gi plan v) = _
        unfold stepC
        rw [Int.toNat_natCast, if_pos hh]
        rfl
    · rw [if_neg hg] at hi ⊢
      rw [if_neg hg]
      exact ⟨i, hi, rfl, rfl⟩
  · have hg : ¬ 0 ≤ gi plan v := by
      rcases hpa v (by omega) with h | h
      · omega
      · have := h.1; omega
    unfold toE coE
    rw [fix_next (by omega), fix_cost (by omega), if_neg hg, if_neg hg]
    exact ⟨j, hj, rfl, rfl⟩
end Go.Proofs.Ytdbecmmeifdafaa
