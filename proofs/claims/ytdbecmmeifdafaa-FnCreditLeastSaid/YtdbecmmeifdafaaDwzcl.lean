/- The law FnCreditLeast, plain. -/
import Derived.Test.YtdbecmmeifdafaaDvzcl
namespace Go.Proofs.Ytdbecmmeifdafaa
open Go.RowKit
set_option linter.unusedVariables false
set_option linter.unusedSimpArgs false

theorem plan_right {w : Wt} (hwb : weightedB w = true) {c : List Int} (hL : Least w (boundW w) c) : planOkB w.a 0 (planRes w c) = true := by
  have hw := wsh_of hwb
  have hfw := weighted_facts hwb
  rw [planRes_yes hwb, planOk_eq hfw.1 (by omega)]
  refine planB_yes (planN_len _ _ _) fun v hv => planAtB_ok ?_
  rw [planN_len] at hv
  rw [planN_at hv]
  by_cases h : gi w.a.owner v = 0 ∧ 0 ≤ gi (c.map (decB (boundW w))) v
  · have h1 : gi c v ≤ boundW w := by
      have := h.2
      rw [decB_map (by rw [hL.len]; exact hv)] at this
      unfold decB at this
      split at this <;> omega
    obtain ⟨j, hj, -, e⟩ := plan_edge hw hL hv h.1 h1
    rw [e]
    refine .inr ⟨h.1, ?_⟩
    unfold hasB
    rw [fidx_set (arenaB_at hfw.1 hv).2.2.2.2 hj]
    exact decide_eq_true hj
  · exact .inl (planAt_no h)
theorem fix_weighted {w : Wt} (hwb : weightedB w = true) {plan : List Int} (hp : planOkB w.a 0 plan = true) : weightedB (fixW w plan) = true := by
  obtain ⟨h1, h2, h3, h4, h5, h6⟩ := weighted_facts hwb
  rw [planOk_eq h1 (by omega)] at hp
  obtain ⟨hpl, hpa⟩ := planB_at hp
  have hnl : (fixW w plan).a.next.length = w.a.next.length := fixL_len (Nat.le_refl _)
  have hcl : (fixW w plan).cost.length = w.cost.length := fixL_len (Nat.le_refl _)
  have hto : ∀ v, v < w.a.owner.length → 0 ≤ gi plan v → 0 ≤ gi plan v ∧ gi plan v < w.a.owner.length := fun v hv hg => by
    have hh := ((hpa v (by omega)).resolve_left (by omega)).2
    have hlt := hasB_lt hh
    have hs := allB_at (arenaB_at h1 hv).2.2.2.2 hlt
    rw [← fidx_spec hlt] at hg ⊢
    unfold riseAt at hs
    have hs := of_decide_eq_true hs
    exact ⟨hg, hs.2.1⟩
  refine weightedB_iff.2 ⟨arenaB_true ⟨h2, (arenaB_len h1).2.1, by rw [hnl]; exact h4⟩ fun v hv => ?_, h3, by rw [hcl]; exact h5, fun v hv => ?_⟩
  · have hv' : v < w.a.owner.length := hv
    obtain ⟨a1, a2, a3, a4, a5⟩ := arenaB_at h1 hv'
    unfold arenaAt ownAt
    rw [fix_next (by omega)]
    by_cases hg : 0 ≤ gi plan v
    · rw [if_pos hg, Bool.and_eq_true]
      refine ⟨decide_eq_true ⟨a1, a2, Nat.le_refl 1, (show 1 ≤ 16 by decide)⟩, ?_⟩
      refine allB_true fun k hk => ?_
      have hk0 : k = 0 := by simp at hk; omega
      subst hk0
      have := hto v hv' hg
      exact decide_eq_true ⟨this.1, this.2, .inl rfl⟩
    · rw [if_neg hg, decide_eq_true ⟨a1, a2, a3, a4⟩, Bool.true_and]
      exact a5
  · rw [hcl] at hv
    obtain ⟨b1, b2, b3, b4⟩ := h6 v (by omega)
    rw [costAt_iff, fix_next (by omega), fix_cost hv]
    by_cases hg : 0 ≤ gi plan v
    · rw [if_pos hg, if_pos hg]
      refine ⟨rfl, fun j hj => ?_⟩
      have hj0 : j = 0 := by simp at hj; omega
      subst hj0
      exact inCost_iff.2 (stepC_le hwb (by omega))
    · rw [if_neg hg, if_neg hg]
      exact ⟨b1, fun j hj => inCost_iff.2 (b4 j hj)⟩
theorem more_law {w : Wt} (hwb : weightedB w = true) {plan : List Int} (hp : planOkB w.a 0 plan = true) {c cx : List Int} (hc : Least w (boundW w) c) (hcx : Least (fixW w plan) (boundW (fixW w plan)) cx) :
    (creditRes (fixW w plan) cx).length = (creditRes w c).length ∧ ∀ v, v < (creditRes w c).length → 0 ≤ gi (creditRes (fixW w plan) cx) v → 0 ≤ gi (creditRes w c) v ∧ gi (creditRes w c) v ≤ gi (creditRes (fixW w plan) cx) v := by
  have hxb := fix_weighted hwb hp
  have hx := wsh_of hxb
  have hw := wsh_of hwb
  have hl : cx.length = w.a.owner.length := hcx.len
  rw [creditRes_yes hwb, creditRes_yes hxb, List.length_map, List.length_map, hl, hc.len]
  refine ⟨rfl, fun v hv h0 => ?_⟩
  rw [decB_map (show v < cx.length by omega)] at h0 ⊢
  rw [decB_map (show v < c.length by rw [hc.len]; exact hv)]
  exact sub_more hx hw (fix_few hwb hp) hcx hc hv h0
theorem own_law' {w : Wt} (hwb : weightedB w = true) {c cy : List Int} (hc : Least w (boundW w) c) (hcy : Least (fixW w (planRes w c)) (boundW (fixW w (planRes w c))) cy) :
    creditRes (fixW w (planRes w c)) cy = creditRes w c := by
  have hp := plan_right hwb hc
  have hxb := fix_weighted hwb hp
  have hx := wsh_of hxb
  have hw := wsh_of hwb
  have hl : cy.length = w.a.owner.length := hcy.len
  rw [creditRes_yes hwb, creditRes_yes hxb]
  refine gi_ext' (by rw [List.length_map, List.length_map, hl, hc.len]) fun v hv => ?_
  rw [List.length_map, hl] at hv
  rw [decB_map (by omega), decB_map (by rw [hc.len]; exact hv)]
  have hpre := planRes_yes (c := c) hwb
  refine own_same hx hw (fix_few hwb hp) hcy hc ?_ hv
  rw [hpre] at hx hp ⊢
  exact own_pre hwb hc hx hp
end Go.Proofs.Ytdbecmmeifdafaa
