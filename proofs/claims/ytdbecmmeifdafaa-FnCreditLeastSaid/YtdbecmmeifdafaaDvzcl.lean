/- The arena by the plan of the least credits has the same credits: plain. -/
import Derived.Test.YtdbecmmeifdafaaDuzcl
namespace Go.Proofs.Ytdbecmmeifdafaa
open Go.RowKit
set_option linter.unusedVariables false
set_option linter.unusedSimpArgs false

theorem own_pre {w : Wt} (hwb : weightedB w = true) {c : List Int} (hL : Least w (boundW w) c) (hx : WSh (fixW w (planN w (c.map (decB (boundW w))) w.a.owner.length))) (hp : planOkB w.a 0 (planN w (c.map (decB (boundW w))) w.a.owner.length) = true) :
    PreC (fixW w (planN w (c.map (decB (boundW w))) w.a.owner.length)) (boundW w) c := by
  have hw := wsh_of hwb
  have hb := hw.bound.1
  have hfw := weighted_facts hwb
  rw [planOk_eq hfw.1 (by omega)] at hp
  obtain ⟨hpl, hpa⟩ := planB_at hp
  have hn := hfw.2.2.2.1
  have hcl := hfw.2.2.2.2.1
  refine ⟨hL.len, hL.rg, fun v hv => ?_⟩
  have hv' : v < w.a.owner.length := hv
  have hr := hL.rg v hv'
  have hpv : gi (planN w (c.map (decB (boundW w))) w.a.owner.length) v = planAt w (c.map (decB (boundW w))) v := planN_at hv'
  have hnx := fix_next (plan := planN w (c.map (decB (boundW w))) w.a.owner.length) (w := w) (v := v) (by omega)
  have hco := fix_cost (plan := planN w (c.map (decB (boundW w))) w.a.owner.length) (w := w) (v := v) (by omega)
  rcases Int.lt_or_le (boundW w) (gi c v) with h1 | h1
  · have := (stepT_rg hx hb (c := c) hv).2
    omega
  · refine (stepT_le hx hb hv hr.1 h1).2 ⟨fun e => ?_, fun e i hi => ?_⟩
    · have e' : gi w.a.owner v = 0 := e
      obtain ⟨j, hj, he, hpj⟩ := plan_edge hw hL hv' e' h1
      have ht := hw.to v hv' j hj
      have hset := (arenaB_at hfw.1 hv').2.2.2.2
      have hg : gi (planN w (c.map (decB (boundW w))) w.a.owner.length) v = gi (gl w.a.next v) j := hpv.trans hpj
      rw [hg, if_pos ht.1] at hnx hco
      refine ⟨0, by rw [hnx]; exact Nat.zero_lt_one, ?_⟩
      unfold Ed toE coE at he ⊢
      rw [hnx, hco]
      have hsc : stepC w v (gi (gl w.a.next v) j) = gi (gl w.cost v) j := by
        unfold stepC
        rw [Int.toNat_natCast, if_pos (by unfold hasB; rw [fidx_set hset hj]; exact decide_eq_true hj)]
        show gi (gl w.cost v) (fidx (gl w.a.next v) (gi (gl w.a.next v) j)) = _
        rw [fidx_set hset hj]
      rw [hsc]
      exact he
    · have e' : gi w.a.owner v = 1 := e
      have hg : ¬ 0 ≤ gi (planN w (c.map (decB (boundW w))) w.a.owner.length) v := by
        rcases hpa v (by omega) with h | h
        · omega
        · have := h.1; omega
      rw [if_neg hg] at hnx hco
      rw [hnx] at hi
      have he := ((stepT_le hw hb hv' hr.1 h1).1 (hL.pre v hv')).2 e' i hi
      unfold Ed toE coE at he ⊢
      rw [hnx, hco]
      exact he
theorem pre_lift {x : Wt} (hx : WSh x) {b B : Int} (hb : 0 ≤ b) (hB : b ≤ B) {d : List Int} (hd : PreC x b d) : PreC x B (tabL x.a.owner.length fun v => if gi d v ≤ b then gi d v else B + 1) := by
  have hat : ∀ v, v < x.a.owner.length → gi (tabL x.a.owner.length fun v => if gi d v ≤ b then gi d v else B + 1) v = if gi d v ≤ b then gi d v else B + 1 := fun v hv => tabL_at hv
  refine ⟨tabL_len _ _, fun v hv => ?_, fun v hv => ?_⟩
  · have := hd.rg v hv
    rw [hat v hv]
    split <;> omega
  · have hr := hd.rg v hv
    by_cases h : gi d v ≤ b
    · have hs := (stepT_le hx hb hv hr.1 h).1 (hd.pre v hv)
      have hed : ∀ j, j < (gl x.a.next v).length → Ed x b d v j (gi d v) → Ed x B (tabL x.a.owner.length fun v => if gi d v ≤ b then gi d v else B + 1) v j (gi d v) := fun j hj he => by
        have ht := hx.to v hv j hj
        have htn : toE x v j < x.a.owner.length := by unfold toE; omega
        obtain ⟨e1, e2⟩ := he
        unfold Ed
        rw [hat _ htn, if_pos e1]
        exact ⟨by omega, e2⟩
      rw [hat v hv, if_pos h]
      refine (stepT_le hx (by omega) hv hr.1 (by omega)).2 ⟨fun e => ?_, fun e j hj => hed j hj (hs.2 e j hj)⟩
      obtain ⟨j, hj, he⟩ := hs.1 e
      exact ⟨j, hj, hed j hj he⟩
    · rw [hat v hv, if_neg h]
      exact (stepT_rg hx (by omega) hv).2
/-- The plan of the least credits needs exactly them. -/
theorem own_same {x w : Wt} (hx : WSh x) (hw : WSh w) (h : FewerW x w) {cx c : List Int} (Lx : Least x (boundW x) cx) (Lw : Least w (boundW w) c) (hp : PreC x (boundW w) c) {v : Nat} (hv : v < w.a.owner.length) : decB (boundW x) (gi cx v) = decB (boundW w) (gi c v) := by
  have hv' : v < x.a.owner.length := by rw [h.own]; exact hv
  have b1 := hx.bound.1
  have b2 := hw.bound.1
  have hB : 0 ≤ max (boundW x) (boundW w) := by omega
  obtain ⟨dx, Ldx⟩ := least_ex hx hB
  have e1 := least_dec hx (Int.le_refl _) (by omega : boundW x ≤ max (boundW x) (boundW w)) Lx Ldx hv'
  have hle := Ldx.low _ (pre_lift hx b2 (by omega : boundW w ≤ max (boundW x) (boundW w)) hp) v hv'
  have hm := sub_more hx hw h Lx Lw hv
  rw [tabL_at hv'] at hle
  have hr := Lw.rg v hv
  have hr2 := Ldx.rg v hv'
  rw [e1] at hm ⊢
  unfold decB at hm ⊢
  split at hle <;> split at hm <;> split at hm <;> (try rename_i a b c) <;> (try split) <;> (try split) <;> omega
end Go.Proofs.Ytdbecmmeifdafaa
