/- The plan by the values keeps every value: plain. -/
import Derived.Test.YtdbecmmeifdafaaEazmb
import Derived.Test.YtdbecmmeifdafaaDwzmb
namespace Go.Proofs.Ytdbecmmeifdafaa
open Go.RowKit MV
set_option linter.unusedVariables false
set_option linter.unusedSimpArgs false

theorem mp_fin {w : Wt} (h : meanB w = true) {C : Nat → List Int} (hC : MpL w C) {v u : Nat} (hv : v < w.a.owner.length) (hu : u < w.a.owner.length) : gi (C v) u ≤ boundW (scaleW w (gf (meansL w) v)) ↔ n840 (valF w v) ≤ n840 (valF w u) := by
  have hw := wmn_of h
  rw [fin_iff hw (gfm_ok h hv).2.1 (gfm_sh h hv) (hC h v hv) hu, gf_means hv]
  exact n840_le (valF_ok hw hu).2.2 (valF_ok hw hv).2.2
theorem mp_cong {w : Wt} (h : meanB w = true) {C : Nat → List Int} (hC : MpL w C) {u v t : Nat} (hu : u < w.a.owner.length) (hv : v < w.a.owner.length) (ht : t < w.a.owner.length) (e : valF w u = valF w v) (hf : gi (C v) t ≤ boundW (scaleW w (gf (meansL w) v))) : gi (C u) t = gi (C v) t := by
  have Lu := hC h u hu
  have Lv := hC h v hv
  have hs := gfm_sh h hv
  have eu : gf (meansL w) u = gf (meansL w) v := by rw [gf_means hu, gf_means hv, e]
  rw [eu] at Lu
  have hd := least_dec hs (Int.le_refl _) (Int.le_refl _) Lu Lv (v := t) ht
  have r1 := (Lu.rg t ht).1
  have r2 := (Lv.rg t ht).1
  unfold decB at hd
  split at hd <;> split at hd <;> omega
/-- The edge from v as the plan by the values wants it. -/
def MpE (w : Wt) (C : Nat → List Int) (v j : Nat) : Prop := gi (C v) (toE w v j) ≤ boundW (scaleW w (gf (meansL w) v)) ∧ gi (C v) (toE w v j) - (coE w v j * (valF w v).den - (valF w v).num) ≤ gi (C v) v
theorem mp_edge {w : Wt} (h : meanB w = true) {C : Nat → List Int} (hC : MpL w C) {v : Nat} (hv : v < w.a.owner.length) :
    (gi w.a.owner v = 0 → ∃ j, j < (gl w.a.next v).length ∧ mpAt w C v = gi (gl w.a.next v) j ∧ MpE w C v j) ∧ (gi w.a.owner v = 1 → ∀ j, j < (gl w.a.next v).length → MpE w C v j) := by
  have hw := wmn_of h
  have hs := gfm_sh h hv
  have hL := hC h v hv
  have hf := (mp_fin h hC hv hv).2 (Int.le_refl _)
  have hco : ∀ j, j < (gl w.a.next v).length → coE (scaleW w (gf (meansL w) v)) v j = coE w v j * (valF w v).den - (valF w v).num := fun j hj => by
    rw [← gf_means hv]
    exact scale_c hw.sh (gf (meansL w) v) hv hj
  constructor
  · intro e
    obtain ⟨j, hj, ⟨a1, a2⟩, a3⟩ := plan_edge hs hL hv e hf
    rw [hco j hj] at a2
    refine ⟨j, hj, ?_, a1, a2⟩
    unfold mpAt mpL
    rw [planN_gi hv]
    exact a3
  · intro e j hj
    have hr := hL.rg v hv
    obtain ⟨a1, a2⟩ := ((stepT_le hs hs.bound.1 hv hr.1 hf).1 (hL.pre v hv)).2 e j hj
    rw [hco j hj] at a2
    exact ⟨a1, a2⟩
theorem pot_arith {K d d0 num num0 co cu cv : Int} (hK : K * d = 840) (hK0 : 0 ≤ K) (h0 : 0 ≤ d0) (hN : 840 * num0 ≤ num * K * d0) (h : cu - (co * d - num) ≤ cv) : K * d0 * cu ≤ K * d0 * cv + 840 * (co * d0 - num0) := by
  have h1 := Int.mul_le_mul_of_nonneg_left (show cu - cv ≤ co * d - num by omega) (Int.mul_nonneg hK0 h0)
  rw [Int.mul_sub, Int.mul_sub] at h1
  have e1 : K * d0 * (co * d) = 840 * (co * d0) := by rw [← hK]; ac_rfl
  have e2 : K * d0 * num = num * K * d0 := by ac_rfl
  rw [e1, e2] at h1
  rw [Int.mul_sub]
  omega
/-- The potential of a vertex, counted for a denominator. -/
def mpB (w : Wt) (C : Nat → List Int) (d0 : Int) (v : Nat) : Int := by840 (valF w v).den * d0 * gi (C v) v + (6720000 - n840 (valF w v)) * 3091200000
theorem mpB_rg {w : Wt} (h : meanB w = true) {C : Nat → List Int} (hC : MpL w C) {d0 : Int} (h0 : 1 ≤ d0 ∧ d0 ≤ 8) {v : Nat} (hv : v < w.a.owner.length) : (0 ≤ by840 (valF w v).den * d0 * gi (C v) v ∧ by840 (valF w v).den * d0 * gi (C v) v ≤ 3091200000) ∧ n840 (valF w v) ≤ 6720000 ∧ 0 ≤ mpB w C d0 v := by
  have hw := wmn_of h
  have hf := valF_ok hw hv
  have hK := by840_mul hf.2.2
  have hfin := (mp_fin h hC hv hv).2 (Int.le_refl _)
  have hbd := (gfm_sh h hv).bound
  have hr := ((hC h v hv).rg v hv).1
  have hp : 0 ≤ by840 (valF w v).den * d0 ∧ by840 (valF w v).den * d0 ≤ 6720 := by
    constructor
    · exact Int.mul_nonneg (by omega) (by omega)
    · have := Int.mul_le_mul hK.2.2 h0.2 (by omega) (by omega)
      omega
  have a1 : 0 ≤ by840 (valF w v).den * d0 * gi (C v) v := Int.mul_nonneg hp.1 hr
  have a2 : by840 (valF w v).den * d0 * gi (C v) v ≤ 6720 * 460000 := Int.mul_le_mul hp.2 (by omega) hr (by omega)
  have a3 : n840 (valF w v) ≤ 6720000 := by
    have h1 : (valF w v).num * by840 (valF w v).den ≤ 8000 * by840 (valF w v).den := Int.mul_le_mul_of_nonneg_right hf.2.1.2 (by omega)
    unfold n840
    omega
  refine ⟨⟨a1, by omega⟩, a3, ?_⟩
  unfold mpB
  have := Int.mul_nonneg (show 0 ≤ 6720000 - n840 (valF w v) by omega) (show (0 : Int) ≤ 3091200000 by decide)
  omega
theorem mp_pot {w : Wt} (h : meanB w = true) {C : Nat → List Int} (hC : MpL w C) {f0 : Fr} (h0 : 1 ≤ f0.den ∧ f0.den ≤ 8) {v j : Nat} (hv : v < w.a.owner.length) (hj : j < (gl w.a.next v).length) (he : MpE w C v j) (hS : 840 * f0.num ≤ n840 (valF w v) * f0.den) :
    840 * f0.num ≤ n840 (valF w (toE w v j)) * f0.den ∧ mpB w C f0.den (toE w v j) ≤ mpB w C f0.den v + 840 * (coE w v j * f0.den - f0.num) := by
  have hw := wmn_of h
  have hu : toE w v j < w.a.owner.length := (gm_ok20 hw.sh).to v hv j hj
  unfold MpE at he
  generalize toE w v j = u at he hu ⊢
  have hK := by840_mul (valF_ok hw hv).2.2
  have hN := (mp_fin h hC hv hu).1 he.1
  have hpa := pot_arith (num := (valF w v).num) (d0 := f0.den) (num0 := f0.num) (cu := gi (C v) u) (cv := gi (C v) v) (co := coE w v j) hK.1 (by omega) (by omega) hS he.2
  have hcu := ((hC h v hv).rg u hu).1
  have hS2 : 840 * f0.num ≤ n840 (valF w u) * f0.den := Int.le_trans hS (Int.mul_le_mul_of_nonneg_right hN (by omega))
  refine ⟨hS2, ?_⟩
  have rv := mpB_rg h hC h0 hv
  have ru := mpB_rg h hC h0 hu
  rcases Int.lt_or_le (n840 (valF w v)) (n840 (valF w u)) with h1 | h1
  · have h2 : 0 ≤ by840 (valF w v).den * f0.den * gi (C v) u := Int.mul_nonneg (Int.mul_nonneg (by omega) (by omega)) hcu
    unfold mpB
    omega
  · have ee : n840 (valF w u) = n840 (valF w v) := by omega
    have e2 : valF w u = valF w v := val_same hw hw hu hv ((n840_le (valF_ok hw hu).2.2 (valF_ok hw hv).2.2).2 (by omega)) ((n840_le (valF_ok hw hv).2.2 (valF_ok hw hu).2.2).2 (by omega))
    have e3 := mp_cong h hC hu hv hu e2 he.1
    unfold mpB
    rw [e3, e2]
    omega
theorem mpN_at {w : Wt} {C : Nat → List Int} {n v : Nat} (h : v < n) : gi (mpN w C n) v = mpAt w C v := by
  unfold gi mpN
  rw [List.getD_eq_getElem?_getD, List.getElem?_map, List.getElem?_range h]
  rfl
theorem mp_right {w : Wt} (h : meanB w = true) {C : Nat → List Int} (hC : MpL w C) : planOkB w.a 0 (mpRes w C) = true := by
  have hwb := meanB_ok h
  have hfw := weighted_facts hwb
  rw [mpRes_yes h, planOk_eq hfw.1 (by omega)]
  refine planB_yes (mpN_len _ _ _) fun v hv => planAtB_ok ?_
  rw [mpN_len] at hv
  rw [mpN_at hv]
  by_cases e : gi w.a.owner v = 0
  · obtain ⟨j, hj, e1, -⟩ := (mp_edge h hC hv).1 e
    rw [e1]
    refine .inr ⟨e, ?_⟩
    unfold hasB
    rw [fidx_set (arenaB_at hfw.1 hv).2.2.2.2 hj]
    exact decide_eq_true hj
  · exact .inl (mpAt_no hv e)
theorem mp_fwB {w : Wt} (h : meanB w = true) {C : Nat → List Int} (hC : MpL w C) : fwB w 0 (mpRes w C) = true := by
  unfold fwB
  rw [meanB_ok h, mp_right h hC]; rfl
/-- The plan by the values brings no less than the value. -/
theorem mp_keep {w : Wt} (h : meanB w = true) {C : Nat → List Int} (hC : MpL w C) {v0 : Nat} (hv0 : v0 < w.a.owner.length) : lessF (valF (fixW w (mpRes w C)) v0) (valF w v0) = false := by
  have hw := wmn_of h
  have hwb := meanB_ok h
  have hfw := weighted_facts hwb
  have hb := mp_fwB h hC
  have hx := fix_mn h hb
  rw [fw_yes hb] at hx
  have hf0 := valF_ok hw hv0
  have hpl : ∀ v, v < w.a.owner.length → gi (mpRes w C) v = mpAt w C v := fun v hv => by rw [mpRes_yes h]; exact mpN_at hv
  have hn : ∀ v, v < w.a.owner.length → gl (fixW w (mpRes w C)).a.next v = if 0 ≤ mpAt w C v then [mpAt w C v] else gl w.a.next v := fun v hv => by rw [fix_next (by omega), hpl v hv]
  have hc : ∀ v, v < w.a.owner.length → gl (fixW w (mpRes w C)).cost v = if 0 ≤ mpAt w C v then [stepC w v (mpAt w C v)] else gl w.cost v := fun v hv => by rw [fix_cost (by omega), hpl v hv]
  refine (val_iff hx _ hf0.2.2.1 hv0).2 ⟨mpB w C (valF w v0).den v0, fun k => ?_⟩
  rw [scale_pay hx.sh _ (by omega) k v0 hv0]
  have hpp := pot_pay hx.sh (f := valF w v0) (by omega) (fun v => 840 * (valF w v0).num ≤ n840 (valF w v) * (valF w v0).den) (mpB w C (valF w v0).den) (q := 840) (by decide)
    (fun v hv _ => (mpB_rg h hC hf0.2.2 hv).2.2)
    (fun v hv hS e => by
      have hv' : v < w.a.owner.length := hv
      obtain ⟨j, hj, e1, e2⟩ := (mp_edge h hC hv').1 e
      have hge : 0 ≤ mpAt w C v := by rw [e1]; exact (hw.sh.to v hv' j hj).1
      have n1 := hn v hv'
      have c1 := hc v hv'
      rw [if_pos hge] at n1 c1
      have hm := mp_pot h hC hf0.2.2 hv' hj e2 hS
      have t1 : toE (fixW w (mpRes w C)) v 0 = toE w v j := by unfold toE; rw [n1, ← e1]; rfl
      have t2 : coE (fixW w (mpRes w C)) v 0 = coE w v j := by
        unfold coE
        rw [c1, show gi [stepC w v (mpAt w C v)] 0 = stepC w v (mpAt w C v) from rfl, e1]
        exact stepC_at hwb hv' hj
      refine ⟨0, by rw [n1]; exact Nat.zero_lt_one, ?_, ?_⟩
      · rw [t1]; exact hm.1
      · rw [t1, t2]; exact hm.2)
    (fun v hv hS e j hj => by
      have hv' : v < w.a.owner.length := hv
      have e9 : gi w.a.owner v = 1 := e
      have hge : ¬ 0 ≤ mpAt w C v := by rw [mpAt_no hv' (by omega)]; decide
      have n1 := hn v hv'
      have c1 := hc v hv'
      rw [if_neg hge] at n1 c1
      rw [n1] at hj
      have t1 : toE (fixW w (mpRes w C)) v j = toE w v j := by unfold toE; rw [n1]
      have t2 : coE (fixW w (mpRes w C)) v j = coE w v j := by unfold coE; rw [c1]
      rw [t1, t2]
      exact mp_pot h hC hf0.2.2 hv' hj ((mp_edge h hC hv').2 e9 j hj) hS)
    k v0 hv0 (by
      show 840 * (valF w v0).num ≤ n840 (valF w v0) * (valF w v0).den
      unfold n840
      have := (by840_mul hf0.2.2).1
      rw [Int.mul_assoc, this]
      omega)
  have := (mpB_rg h hC hf0.2.2 hv0).2.2
  generalize (gmW (fixW w (mpRes w C))).pay k v0 * (valF w v0).den - k * (valF w v0).num = P at hpp ⊢
  omega
theorem fw_few {w : Wt} (h : meanB w = true) {plan : List Int} (hb : fwB w 0 plan = true) {v : Nat} (hv : v < w.a.owner.length) : lessF (valF w v) (valF (fixW w plan) v) = false := by
  have hx := fix_mn h hb
  rw [fw_yes hb] at hx
  exact few_val hx (wmn_of h) (fix_few (meanB_ok h) (fwB_facts hb).2) hv
/-- The plan by the values brings exactly the value. -/
theorem mp_same {w : Wt} (h : meanB w = true) {C : Nat → List Int} (hC : MpL w C) {v : Nat} (hv : v < w.a.owner.length) : valF (fixW w (mpRes w C)) v = valF w v := by
  have hb := mp_fwB h hC
  have hx := fix_mn h hb
  rw [fw_yes hb] at hx
  exact val_same hx (wmn_of h) hv hv (mp_keep h hC hv) (fw_few h hb hv)
end Go.Proofs.Ytdbecmmeifdafaa
