/- Credits of an arena in which player 0 has fewer ways: plain. -/
import Derived.Test.YtdbecmmeifdafaaCxzcl
namespace Go.Proofs.Ytdbecmmeifdafaa
open Go.RowKit
set_option linter.unusedVariables false
set_option linter.unusedSimpArgs false

/-- x has, of the ways of player 0, no others than w, and of player 1 all. -/
structure FewerW (x w : Wt) : Prop where
  own : x.a.owner = w.a.owner
  w0 : ∀ v, v < w.a.owner.length → gi w.a.owner v = 0 → ∀ i, i < (gl x.a.next v).length → ∃ j, j < (gl w.a.next v).length ∧ toE x v i = toE w v j ∧ coE x v i = coE w v j
  w1 : ∀ v, v < w.a.owner.length → gi w.a.owner v = 1 → ∀ j, j < (gl w.a.next v).length → ∃ i, i < (gl x.a.next v).length ∧ toE x v i = toE w v j ∧ coE x v i = coE w v j
theorem sub_pre {x w : Wt} (hx : WSh x) (hw : WSh w) (h : FewerW x w) {b : Int} (hb : 0 ≤ b) {d : List Int} (hd : PreC x b d) : PreC w b d := by
  have ho := h.own
  refine ⟨by rw [hd.len, ho], fun v hv => hd.rg v (by rw [ho]; exact hv), fun v hv => ?_⟩
  have hv' : v < x.a.owner.length := by rw [ho]; exact hv
  have hr := hd.rg v hv'
  rcases Int.lt_or_le b (gi d v) with h1 | h1
  · have := (stepT_rg hw hb (c := d) hv).2
    omega
  · have hs := (stepT_le hx hb hv' hr.1 h1).1 (hd.pre v hv')
    rw [ho] at hs
    refine (stepT_le hw hb hv hr.1 h1).2 ⟨fun e => ?_, fun e j hj => ?_⟩
    · obtain ⟨i, hi, he⟩ := hs.1 e
      obtain ⟨j, hj, e1, e2⟩ := h.w0 v hv e i hi
      exact ⟨j, hj, by unfold Ed at he ⊢; rw [← e1, ← e2]; exact he⟩
    · obtain ⟨i, hi, e1, e2⟩ := h.w1 v hv e j hj
      have he := hs.2 e i hi
      unfold Ed at he ⊢
      rw [← e1, ← e2]
      exact he
/-- With fewer ways player 0 needs no less. -/
theorem sub_more {x w : Wt} (hx : WSh x) (hw : WSh w) (h : FewerW x w) {cx cw : List Int} (Lx : Least x (boundW x) cx) (Lw : Least w (boundW w) cw) {v : Nat} (hv : v < w.a.owner.length) (h0 : 0 ≤ decB (boundW x) (gi cx v)) : 0 ≤ decB (boundW w) (gi cw v) ∧ decB (boundW w) (gi cw v) ≤ decB (boundW x) (gi cx v) := by
  have hv' : v < x.a.owner.length := by rw [h.own]; exact hv
  have b1 := hx.bound.1
  have b2 := hw.bound.1
  have hB : 0 ≤ max (boundW x) (boundW w) := by omega
  obtain ⟨dx, Ldx⟩ := least_ex hx hB
  obtain ⟨dw, Ldw⟩ := least_ex hw hB
  rw [least_dec hx (Int.le_refl _) (by omega : boundW x ≤ max (boundW x) (boundW w)) Lx Ldx hv'] at h0 ⊢
  rw [least_dec hw (Int.le_refl _) (by omega : boundW w ≤ max (boundW x) (boundW w)) Lw Ldw hv]
  have hle := Ldw.low dx (sub_pre hx hw h hB ⟨Ldx.len, Ldx.rg, Ldx.pre⟩) v hv
  have hr := Ldw.rg v hv
  unfold decB at h0 ⊢
  split at h0
  · omega
  · rw [if_neg (by omega), if_neg (by omega)]; omega
end Go.Proofs.Ytdbecmmeifdafaa
