/- Plays under a potential: plain. -/
import Derived.Test.YtdbecmmeifdafaaQkzcr
import Derived.Test.YtdbecmmeifdafaaDwzcr
import Derived.Test.YtdbecmmeifdafaaLassoCreditzcr
namespace Go.Proofs.Ytdbecmmeifdafaa
open Go.RowKit
set_option linter.unusedVariables false
set_option linter.unusedSimpArgs false

/-- Along a play by two plans a potential falls by no more than the steps bring. -/
theorem play_pot {w : Wt} {even odd : List Int} {v0 : Int} {l : Ls} (hP : PlayP w.a even odd v0 l) (S : Nat → Prop) (B : Nat → Int) {q d m : Int} (hS : S v0.toNat)
    (h : ∀ v, v < w.a.owner.length → S v → S (goP w.a even odd v).toNat ∧ B (goP w.a even odd v).toNat ≤ B v + q * (stepC w v (goP w.a even odd v) * d - m)) :
    ∀ k i, i + k ≤ l.stem.length + l.loop.length → S (gi (wayL l) i).toNat → S (gi (wayL l) (i + k)).toNat ∧ B (gi (wayL l) (i + k)).toNat ≤ B (gi (wayL l) i).toNat + q * (psum (fun j => stepL w l (i + j)) k * d - k * m)
  | 0, i, hk, hs => by
    refine ⟨hs, ?_⟩
    show B (gi (wayL l) i).toNat ≤ B (gi (wayL l) i).toNat + q * ((0 : Int) * d - ((0 : Nat) : Int) * m)
    rw [Int.zero_mul, Int.natCast_zero, Int.zero_mul, Int.sub_zero, Int.mul_zero, Int.add_zero]
    exact Int.le_refl _
  | k + 1, i, hk, hs => by
    obtain ⟨s1, b1⟩ := play_pot hP S B hS h k i (by omega) hs
    have hr := hP.rg (i + k) (by omega)
    have hg := hP.go (i + k) (by omega)
    have h2 := h (gi (wayL l) (i + k)).toNat (by omega) s1
    rw [Int.toNat_of_nonneg hr.1, ← hg] at h2
    refine ⟨h2.1, ?_⟩
    have h3 := h2.2
    have e : psum (fun j => stepL w l (i + j)) (k + 1) = psum (fun j => stepL w l (i + j)) k + stepC w (gi (wayL l) (i + k)) (gi (wayL l) (i + k + 1)) := rfl
    have e2 : q * (psum (fun j => stepL w l (i + j)) (k + 1) * d - ((k + 1 : Nat) : Int) * m) = q * (psum (fun j => stepL w l (i + j)) k * d - k * m) + q * (stepC w (gi (wayL l) (i + k)) (gi (wayL l) (i + k + 1)) * d - m) := by
      rw [e, show ((k + 1 : Nat) : Int) = (k : Int) + 1 by omega, Int.add_mul, Int.add_mul, Int.one_mul, ← Int.mul_add]
      refine congrArg (q * ·) ?_
      show _ = _
      omega
    rw [e2]
    show B (gi (wayL l) (i + k + 1)).toNat ≤ _
    omega
theorem psum_zero (f : Nat → Int) (k : Nat) : psum (fun j => f (0 + j)) k = psum f k := by
  congr 1
  funext j
  rw [Nat.zero_add]
theorem loopV_steps {w : Wt} {l : Ls} (h1 : 1 ≤ l.loop.length) : loopV w l = psum (fun j => stepL w l (l.stem.length + j)) l.loop.length := by
  unfold loopV
  refine psum_congr fun k hk => ?_
  unfold stepL nextAt
  rw [wayL_at2 hk]
  split
  · rw [show l.stem.length + k + 1 = l.stem.length + (k + 1) from by omega, wayL_at2 (by assumption)]
  · rw [show l.stem.length + k + 1 = l.stem.length + l.loop.length from by omega, wayL_at3]
/-- Over its loop the steps of a play bring no less than the potential allows. -/
theorem loop_pot {w : Wt} {even odd : List Int} {v0 : Int} {l : Ls} (hP : PlayP w.a even odd v0 l) (S : Nat → Prop) (B : Nat → Int) {q d m : Int} (hS : S v0.toNat)
    (h : ∀ v, v < w.a.owner.length → S v → S (goP w.a even odd v).toNat ∧ B (goP w.a even odd v).toNat ≤ B v + q * (stepC w v (goP w.a even odd v) * d - m)) :
    0 ≤ q * (loopV w l * d - l.loop.length * m) := by
  have h0 : S (gi (wayL l) 0).toNat := by rw [hP.first]; exact hS
  have h1 := (play_pot hP S B hS h l.stem.length 0 (by omega) h0).1
  rw [Nat.zero_add] at h1
  have h2 := (play_pot hP S B hS h l.loop.length l.stem.length (Nat.le_refl _) h1).2
  rw [hP.last, ← loopV_steps hP.pos] at h2
  omega
theorem runMin_ge {f : Nat → Int} {b : Int} : ∀ n, 0 ≤ b → (∀ k, k ≤ n → -b ≤ psum f k) → -b ≤ runMin f n
  | 0, hb, _ => by show -b ≤ 0; omega
  | n + 1, hb, h => by
    have h1 := runMin_ge n hb fun k hk => h k (by omega)
    have h2 := h (n + 1) (Nat.le_refl _)
    rw [runMin]
    split <;> omega
theorem runMin_le0 {f : Nat → Int} : ∀ n, runMin f n ≤ 0
  | 0 => Int.le_refl _
  | n + 1 => by
    have h1 := runMin_le0 (f := f) n
    rw [runMin]
    split <;> omega
/-- The edge that a play takes by a plan of player 0 that was made full. -/
theorem goP_edge {w : Wt} (hwb : weightedB w = true) {plan odd : List Int} (hp : planB w.a 0 plan = true) (h1 : fullB w.a 1 odd = true) {v : Nat} (hv : v < w.a.owner.length) :
    (gi w.a.owner v = 0 → 0 ≤ gi plan v → goP w.a (fullL w.a 0 plan w.a.owner.length) odd v = gi plan v) ∧
    ∃ j, j < (gl w.a.next v).length ∧ goP w.a (fullL w.a 0 plan w.a.owner.length) odd v = gi (gl w.a.next v) j := by
  have hfw := weighted_facts hwb
  constructor
  · intro e h
    unfold goP
    rw [Int.toNat_natCast, if_pos e, fullL_at hv, fullAt_plan e ⟨by have := (planB_at hp).1; omega, h⟩]
  · have h2 := (goP_ok hfw.1 (fullL_full hfw.1 hp) h1 (v := (v : Int)) (by omega)).1
    rw [Int.toNat_natCast] at h2
    unfold hasB at h2
    have h3 := of_decide_eq_true h2
    exact ⟨_, h3, (fidx_spec h3).symm⟩
/-- The law FnCredit, plain: along a play by the plan of the least credits. -/
theorem credit_play {w : Wt} (hwb : weightedB w = true) {c : List Int} (hL : Least w (boundW w) c) {odd : List Int} (h1 : fullB w.a 1 odd = true) {v0 : Nat} (hv0 : v0 < w.a.owner.length) {l : Ls}
    (hP : PlayP w.a (fullL w.a 0 (planRes w c) w.a.owner.length) odd v0 l) (hf : 0 ≤ gi (creditRes w c) v0) : 0 ≤ lassoCr w l ∧ lassoCr w l ≤ gi (creditRes w c) v0 := by
  have hw := wsh_of hwb
  have hb := hw.bound.1
  have hfw := weighted_facts hwb
  have hpo := plan_right hwb hL
  have hp := (planOk_facts hpo).2.2
  have hcv : ∀ v, v < w.a.owner.length → gi (creditRes w c) v = decB (boundW w) (gi c v) := fun v hv => by rw [creditRes_yes hwb]; exact decB_map (by rw [hL.len]; exact hv)
  have hf2 : gi c v0 ≤ boundW w := by
    rw [hcv v0 hv0] at hf
    unfold decB at hf
    split at hf <;> omega
  have hg2 : gi (creditRes w c) v0 = gi c v0 := by rw [hcv v0 hv0]; exact if_neg (by omega)
  have hstep : ∀ v, v < w.a.owner.length → gi c v ≤ boundW w → gi c (goP w.a (fullL w.a 0 (planRes w c) w.a.owner.length) odd v).toNat ≤ boundW w ∧ gi c (goP w.a (fullL w.a 0 (planRes w c) w.a.owner.length) odd v).toNat ≤ gi c v + 1 * (stepC w v (goP w.a (fullL w.a 0 (planRes w c) w.a.owner.length) odd v) * 1 - 0) := fun v hv hfv => by
    obtain ⟨g1, g2⟩ := goP_edge hwb hp h1 hv
    have key : ∀ j, j < (gl w.a.next v).length → Ed w (boundW w) c v j (gi c v) → goP w.a (fullL w.a 0 (planRes w c) w.a.owner.length) odd v = gi (gl w.a.next v) j → gi c (goP w.a (fullL w.a 0 (planRes w c) w.a.owner.length) odd v).toNat ≤ boundW w ∧ gi c (goP w.a (fullL w.a 0 (planRes w c) w.a.owner.length) odd v).toNat ≤ gi c v + 1 * (stepC w v (goP w.a (fullL w.a 0 (planRes w c) w.a.owner.length) odd v) * 1 - 0) := fun j hj he e => by
      rw [e, stepC_at hwb hv hj]
      have a1 : gi c (gi (gl w.a.next v) j).toNat ≤ boundW w := he.1
      have a2 : gi c (gi (gl w.a.next v) j).toNat - gi (gl w.cost v) j ≤ gi c v := he.2
      omega
    have hr := hL.rg v hv
    rcases hw.own v hv with e | e
    · obtain ⟨j, hj, he, e2⟩ := plan_edge hw hL hv e hfv
      have e3 : gi (planRes w c) v = gi (gl w.a.next v) j := by rw [planRes_yes hwb, planN_at hv]; exact e2
      have h9 := hw.to v hv j hj
      exact key j hj he ((g1 e (by omega)).trans e3)
    · obtain ⟨j, hj, e3⟩ := g2
      exact key j hj (((stepT_le hw hb hv hr.1 hfv).1 (hL.pre v hv)).2 e j hj) e3
  have hlp := loop_pot hP (fun v => gi c v ≤ boundW w) (gi c) (q := 1) (d := 1) (m := 0) (by rw [Int.toNat_natCast]; exact hf2) hstep
  have hlv : ¬ loopV w l < 0 := by omega
  have hpp := play_pot hP (fun v => gi c v ≤ boundW w) (gi c) (q := 1) (d := 1) (m := 0) (by rw [Int.toNat_natCast]; exact hf2) hstep
  rw [lassoCr_yes hwb hP.ok hlv, hg2]
  have hr0 := (hL.rg v0 hv0).1
  have hge := runMin_ge (f := stepL w l) (b := gi c v0) (l.stem.length + l.loop.length) hr0 fun k hk => by
    have h5 := (hpp k 0 (by omega) (by rw [hP.first, Int.toNat_natCast]; exact hf2)).2
    rw [psum_zero, hP.first, Int.toNat_natCast] at h5
    have h6 := hP.rg (0 + k) (by omega)
    have h7 := (hL.rg (gi (wayL l) (0 + k)).toNat (by omega)).1
    omega
  have hle := runMin_le0 (f := stepL w l) (l.stem.length + l.loop.length)
  omega
end Go.Proofs.Ytdbecmmeifdafaa
