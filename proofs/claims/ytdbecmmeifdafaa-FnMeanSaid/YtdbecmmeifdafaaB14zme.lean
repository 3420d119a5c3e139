/- The dual arena: its values are the others turned; plays by the plan of the values: plain. -/
import Derived.Test.YtdbecmmeifdafaaB12zme
import Derived.Test.YtdbecmmeifdafaaB13zme
import Derived.Test.YtdbecmmeifdafaaB11zme
import Derived.Test.YtdbecmmeifdafaaB10zme
namespace Go.Proofs.Ytdbecmmeifdafaa
open Go.RowKit MV
set_option linter.unusedVariables false
set_option linter.unusedSimpArgs false

theorem optF_cong {mx : Bool} {f g : Nat → Int × Int} : ∀ k, (∀ j, j < k → f j = g j) → optF mx f k = optF mx g k
  | 0, _ => rfl
  | 1, h => h 0 (by omega)
  | k + 2, h => by rw [optF_s, optF_s, optF_cong (k + 1) fun j hj => h j (by omega), h (k + 1) (by omega)]
theorem first_cong {g h : Gm} {n : Nat} (hmx : ∀ v, v < n → g.mx v = h.mx v) (hdeg : ∀ v, v < n → g.deg v = h.deg v) (hto : ∀ v, v < n → ∀ j, j < g.deg v → g.to v j = h.to v j) (hc : ∀ v, v < n → ∀ j, j < g.deg v → g.c v j = h.c v j) (hin : ∀ v, v < n → ∀ j, j < g.deg v → g.to v j < n) :
    ∀ f S v s, v < n → g.first f S v s = h.first f S v s
  | 0, S, v, s, hv => rfl
  | f + 1, S, v, s, hv => by
    unfold Gm.first
    cases findS v S 0 with
    | some x => rfl
    | none =>
      show optF (g.mx v) _ (g.deg v) = optF (h.mx v) _ (h.deg v)
      rw [← hmx v hv, ← hdeg v hv]
      refine optF_cong _ fun j hj => ?_
      rw [← hto v hv j hj, ← hc v hv j hj]
      exact first_cong hmx hdeg hto hc hin f _ _ _ (hin v hv j hj)
section
variable {w : Wt}
theorem dual_len (h : weightedB w = true) : (dualW w).a.owner.length = w.a.owner.length := by rw [dualW_yes h]; exact List.length_map ..
theorem dual_next (h : weightedB w = true) : (dualW w).a.next = w.a.next := by rw [dualW_yes h]; rfl
theorem dual_clen (h : weightedB w = true) : (dualW w).cost.length = w.cost.length := by rw [dualW_yes h]; exact List.length_map ..
theorem dual_own (h : weightedB w = true) {v : Nat} (hv : v < w.a.owner.length) : gi (dualW w).a.owner v = 1 - gi w.a.owner v := by
  rw [dualW_yes h]
  exact gi_map' (f := fun x => 1 - x) hv
theorem dual_row (h : weightedB w = true) {v : Nat} (hv : v < w.cost.length) : gl (dualW w).cost v = (gl w.cost v).map fun x => -x := by
  rw [dualW_yes h]
  exact gl_map (g := List.map fun x => -x) hv
theorem dual_cost (h : weightedB w = true) {v j : Nat} (hv : v < w.cost.length) (hj : j < (gl w.cost v).length) : gi (gl (dualW w).cost v) j = -gi (gl w.cost v) j := by
  rw [dual_row h hv]
  exact gi_map' (f := fun x => -x) hj
theorem dual_weighted (h : weightedB w = true) : weightedB (dualW w) = true := by
  obtain ⟨h1, h2, h3, h4, h5, h6⟩ := weighted_facts h
  refine weightedB_iff.2 ⟨arenaB_true ⟨by rw [dual_len h]; exact h2, by rw [dual_len h]; exact (arenaB_len h1).2.1, by rw [dual_next h, dual_len h]; exact h4⟩ fun v hv => ?_, by rw [dual_len h]; exact h3, by rw [dual_clen h, dual_len h]; exact h5, fun v hv => ?_⟩
  · rw [dual_len h] at hv
    obtain ⟨a1, a2, a3, a4, a5⟩ := arenaB_at h1 hv
    unfold arenaAt ownAt
    rw [dual_own h hv, dual_next h, dual_len h, Bool.and_eq_true]
    exact ⟨decide_eq_true ⟨by omega, by omega, a3, a4⟩, a5⟩
  · rw [dual_clen h] at hv
    obtain ⟨b1, b2, b3, b4⟩ := h6 v (by omega)
    rw [costAt_iff, dual_next h, dual_row h hv, List.length_map]
    refine ⟨b1, fun j hj => ?_⟩
    have := b4 j hj
    rw [gi_map' (f := fun x => -x) hj]
    exact inCost_iff.2 (by omega)
theorem dual_mean (h : meanB w = true) : meanB (dualW w) = true := by
  have hwb := meanB_ok h
  unfold meanB at h ⊢
  rw [Bool.and_eq_true] at h
  rw [dual_weighted hwb, dual_clen hwb, h.2]; rfl
theorem dual_val (h : meanB w = true) {v : Nat} (hv : v < w.a.owner.length) : valF (dualW w) v = ⟨-(valF w v).num, (valF w v).den⟩ := by
  have hwb := meanB_ok h
  have hw := wmn_of h
  have hg := gm_ok20 hw.sh
  have hcl := (weighted_facts hwb).2.2.2.2.1
  have hrow := fun v (hv : v < w.a.owner.length) => (hw.sh.row v hv).1
  have e1 : (gmW (dualW w)).val w.a.owner.length v = (gmW w).dual.val w.a.owner.length v := by
    refine first_cong (g := gmW (dualW w)) (h := (gmW w).dual) (n := w.a.owner.length) (fun u hu => ?_) (fun u hu => ?_) (fun u hu j hj => ?_) (fun u hu j hj => ?_) (fun u hu j hj => ?_) _ _ _ _ hv
    · show decide (gi (dualW w).a.owner u = 0) = !decide (gi w.a.owner u = 0)
      rw [dual_own hwb hu]
      rcases hw.sh.own u hu with e | e <;> rw [e] <;> rfl
    · show (gl (dualW w).a.next u).length = (gl w.a.next u).length
      rw [dual_next hwb]
    · show (gi (gl (dualW w).a.next u) j).toNat = (gi (gl w.a.next u) j).toNat
      rw [dual_next hwb]
    · have hj' : j < (gl (dualW w).a.next u).length := hj
      rw [dual_next hwb] at hj'
      show gi (gl (dualW w).cost u) j = -gi (gl w.cost u) j
      exact dual_cost hwb (by omega) (by rw [hrow u hu]; exact hj')
    · have hj' : j < (gl (dualW w).a.next u).length := hj
      rw [dual_next hwb] at hj'
      have := hg.to u hu j hj'
      show (gi (gl (dualW w).a.next u) j).toNat < _
      rw [dual_next hwb]
      exact this
  rw [Gm.val_dual] at e1
  unfold valF
  rw [dual_len hwb, e1]
  generalize (gmW w).val w.a.owner.length v = x
  show frOf (-x.1) x.2 = _
  unfold frOf
  rw [Int.neg_gcd, Int.neg_tdiv]
theorem dual_step (h : weightedB w = true) {v : Nat} (hv : v < w.a.owner.length) (u : Int) : stepC (dualW w) v u = -stepC w v u := by
  have hcl := (weighted_facts h).2.2.2.2.1
  have hrow := (weighted_facts h).2.2.2.2.2
  unfold stepC
  rw [dual_next h]
  split
  · rename_i hb
    unfold hasB at hb
    have hlt := of_decide_eq_true hb
    unfold stepCost
    rw [dual_next h]
    rw [Int.toNat_natCast] at hlt ⊢
    exact dual_cost h (by omega) (by rw [(hrow v hv).1]; exact hlt)
  · rfl
end
theorem psum_bd {f : Nat → Int} {M : Int} : ∀ n, (∀ k, k < n → -M ≤ f k ∧ f k ≤ M) → -(n * M) ≤ psum f n ∧ psum f n ≤ n * M
  | 0, _ => by show -(((0 : Nat) : Int) * M) ≤ 0 ∧ (0 : Int) ≤ ((0 : Nat) : Int) * M; rw [Int.natCast_zero, Int.zero_mul]; omega
  | n + 1, h => by
    have h1 := psum_bd n fun k hk => h k (by omega)
    have h2 := h n (by omega)
    have e : ((n + 1 : Nat) : Int) * M = n * M + M := by rw [show ((n + 1 : Nat) : Int) = (n : Int) + 1 by omega, Int.add_mul, Int.one_mul]
    rw [e]
    show -(n * M + M) ≤ psum f n + f n ∧ psum f n + f n ≤ n * M + M
    omega
theorem loopV_bd {w : Wt} (hwb : weightedB w = true) {l : Ls} (hl : lassoB w.a l = true) : -(l.loop.length * 1000) ≤ loopV w l ∧ loopV w l ≤ l.loop.length * 1000 := by
  unfold loopV
  refine psum_bd _ fun k hk => ?_
  have h1 := (loop_at hl hk).1
  exact stepC_le hwb h1
theorem mp_play {w : Wt} (h : meanB w = true) {C : Nat → List Int} (hC : MpL w C) {odd : List Int} (h1 : fullB w.a 1 odd = true) {v0 : Nat} (hv0 : v0 < w.a.owner.length) {l : Ls}
    (hP : PlayP w.a (fullL w.a 0 (mpRes w C) w.a.owner.length) odd v0 l) : l.loop.length * (valF w v0).num ≤ loopV w l * (valF w v0).den := by
  have hw := wmn_of h
  have hwb := meanB_ok h
  have hfw := weighted_facts hwb
  have hf0 := valF_ok hw hv0
  have hpo := mp_right h hC
  have hp := (planOk_facts hpo).2.2
  have hpl : ∀ v, v < w.a.owner.length → gi (mpRes w C) v = mpAt w C v := fun v hv => by rw [mpRes_yes h]; exact mpN_at hv
  have hl := loop_pot hP (fun v => 840 * (valF w v0).num ≤ n840 (valF w v) * (valF w v0).den) (mpB w C (valF w v0).den) (q := 840) (d := (valF w v0).den) (m := (valF w v0).num)
    (by
      rw [Int.toNat_natCast]
      show 840 * (valF w v0).num ≤ n840 (valF w v0) * (valF w v0).den
      unfold n840
      have := (by840_mul hf0.2.2).1
      rw [Int.mul_assoc, this]
      omega)
    (fun v hv hS => by
      obtain ⟨g1, g2⟩ := goP_edge hwb hp h1 hv
      have key : ∀ j, j < (gl w.a.next v).length → MpE w C v j → goP w.a (fullL w.a 0 (mpRes w C) w.a.owner.length) odd v = gi (gl w.a.next v) j → 840 * (valF w v0).num ≤ n840 (valF w (goP w.a (fullL w.a 0 (mpRes w C) w.a.owner.length) odd v).toNat) * (valF w v0).den ∧ mpB w C (valF w v0).den (goP w.a (fullL w.a 0 (mpRes w C) w.a.owner.length) odd v).toNat ≤ mpB w C (valF w v0).den v + 840 * (stepC w v (goP w.a (fullL w.a 0 (mpRes w C) w.a.owner.length) odd v) * (valF w v0).den - (valF w v0).num) := fun j hj he e => by
        rw [e, stepC_at hwb hv hj]
        exact mp_pot h hC hf0.2.2 hv hj he hS
      rcases hw.sh.own v hv with e | e
      · obtain ⟨j, hj, e2, he⟩ := (mp_edge h hC hv).1 e
        have h9 := hw.sh.to v hv j hj
        have e3 := hpl v hv
        exact key j hj he ((g1 e (by omega)).trans (e3.trans e2))
      · obtain ⟨j, hj, e3⟩ := g2
        exact key j hj ((mp_edge h hC hv).2 e j hj) e3)
  omega
end Go.Proofs.Ytdbecmmeifdafaa

namespace Go.Proofs.Ytdbecmmeifdafaa
open Go.RowKit MV
set_option linter.unusedVariables false
set_option linter.unusedSimpArgs false

theorem frOf_less {p q : Int} (hq : 1 ≤ q) (f : Fr) : (lessF (frOf p q) f = false ↔ f.num * q ≤ p * f.den) ∧ (lessF f (frOf p q) = false ↔ p * f.den ≤ f.num * q) := by
  obtain ⟨g, g1, e1, e2⟩ := frOf_cross (p := p) hq
  generalize frOf p q = m at e1 e2 ⊢
  have a1 : f.num * q = f.num * m.den * g := by rw [e2, Int.mul_assoc]
  have a2 : p * f.den = m.num * f.den * g := by rw [e1, Int.mul_assoc, Int.mul_comm g, ← Int.mul_assoc]
  unfold lessF
  rw [decide_eq_false_iff_not, decide_eq_false_iff_not, Int.not_lt, Int.not_lt, a1, a2]
  exact ⟨⟨fun h => Int.mul_le_mul_of_nonneg_right h (by omega), fun h => Int.le_of_mul_le_mul_right h (by omega)⟩, fun h => Int.mul_le_mul_of_nonneg_right h (by omega), fun h => Int.le_of_mul_le_mul_right h (by omega)⟩
section
variable {w : Wt}
theorem mean_frac (h : meanB w = true) {l : Ls} (hl : lassoB w.a l = true) (hn : l.stem.length + l.loop.length ≤ w.a.owner.length) (h1 : 1 ≤ l.loop.length) : meanRes w l = frOf (loopV w l) l.loop.length ∧ fracB (meanRes w l) = true := by
  have hwb := meanB_ok h
  have h8 := (wmn_of h).n8
  have hb := loopV_bd hwb hl
  rw [meanRes_yes h hl]
  exact ⟨rfl, (frOf_frac (p := loopV w l) (q := l.loop.length) (by omega) (by omega)).1⟩
theorem mean_play (h : meanB w = true) {C : Nat → List Int} (hC : MpL w C) {odd : List Int} (h1 : fullB w.a 1 odd = true) {v0 : Nat} (hv0 : v0 < w.a.owner.length) {l : Ls}
    (hP : PlayP w.a (fullL w.a 0 (mpRes w C) w.a.owner.length) odd v0 l) : fracB (meanRes w l) = true ∧ lessF (meanRes w l) (valF w v0) = false := by
  obtain ⟨e, hf⟩ := mean_frac h hP.ok hP.len hP.pos
  refine ⟨hf, ?_⟩
  rw [e]
  have := hP.pos
  refine (frOf_less (by omega) _).1.2 ?_
  have := mp_play h hC h1 hv0 hP
  rw [Int.mul_comm]
  exact this
theorem dual_lasso (h : weightedB w = true) {l : Ls} (hl : lassoB (dualW w).a l = true) : lassoB w.a l = true := by
  rw [lassoB_iff] at hl ⊢
  rw [dual_next h, dual_len h] at hl
  exact hl
theorem dual_loop (h : weightedB w = true) {l : Ls} (hl : lassoB w.a l = true) : loopV (dualW w) l = -loopV w l := by
  unfold loopV
  have key : ∀ n, n ≤ l.loop.length → psum (fun i => stepC (dualW w) (gi l.loop i) (nextAt l.loop (gi l.loop 0) i)) n = -psum (fun i => stepC w (gi l.loop i) (nextAt l.loop (gi l.loop 0) i)) n := by
    intro n
    induction n with
    | zero => intro _; rfl
    | succ n ih =>
      intro hn
      have h1 := (loop_at hl (k := n) (by omega)).1
      have h2 := dual_step h (v := (gi l.loop n).toNat) (by omega) (nextAt l.loop (gi l.loop 0) n)
      rw [Int.toNat_of_nonneg h1.1] at h2
      have := ih (by omega)
      show psum _ n + stepC (dualW w) (gi l.loop n) (nextAt l.loop (gi l.loop 0) n) = -(psum _ n + stepC w (gi l.loop n) (nextAt l.loop (gi l.loop 0) n))
      omega
  exact key _ (Nat.le_refl _)
theorem dual_play (h : meanB w = true) {C : Nat → List Int} (hC : MpL (dualW w) C) {odd : List Int} (h1 : fullB (dualW w).a 1 odd = true) {v0 : Nat} (hv0 : v0 < w.a.owner.length) {l : Ls}
    (hP : PlayP (dualW w).a (fullL (dualW w).a 0 (mpRes (dualW w) C) (dualW w).a.owner.length) odd v0 l) : lassoB w.a l = true ∧ fracB (meanRes w l) = true ∧ lessF (valF w v0) (meanRes w l) = false ∧ loopV w l * (valF w v0).den ≤ l.loop.length * (valF w v0).num := by
  have hwb := meanB_ok h
  have hl := dual_lasso hwb hP.ok
  have hle := hP.len
  rw [dual_len hwb] at hle
  obtain ⟨e, hf⟩ := mean_frac h hl hle hP.pos
  have hk := mp_play (dual_mean h) hC h1 (by rw [dual_len hwb]; exact hv0) hP
  rw [dual_val h hv0, dual_loop hwb hl] at hk
  have hk2 : l.loop.length * -(valF w v0).num ≤ -loopV w l * (valF w v0).den := hk
  rw [Int.mul_neg, Int.neg_mul] at hk2
  refine ⟨hl, hf, ?_, by omega⟩
  rw [e]
  have := hP.pos
  refine (frOf_less (by omega) _).2.2 ?_
  rw [Int.mul_comm (valF w v0).num]
  omega
theorem planB_dual (h : weightedB w = true) {plan : List Int} (hp : planB (dualW w).a 0 plan = true) : planB w.a 1 plan = true := by
  obtain ⟨hl, hat⟩ := planB_at hp
  rw [dual_len h] at hl
  refine planB_yes hl fun v hv => planAtB_ok ?_
  rcases hat v hv with e | ⟨e1, e2⟩
  · exact .inl e
  · rw [dual_own h (by omega)] at e1
    rw [dual_next h] at e2
    exact .inr ⟨by omega, e2⟩
theorem planB_dual1 (h : weightedB w = true) {plan : List Int} (hp : planB w.a 0 plan = true) : planB (dualW w).a 1 plan = true := by
  obtain ⟨hl, hat⟩ := planB_at hp
  refine planB_yes (by rw [dual_len h]; exact hl) fun v hv => planAtB_ok ?_
  rcases hat v hv with e | ⟨e1, e2⟩
  · exact .inl e
  · rw [dual_own h (by omega), dual_next h]
    exact .inr ⟨by omega, e2⟩
theorem fullL_dual (h : weightedB w = true) (who : Int) (plan : List Int) : fullL (dualW w).a (1 - who) plan w.a.owner.length = fullL w.a who plan w.a.owner.length := by
  refine gi_ext' (by rw [fullL_len, fullL_len]) fun v hv => ?_
  rw [fullL_len] at hv
  rw [fullL_at hv, fullL_at hv]
  unfold fullAt
  rw [dual_own h hv, dual_next h]
  by_cases e : gi w.a.owner v = who
  · rw [if_pos e, if_pos (by omega)]
  · rw [if_neg e, if_neg (by omega)]
theorem play_dual (h : weightedB w = true) {even odd : List Int} {v0 : Int} {l : Ls} (hP : PlayP w.a even odd v0 l) : PlayP (dualW w).a odd even v0 l := by
  obtain ⟨h1, h2, h3, h4, h5, h6, h7⟩ := hP
  have hown := fun v hv => (wsh_of h).own v hv
  refine ⟨?_, h2, fun i hi => by rw [dual_len h]; exact h3 i hi, fun i hi => ?_, h5, h6, by rw [dual_len h]; exact h7⟩
  · rw [lassoB_iff] at h1 ⊢
    rw [dual_next h, dual_len h]
    exact h1
  · rw [h4 i hi]
    have hr := h3 i (by omega)
    unfold goP
    rw [dual_own h (v := (gi (wayL l) i).toNat) (by omega)]
    rcases hown (gi (wayL l) i).toNat (by omega) with e | e
    · rw [if_pos e, if_neg (by omega)]
    · rw [if_neg (by omega), if_pos (by omega)]
theorem both_play (h : meanB w = true) {C D : Nat → List Int} (hC : MpL w C) (hD : MpL (dualW w) D) {v0 : Nat} (hv0 : v0 < w.a.owner.length) {l : Ls}
    (hP : PlayP w.a (fullL w.a 0 (mpRes w C) w.a.owner.length) (fullL w.a 1 (mpRes (dualW w) D) w.a.owner.length) v0 l) : meanRes w l = valF w v0 := by
  have hwb := meanB_ok h
  have hw := wmn_of h
  have hfw := weighted_facts hwb
  have p0 := (planOk_facts (mp_right h hC)).2.2
  have p1 := (planOk_facts (mp_right (dual_mean h) hD)).2.2
  have k1 := mp_play h hC (fullL_full hfw.1 (planB_dual hwb p1)) hv0 hP
  have hP2 := play_dual hwb hP
  have e1 := fullL_dual hwb 1 (mpRes (dualW w) D)
  have e0 := fullL_dual hwb 0 (mpRes w C)
  rw [← e1, ← e0] at hP2
  have hP3 : PlayP (dualW w).a (fullL (dualW w).a 0 (mpRes (dualW w) D) (dualW w).a.owner.length) (fullL (dualW w).a 1 (mpRes w C) (dualW w).a.owner.length) v0 l := by rw [dual_len hwb]; exact hP2
  have k2 := (dual_play h hD (fullL_full (weighted_facts (dual_weighted hwb)).1 (planB_dual1 hwb p0)) hv0 hP3).2.2.2
  obtain ⟨e, -⟩ := mean_frac h hP.ok hP.len hP.pos
  rw [e]
  have a := Gm.val_ok (gm_ok20 hw.sh) hv0
  obtain ⟨g, g1, gN, gD⟩ := frOf_cross (p := ((gmW w).val w.a.owner.length v0).1) (q := ((gmW w).val w.a.owner.length v0).2) a.1
  have hpos := hP.pos
  refine frOf_eq (by omega) a.1 ?_
  have e2 : frOf ((gmW w).val w.a.owner.length v0).1 ((gmW w).val w.a.owner.length v0).2 = valF w v0 := rfl
  rw [e2] at gN gD
  rw [gN, gD, ← Int.mul_assoc, show loopV w l * (valF w v0).den = l.loop.length * (valF w v0).num from by omega, Int.mul_comm (l.loop.length : Int), Int.mul_assoc, Int.mul_assoc, Int.mul_comm (l.loop.length : Int)]
end
end Go.Proofs.Ytdbecmmeifdafaa

namespace Go.Proofs.Ytdbecmmeifdafaa
open Nat renaming reduceMod → zA, reduceMul → zB, reduceDiv → zC, reduceAdd → zD, reduceSub → zE, reduceEqDiff → zF, reduceBEq → zG, reduceLT → zH, reduceLeDiff → zI
open Go.RowKit
set_option linter.unusedVariables false
set_option linter.unusedSimpArgs false

set_option maxRecDepth 20000 in
set_option maxHeartbeats 4000000 in
theorem FracLessI_fn (x y : Fr) (hx : fracB x = true) (hy : fracB y = true) : Fn Try.prog tyT 28 [.agg (dFr x), .agg (dFr y)] [.c (.bool (lessF x y))] := by
  have hX := isFrac_fn x
  rw [hx] at hX
  have hY := isFrac_fn y
  rw [hy] at hY
  have hL := fracLess_fn x y (frac_rg hx) (frac_rg hy)
  unfold dFr at hX hY hL ⊢
  refine Fn_of (fn := Try.f28) (ts := [4]) Try.func28 (by kernel_rfl) rfl rfl (by rw [Try.ntmps28]; exact Nat.le_of_ble_eq_true rfl) rfl (by simp only [szA, List.mem_cons, List.not_mem_nil, or_false, forall_eq_or_imp, forall_eq, VT.cells, szL]; try decide) ?_
  rw [Try.ntmps28]
  simp only [push_cast, ↓brB_true, ↓brB_false, ↓reduceIte, zA, zB, zC, zD, zE, zF, zG, zH, zI, reduceCtorEq]
  refine awp_seq' fun K hK => ?_
  refine awp_region tyOk tyPos [] rfl ?_
  simp only [push_cast, ↓brB_true, ↓brB_false, ↓reduceIte, zA, zB, zC, zD, zE, zF, zG, zH, zI, reduceCtorEq]
  repeat' apply And.intro
  all_goals try exact gB
  all_goals first | (refine hK _ ?_; clear hK K) | (simp only [push_cast]; done)
  refine awp_seq' fun K hK => ?_
  refine awp_regionN false tyOk tyPos ?_ rfl ?_
  · kernel_rfl
  all_goals refine seqE_cut 2 fun K9 hK9 => ?_
  all_goals simp only [push_cast, ↓brB_true, ↓brB_false, ↓reduceIte, zA, zB, zC, zD, zE, zF, zG, zH, zI, reduceCtorEq]
  all_goals repeat' (first | (apply brB_mk <;> (intro hg; (try simp only [push_cast] at hg))) | (refine ⟨_, hX, ?_⟩; simp only [push_cast, ↓brB_true, ↓brB_false, ↓reduceIte, zA, zB, zC, zD, zE, zF, zG, zH, zI, reduceCtorEq]) | (refine ⟨_, hY, ?_⟩; simp only [push_cast, ↓brB_true, ↓brB_false, ↓reduceIte, zA, zB, zC, zD, zE, zF, zG, zH, zI, reduceCtorEq]) | (refine ⟨_, hL, ?_⟩; simp only [push_cast, ↓brB_true, ↓brB_false, ↓reduceIte, zA, zB, zC, zD, zE, zF, zG, zH, zI, reduceCtorEq]) | apply And.intro | (intro hg; (try simp only [push_cast] at hg)))
  all_goals try exact gA
  all_goals first | (refine hK9 _ ?_; clear hK9 K9) | (simp only [push_cast]; done)
  all_goals refine seqE_cut 3 fun K9 hK9 => ?_
  all_goals simp only [push_cast, ↓brB_true, ↓brB_false, ↓reduceIte, zA, zB, zC, zD, zE, zF, zG, zH, zI, reduceCtorEq]
  all_goals repeat' (first | (apply brB_mk <;> (intro hg; (try simp only [push_cast] at hg))) | (refine ⟨_, hX, ?_⟩; simp only [push_cast, ↓brB_true, ↓brB_false, ↓reduceIte, zA, zB, zC, zD, zE, zF, zG, zH, zI, reduceCtorEq]) | (refine ⟨_, hY, ?_⟩; simp only [push_cast, ↓brB_true, ↓brB_false, ↓reduceIte, zA, zB, zC, zD, zE, zF, zG, zH, zI, reduceCtorEq]) | (refine ⟨_, hL, ?_⟩; simp only [push_cast, ↓brB_true, ↓brB_false, ↓reduceIte, zA, zB, zC, zD, zE, zF, zG, zH, zI, reduceCtorEq]) | apply And.intro | (intro hg; (try simp only [push_cast] at hg)))
  all_goals try exact gA
  all_goals first | (refine hK9 _ ?_; clear hK9 K9) | (simp only [push_cast]; done)
  all_goals refine seqE_cut 5 fun K9 hK9 => ?_
  all_goals simp only [push_cast, ↓brB_true, ↓brB_false, ↓reduceIte, zA, zB, zC, zD, zE, zF, zG, zH, zI, reduceCtorEq]
  all_goals repeat' (first | (apply brB_mk <;> (intro hg; (try simp only [push_cast] at hg))) | (refine ⟨_, hX, ?_⟩; simp only [push_cast, ↓brB_true, ↓brB_false, ↓reduceIte, zA, zB, zC, zD, zE, zF, zG, zH, zI, reduceCtorEq]) | (refine ⟨_, hY, ?_⟩; simp only [push_cast, ↓brB_true, ↓brB_false, ↓reduceIte, zA, zB, zC, zD, zE, zF, zG, zH, zI, reduceCtorEq]) | (refine ⟨_, hL, ?_⟩; simp only [push_cast, ↓brB_true, ↓brB_false, ↓reduceIte, zA, zB, zC, zD, zE, zF, zG, zH, zI, reduceCtorEq]) | apply And.intro | (intro hg; (try simp only [push_cast] at hg)))
  all_goals try exact gA
  all_goals first | (refine hK9 _ ?_; clear hK9 K9) | (simp only [push_cast]; done)
  all_goals simp only [push_cast, ↓brB_true, ↓brB_false, ↓reduceIte, zA, zB, zC, zD, zE, zF, zG, zH, zI, reduceCtorEq]
  all_goals repeat' (first | (apply brB_mk <;> (intro hg; (try simp only [push_cast] at hg))) | (refine ⟨_, hX, ?_⟩; simp only [push_cast, ↓brB_true, ↓brB_false, ↓reduceIte, zA, zB, zC, zD, zE, zF, zG, zH, zI, reduceCtorEq]) | (refine ⟨_, hY, ?_⟩; simp only [push_cast, ↓brB_true, ↓brB_false, ↓reduceIte, zA, zB, zC, zD, zE, zF, zG, zH, zI, reduceCtorEq]) | (refine ⟨_, hL, ?_⟩; simp only [push_cast, ↓brB_true, ↓brB_false, ↓reduceIte, zA, zB, zC, zD, zE, zF, zG, zH, zI, reduceCtorEq]) | apply And.intro | (intro hg; (try simp only [push_cast] at hg)))
  all_goals try exact gA
  all_goals first | (refine hK _ ?_; clear hK K) | (simp only [push_cast]; done)
  all_goals (
      refine awp_ret ?_
      (try simp only [AThen, ABlk])
      refine ⟨Or.inl rfl, ?_⟩
      simp only [RetOk, push_cast, ↓brB_true, ↓brB_false, ↓reduceIte, zA, zB, zC, zD, zE, zF, zG, zH, zI, reduceCtorEq])
end Go.Proofs.Ytdbecmmeifdafaa
