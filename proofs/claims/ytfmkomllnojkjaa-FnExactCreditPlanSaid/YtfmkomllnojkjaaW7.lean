/- costs along a loop: both sides -/
import Derived.Test.YtfmkomllnojkjaaW6
namespace Go.Proofs.Ytfmkomllnojkjaa
open Go.RowKit
set_option linter.unusedVariables false
set_option linter.unusedSimpArgs false

/-- The cost of a step; 0 where there is none. -/
def stepC (w : Wt) (v u : Int) : Int := if hasB (gl w.a.next v.toNat) u = true then stepCost w v.toNat u else 0
def nextAt (xs : List Int) (t : Int) (i : Nat) : Int := if i + 1 < xs.length then gi xs (i + 1) else t
def along (w : Wt) (xs : List Int) (t : Int) : List Int := (List.range xs.length).map fun i => stepC w (gi xs i) (nextAt xs t i)
def psum (f : Nat → Int) : Nat → Int
  | 0 => 0
  | k + 1 => psum f k + f k
theorem along_len (w : Wt) (xs : List Int) (t : Int) : (along w xs t).length = xs.length := by simp [along]
theorem along_at {w : Wt} {xs : List Int} {t : Int} {i : Nat} (h : i < xs.length) : gi (along w xs t) i = stepC w (gi xs i) (nextAt xs t i) := by
  unfold gi along
  rw [List.getD_eq_getElem?_getD, List.getElem?_map, List.getElem?_range h]
  rfl
theorem weighted_facts {w : Wt} (h : weightedB w = true) : arenaB w.a = true ∧ 1 ≤ w.a.owner.length ∧ w.a.owner.length ≤ 24 ∧ w.a.next.length = w.a.owner.length ∧ w.cost.length = w.a.owner.length ∧
    ∀ v, v < w.a.owner.length → (gl w.cost v).length = (gl w.a.next v).length ∧ 1 ≤ (gl w.a.next v).length ∧ (gl w.a.next v).length ≤ 16 ∧ ∀ j, j < (gl w.cost v).length → -1000 ≤ gi (gl w.cost v) j ∧ gi (gl w.cost v) j ≤ 1000 := by
  obtain ⟨h1, h2, h3, h4⟩ := weightedB_iff.1 h
  have hl := arenaB_len h1
  refine ⟨h1, hl.1, h2, hl.2.2, h3, fun v hv => ?_⟩
  have hc := costAt_iff.1 (h4 v (by omega))
  have hr := arenaB_at h1 hv
  exact ⟨hc.1, hr.2.2.1, hr.2.2.2.1, fun j hj => inCost_iff.1 (hc.2 j hj)⟩
theorem hasB_lt {xs : List Int} {x : Int} (h : hasB xs x = true) : fidx xs x < xs.length := by unfold hasB at h; rwa [decide_eq_true_eq] at h
theorem hasB_no {xs : List Int} {x : Int} (h : hasB xs x = false) : fidx xs x = xs.length := by unfold hasB at h; rw [decide_eq_false_iff_not] at h; have := fidx_le xs x; omega
theorem stepCost_le {w : Wt} (h : weightedB w = true) {v : Nat} (hv : v < w.a.owner.length) {u : Int} (hu : hasB (gl w.a.next v) u = true) : -1000 ≤ stepCost w v u ∧ stepCost w v u ≤ 1000 := by
  obtain ⟨h1, h2, h3, h4, h5, h6⟩ := weighted_facts h
  obtain ⟨g1, g2, g3, g4⟩ := h6 v hv
  exact g4 _ (by rw [g1]; exact hasB_lt hu)
theorem stepC_le {w : Wt} (h : weightedB w = true) {v u : Int} (hv : 0 ≤ v ∧ v < w.a.owner.length) : -1000 ≤ stepC w v u ∧ stepC w v u ≤ 1000 := by
  unfold stepC
  split
  · exact stepCost_le h (by omega) (by assumption)
  · omega
theorem psum_le {f : Nat → Int} {b : Int} {n : Nat} (h : ∀ k, k < n → -b ≤ f k ∧ f k ≤ b) : -(b * n) ≤ psum f n ∧ psum f n ≤ b * n := by
  induction n with
  | zero => simp [psum]
  | succ n ih =>
    have h1 := ih fun k hk => h k (by omega)
    have h2 := h n (by omega)
    simp only [psum]
    have e : b * ((n + 1 : Nat) : Int) = b * n + b := by rw [Int.natCast_add]; simp [Int.mul_add]
    rw [e]
    omega
theorem psum_congr {f g : Nat → Int} {n : Nat} (h : ∀ k, k < n → f k = g k) : psum f n = psum g n := by
  induction n with
  | zero => rfl
  | succ n ih => simp only [psum, ih fun k hk => h k (by omega), h n (by omega)]
/-- The sum around the loop. -/
def loopV (w : Wt) (l : Ls) : Int := psum (fun i => stepC w (gi l.loop i) (nextAt l.loop (gi l.loop 0) i)) l.loop.length
def loopRes (w : Wt) (l : Ls) : Int := if weightedB w && lassoB w.a l then loopV w l else 0
theorem loop_at {a : Ar} {l : Ls} (h : lassoB a l = true) {k : Nat} (hk : k < l.loop.length) : (0 ≤ gi l.loop k ∧ gi l.loop k < a.owner.length) ∧ hasB (gl a.next (gi l.loop k).toNat) (nextAt l.loop (gi l.loop 0) k) = true := by
  obtain ⟨h1, h2, h3⟩ := lassoB_iff.1 h
  have hw := wayL_len l
  have e : ∀ j, j < l.loop.length → gi (wayL l) (l.stem.length + j) = gi l.loop j := fun j hj => by
    unfold wayL
    rw [gi_app (by simp; omega), gi_app_r rfl]
  have e2 : gi (wayL l) (l.stem.length + l.loop.length) = gi l.loop 0 := by
    unfold wayL
    have := gi_app_at (xs := l.stem ++ l.loop) (y := gi l.loop 0)
    rwa [List.length_append] at this
  refine ⟨by have := h2 (l.stem.length + k) (by omega); rwa [e k hk] at this, ?_⟩
  have h4 := h3 (l.stem.length + k + 1) (by omega) (by omega)
  rw [show l.stem.length + k + 1 - 1 = l.stem.length + k from by omega, e k hk] at h4
  unfold nextAt
  split
  · rwa [show l.stem.length + k + 1 = l.stem.length + (k + 1) from by omega, e (k + 1) (by assumption)] at h4
  · rwa [show l.stem.length + k + 1 = l.stem.length + l.loop.length from by omega, e2] at h4
set_option maxRecDepth 20000 in
set_option maxHeartbeats 4000000 in
theorem l20Cost_fn (w : Wt) (ha : w.Ln 1048576) (hw : weightedB w = true) (v : Int) (hv : 0 ≤ v ∧ v < w.a.owner.length) (u : Int) : Fn Try.prog tyT 66 [.agg (dWt w), .c (.int .i64 v), .c (.int .i64 u)] [.c (.int .i64 (stepC w v u)), .c (.bool (hasB (gl w.a.next v.toNat) u))] := by
  have hr : ∀ v, (gl w.a.next v).length ≤ 1048576 := fun v => gl_le ha.a.next v
  have hcr : ∀ v, (gl w.cost v).length ≤ 1048576 := fun v => gl_le ha.cost v
  obtain ⟨hok, hn1, hn2, hn3, hn4, hrow⟩ := weighted_facts hw
  have hrv := hr v.toNat
  have hcv := hcr v.toNat
  obtain ⟨hr1, hr2, hr3, hr4⟩ := hrow v.toNat (by omega)
  unfold dWt
  refine Fn_of (fn := Try.f66) (ts := [6, 7]) Try.func66 (by kernel_rfl) rfl rfl (by rw [Try.ntmps66]; exact Nat.le_of_ble_eq_true rfl) rfl (by simp only [szA, List.mem_cons, List.not_mem_nil, or_false, forall_eq_or_imp, forall_eq, VT.cells, szL]; try decide) ?_
  rw [Try.ntmps66]
  simp only [push_cast, ↓brB_true, ↓brB_false, ↓reduceIte, Nat.reduceMod, Nat.reduceMul, Nat.reduceDiv, Nat.reduceAdd, Nat.reduceSub, Nat.reduceEqDiff, Nat.reduceBEq, Nat.reduceLT, Nat.reduceLeDiff, reduceCtorEq]
  refine awp_seq' fun K hK => ?_
  refine awp_region tyOk tyPos [] rfl ?_
  all_goals simp only [push_cast, ↓brB_true, ↓brB_false, ↓reduceIte, Nat.reduceMod, Nat.reduceMul, Nat.reduceDiv, Nat.reduceAdd, Nat.reduceSub, Nat.reduceEqDiff, Nat.reduceBEq, Nat.reduceLT, Nat.reduceLeDiff, reduceCtorEq]
  all_goals repeat' (first | (apply brB_mk <;> (intro hg; (try simp only [push_cast] at hg))) | apply And.intro | (intro hg; (try simp only [push_cast] at hg)))
  all_goals first | exact True.intro | exact rfl | contradiction | omega | with_reducible assumption | (exact getE_dII (by omega)) | skip
  all_goals first | (refine hK _ ?_; clear hK K) | (simp only [push_cast, ↓brB_true, ↓brB_false, ↓reduceIte, Nat.reduceMod, Nat.reduceMul, Nat.reduceDiv, Nat.reduceAdd, Nat.reduceSub, Nat.reduceEqDiff, Nat.reduceBEq, Nat.reduceLT, Nat.reduceLeDiff, reduceCtorEq]; done)
  refine awp_seq' fun K1 hK1 => ?_
  refine awp_seq' fun K hK => ?_
  refine awp_region tyOk tyPos [] rfl ?_
  all_goals simp only [push_cast, ↓brB_true, ↓brB_false, ↓reduceIte, Nat.reduceMod, Nat.reduceMul, Nat.reduceDiv, Nat.reduceAdd, Nat.reduceSub, Nat.reduceEqDiff, Nat.reduceBEq, Nat.reduceLT, Nat.reduceLeDiff, reduceCtorEq]
  all_goals repeat' (first | (apply brB_mk <;> (intro hg; (try simp only [push_cast] at hg))) | apply And.intro | (intro hg; (try simp only [push_cast] at hg)))
  all_goals first | exact True.intro | exact rfl | contradiction | omega | with_reducible assumption | (exact getE_dII (by omega)) | skip
  all_goals first | (refine hK _ ?_; clear hK K) | (simp only [push_cast, ↓brB_true, ↓brB_false, ↓reduceIte, Nat.reduceMod, Nat.reduceMul, Nat.reduceDiv, Nat.reduceAdd, Nat.reduceSub, Nat.reduceEqDiff, Nat.reduceBEq, Nat.reduceLT, Nat.reduceLeDiff, reduceCtorEq]; done)
  refine awp_block ?_
  refine awp_loopU [6,7,8,9,10,11,12,13,14,15,16,17,18,19,20,21,22,23,24,25,26,27,28,29,30,31,32,33,34,35,36,37,38] [] (fun (k : Nat) => [(8, .int .i64 k)]) (fun k => []) (fun k => []) (fun k => k ≤ (gl w.a.next v.toNat).length ∧ ∀ j, j < k → ¬ gi (gl w.a.next v.toNat) j = u) (fun k => (gl w.a.next v.toNat).length - k) 0 ?_ ⟨by omega, fun j hj => by omega⟩ ?_
  ·
    refine cov_of rfl ?_ ?_ ?_ <;> simp only [covS, covL, push_cast, ↓brB_true, ↓brB_false, ↓reduceIte, Nat.reduceMod, Nat.reduceMul, Nat.reduceDiv, Nat.reduceAdd, Nat.reduceSub, Nat.reduceEqDiff, Nat.reduceBEq, Nat.reduceLT, Nat.reduceLeDiff, reduceCtorEq]
  · rintro k ⟨hk, hall⟩ KL0 hL0
    simp only [push_cast, ↓brB_true, ↓brB_false, ↓reduceIte, Nat.reduceMod, Nat.reduceMul, Nat.reduceDiv, Nat.reduceAdd, Nat.reduceSub, Nat.reduceEqDiff, Nat.reduceBEq, Nat.reduceLT, Nat.reduceLeDiff, reduceCtorEq]
    refine awp_seq' fun K2 hK2 => ?_
    refine awp_seq' fun K hK => ?_
    refine awp_region tyOk tyPos [] rfl ?_
    all_goals simp only [push_cast, ↓brB_true, ↓brB_false, ↓reduceIte, Nat.reduceMod, Nat.reduceMul, Nat.reduceDiv, Nat.reduceAdd, Nat.reduceSub, Nat.reduceEqDiff, Nat.reduceBEq, Nat.reduceLT, Nat.reduceLeDiff, reduceCtorEq]
    all_goals repeat' (first | (apply brB_mk <;> (intro hg; (try simp only [push_cast] at hg))) | apply And.intro | (intro hg; (try simp only [push_cast] at hg)))
    all_goals first | exact True.intro | exact rfl | contradiction | omega | with_reducible assumption | (exact getE_dII (by omega)) | skip
    all_goals first | (refine hK _ ?_; clear hK K) | (simp only [push_cast, ↓brB_true, ↓brB_false, ↓reduceIte, Nat.reduceMod, Nat.reduceMul, Nat.reduceDiv, Nat.reduceAdd, Nat.reduceSub, Nat.reduceEqDiff, Nat.reduceBEq, Nat.reduceLT, Nat.reduceLeDiff, reduceCtorEq]; done)
    refine awp_cond rfl (fun hc => ?_) (fun hc => ?_) <;> (try simp only [push_cast] at hc)
    ·
      refine awp_skip ?_
      (try simp only [AThen, ABlk, reduceIte, Nat.reduceEqDiff]); refine hK2 _ ?_
      refine awp_seq' fun K3 hK3 => ?_
      refine awp_block ?_
      refine awp_seq' fun K hK => ?_
      refine awp_region tyOk tyPos [] rfl ?_
      all_goals simp only [push_cast, ↓brB_true, ↓brB_false, ↓reduceIte, Nat.reduceMod, Nat.reduceMul, Nat.reduceDiv, Nat.reduceAdd, Nat.reduceSub, Nat.reduceEqDiff, Nat.reduceBEq, Nat.reduceLT, Nat.reduceLeDiff, reduceCtorEq]
      all_goals repeat' (first | (apply brB_mk <;> (intro hg; (try simp only [push_cast] at hg))) | apply And.intro | (intro hg; (try simp only [push_cast] at hg)))
      all_goals first | exact True.intro | exact rfl | contradiction | omega | with_reducible assumption | (exact getE_dII (by omega)) | skip
      all_goals first | (refine hK _ ?_; clear hK K) | (simp only [push_cast, ↓brB_true, ↓brB_false, ↓reduceIte, Nat.reduceMod, Nat.reduceMul, Nat.reduceDiv, Nat.reduceAdd, Nat.reduceSub, Nat.reduceEqDiff, Nat.reduceBEq, Nat.reduceLT, Nat.reduceLeDiff, reduceCtorEq]; done)
      refine awp_cond rfl (fun hc => ?_) (fun hc => ?_) <;> (try simp only [push_cast] at hc)
      ·
        refine awp_seq' fun K hK => ?_
        refine awp_region tyOk tyPos [] rfl ?_
        all_goals simp only [push_cast, ↓brB_true, ↓brB_false, ↓reduceIte, Nat.reduceMod, Nat.reduceMul, Nat.reduceDiv, Nat.reduceAdd, Nat.reduceSub, Nat.reduceEqDiff, Nat.reduceBEq, Nat.reduceLT, Nat.reduceLeDiff, reduceCtorEq]
        all_goals repeat' (first | (apply brB_mk <;> (intro hg; (try simp only [push_cast] at hg))) | apply And.intro | (intro hg; (try simp only [push_cast] at hg)))
        all_goals first | exact True.intro | exact rfl | contradiction | omega | with_reducible assumption | (exact getE_dII (by omega)) | skip
        all_goals first | (refine hK _ ?_; clear hK K) | (simp only [push_cast, ↓brB_true, ↓brB_false, ↓reduceIte, Nat.reduceMod, Nat.reduceMul, Nat.reduceDiv, Nat.reduceAdd, Nat.reduceSub, Nat.reduceEqDiff, Nat.reduceBEq, Nat.reduceLT, Nat.reduceLeDiff, reduceCtorEq]; done)
        refine awp_ret ?_
        (try simp only [AThen, ABlk])
        refine ⟨Or.inl rfl, ?_⟩
        simp only [RetOk, push_cast, ↓brB_true, ↓brB_false, ↓reduceIte, Nat.reduceMod, Nat.reduceMul, Nat.reduceDiv, Nat.reduceAdd, Nat.reduceSub, Nat.reduceEqDiff, Nat.reduceBEq, Nat.reduceLT, Nat.reduceLeDiff, reduceCtorEq]
        have hf : fidx (gl w.a.next v.toNat) u = k := fidx_at (by omega) hall (by omega)
        have hh : hasB (gl w.a.next v.toNat) u = true := by unfold hasB; rw [hf, decide_eq_true_eq]; omega
        unfold stepC stepCost
        rw [if_pos hh, hf, hh]
        exact ⟨rfl, rfl⟩
      ·
        refine awp_skip ?_
        (try simp only [AThen, ABlk, reduceIte, Nat.reduceEqDiff]); refine hK3 _ ?_
        refine awp_region tyOk tyPos [] rfl ?_
        all_goals simp only [push_cast, ↓brB_true, ↓brB_false, ↓reduceIte, Nat.reduceMod, Nat.reduceMul, Nat.reduceDiv, Nat.reduceAdd, Nat.reduceSub, Nat.reduceEqDiff, Nat.reduceBEq, Nat.reduceLT, Nat.reduceLeDiff, reduceCtorEq]
        all_goals repeat' (first | (apply brB_mk <;> (intro hg; (try simp only [push_cast] at hg))) | apply And.intro | (intro hg; (try simp only [push_cast] at hg)))
        all_goals first | exact True.intro | exact rfl | contradiction | omega | with_reducible assumption | (exact getE_dII (by omega)) | skip
        refine hL0 _ ⟨k + 1, ⟨by omega, fun j hj => (by
            by_cases hjk : j = k
            · subst hjk; omega
            · exact hall j (by omega))⟩, by omega, ?_⟩
        refine cov_of rfl ?_ ?_ ?_ <;> simp only [covS, covL, push_cast, ↓brB_true, ↓brB_false, ↓reduceIte, Nat.reduceMod, Nat.reduceMul, Nat.reduceDiv, Nat.reduceAdd, Nat.reduceSub, Nat.reduceEqDiff, Nat.reduceBEq, Nat.reduceLT, Nat.reduceLeDiff, reduceCtorEq]
    ·
      refine awp_exit ?_
      (try simp only [AThen, ABlk, reduceIte, Nat.reduceEqDiff]); refine hK1 _ ?_
      refine awp_seq' fun K hK => ?_
      refine awp_region tyOk tyPos [] rfl ?_
      all_goals simp only [push_cast, ↓brB_true, ↓brB_false, ↓reduceIte, Nat.reduceMod, Nat.reduceMul, Nat.reduceDiv, Nat.reduceAdd, Nat.reduceSub, Nat.reduceEqDiff, Nat.reduceBEq, Nat.reduceLT, Nat.reduceLeDiff, reduceCtorEq]
      all_goals repeat' (first | (apply brB_mk <;> (intro hg; (try simp only [push_cast] at hg))) | apply And.intro | (intro hg; (try simp only [push_cast] at hg)))
      all_goals first | exact True.intro | exact rfl | contradiction | omega | with_reducible assumption | (exact getE_dII (by omega)) | skip
      all_goals first | (refine hK _ ?_; clear hK K) | (simp only [push_cast, ↓brB_true, ↓brB_false, ↓reduceIte, Nat.reduceMod, Nat.reduceMul, Nat.reduceDiv, Nat.reduceAdd, Nat.reduceSub, Nat.reduceEqDiff, Nat.reduceBEq, Nat.reduceLT, Nat.reduceLeDiff, reduceCtorEq]; done)
      refine awp_ret ?_
      (try simp only [AThen, ABlk])
      refine ⟨Or.inl rfl, ?_⟩
      simp only [RetOk, push_cast, ↓brB_true, ↓brB_false, ↓reduceIte, Nat.reduceMod, Nat.reduceMul, Nat.reduceDiv, Nat.reduceAdd, Nat.reduceSub, Nat.reduceEqDiff, Nat.reduceBEq, Nat.reduceLT, Nat.reduceLeDiff, reduceCtorEq]
      have hh : hasB (gl w.a.next v.toNat) u = false := by unfold hasB; rw [fidx_none (fun j hj => hall j (by omega)), decide_eq_false_iff_not]; omega
      unfold stepC
      rw [if_neg (by rw [hh]; decide), hh]
      exact ⟨rfl, rfl⟩
set_option maxRecDepth 20000 in
set_option maxHeartbeats 4000000 in
theorem costOf_fn (w : Wt) (ha : w.Ln 1048576) (hw : weightedB w = true) (v : Int) (hv : 0 ≤ v ∧ v < w.a.owner.length) (u : Int) (hu : hasB (gl w.a.next v.toNat) u = true) : Fn Try.prog tyT 85 [.agg (dWt w), .c (.int .i64 v), .c (.int .i64 u)] [.c (.int .i64 (stepC w v u))] := by
  have hr : ∀ v, (gl w.a.next v).length ≤ 1048576 := fun v => gl_le ha.a.next v
  have hcr : ∀ v, (gl w.cost v).length ≤ 1048576 := fun v => gl_le ha.cost v
  obtain ⟨hok, hn1, hn2, hn3, hn4, hrow⟩ := weighted_facts hw
  have hrv := hr v.toNat
  have hcv := hcr v.toNat
  obtain ⟨hr1, hr2, hr3, hr4⟩ := hrow v.toNat (by omega)
  have hf := hasB_lt hu
  have hi := Index_fn (gl w.a.next v.toNat) u hrv
  rw [show ixB (gl w.a.next v.toNat) u = (fidx (gl w.a.next v.toNat) u : Nat) from by unfold ixB; rw [if_pos hf]] at hi
  rw [show stepC w v u = gi (gl w.cost v.toNat) (fidx (gl w.a.next v.toNat) u) from by unfold stepC stepCost; rw [if_pos hu]]
  unfold dWt
  refine Fn_of (fn := Try.f85) (ts := [6]) Try.func85 (by kernel_rfl) rfl rfl (by rw [Try.ntmps85]; exact Nat.le_of_ble_eq_true rfl) rfl (by simp only [szA, List.mem_cons, List.not_mem_nil, or_false, forall_eq_or_imp, forall_eq, VT.cells, szL]; try decide) ?_
  rw [Try.ntmps85]
  simp only [push_cast, ↓brB_true, ↓brB_false, ↓reduceIte, Nat.reduceMod, Nat.reduceMul, Nat.reduceDiv, Nat.reduceAdd, Nat.reduceSub, Nat.reduceEqDiff, Nat.reduceBEq, Nat.reduceLT, Nat.reduceLeDiff, reduceCtorEq]
  refine awp_seq' fun K hK => ?_
  refine awp_region tyOk tyPos [] rfl ?_
  all_goals simp only [push_cast, ↓brB_true, ↓brB_false, ↓reduceIte, Nat.reduceMod, Nat.reduceMul, Nat.reduceDiv, Nat.reduceAdd, Nat.reduceSub, Nat.reduceEqDiff, Nat.reduceBEq, Nat.reduceLT, Nat.reduceLeDiff, reduceCtorEq]
  all_goals repeat' (first | (apply brB_mk <;> (intro hg; (try simp only [push_cast] at hg))) | (refine ⟨_, hi, ?_⟩; simp only [push_cast, ↓brB_true, ↓brB_false, ↓reduceIte, Nat.reduceMod, Nat.reduceMul, Nat.reduceDiv, Nat.reduceAdd, Nat.reduceSub, Nat.reduceEqDiff, Nat.reduceBEq, Nat.reduceLT, Nat.reduceLeDiff, reduceCtorEq]) | apply And.intro | (intro hg; (try simp only [push_cast] at hg)))
  all_goals first | exact True.intro | exact rfl | contradiction | omega | with_reducible assumption | (exact getE_dII (by omega)) | skip
  all_goals first | (refine hK _ ?_; clear hK K) | (simp only [push_cast, ↓brB_true, ↓brB_false, ↓reduceIte, Nat.reduceMod, Nat.reduceMul, Nat.reduceDiv, Nat.reduceAdd, Nat.reduceSub, Nat.reduceEqDiff, Nat.reduceBEq, Nat.reduceLT, Nat.reduceLeDiff, reduceCtorEq]; done)
  refine awp_seq' fun K hK => ?_
  refine awp_regionD1 false tyOk tyPos tyMix ?_ rfl ?_
  · kernel_rfl
  intro E hE
  all_goals refine lexF_cut 13 (by decide) fun K9 hK9 => ?_
  all_goals simp only [push_cast, ↓brB_true, ↓brB_false, ↓reduceIte, Nat.reduceMod, Nat.reduceMul, Nat.reduceDiv, Nat.reduceAdd, Nat.reduceSub, Nat.reduceEqDiff, Nat.reduceBEq, Nat.reduceLT, Nat.reduceLeDiff, reduceCtorEq]
  all_goals repeat' (first | (apply brB_mk <;> (intro hg; (try simp only [push_cast] at hg))) | (refine ⟨_, hi, ?_⟩; simp only [push_cast, ↓brB_true, ↓brB_false, ↓reduceIte, Nat.reduceMod, Nat.reduceMul, Nat.reduceDiv, Nat.reduceAdd, Nat.reduceSub, Nat.reduceEqDiff, Nat.reduceBEq, Nat.reduceLT, Nat.reduceLeDiff, reduceCtorEq]) | apply And.intro | (intro hg; (try simp only [push_cast] at hg)))
  all_goals first | exact True.intro | exact rfl | contradiction | omega | with_reducible assumption | (exact getE_dII (by omega)) | skip
  all_goals first | (refine hK9 _ _ ?_; clear hK9 K9) | (simp only [push_cast, ↓brB_true, ↓brB_false, ↓reduceIte, Nat.reduceMod, Nat.reduceMul, Nat.reduceDiv, Nat.reduceAdd, Nat.reduceSub, Nat.reduceEqDiff, Nat.reduceBEq, Nat.reduceLT, Nat.reduceLeDiff, reduceCtorEq]; done)
  all_goals simp only [push_cast, ↓brB_true, ↓brB_false, ↓reduceIte, Nat.reduceMod, Nat.reduceMul, Nat.reduceDiv, Nat.reduceAdd, Nat.reduceSub, Nat.reduceEqDiff, Nat.reduceBEq, Nat.reduceLT, Nat.reduceLeDiff, reduceCtorEq]
  all_goals repeat' (first | (apply brB_mk <;> (intro hg; (try simp only [push_cast] at hg))) | (refine ⟨_, hi, ?_⟩; simp only [push_cast, ↓brB_true, ↓brB_false, ↓reduceIte, Nat.reduceMod, Nat.reduceMul, Nat.reduceDiv, Nat.reduceAdd, Nat.reduceSub, Nat.reduceEqDiff, Nat.reduceBEq, Nat.reduceLT, Nat.reduceLeDiff, reduceCtorEq]) | apply And.intro | (intro hg; (try simp only [push_cast] at hg)))
  all_goals first | exact True.intro | exact rfl | contradiction | omega | with_reducible assumption | (refine hE _ _ ?_ ?_; kernel_rfl) | (exact getE_dII (by omega)) | skip
  all_goals clear hE E
  all_goals first | (refine hK _ ?_; clear hK K) | (simp only [push_cast, ↓brB_true, ↓brB_false, ↓reduceIte, Nat.reduceMod, Nat.reduceMul, Nat.reduceDiv, Nat.reduceAdd, Nat.reduceSub, Nat.reduceEqDiff, Nat.reduceBEq, Nat.reduceLT, Nat.reduceLeDiff, reduceCtorEq]; done)
  refine awp_ret ?_
  (try simp only [AThen, ABlk])
  refine ⟨Or.inl rfl, ?_⟩
  simp only [RetOk, push_cast, ↓brB_true, ↓brB_false, ↓reduceIte, Nat.reduceMod, Nat.reduceMul, Nat.reduceDiv, Nat.reduceAdd, Nat.reduceSub, Nat.reduceEqDiff, Nat.reduceBEq, Nat.reduceLT, Nat.reduceLeDiff, reduceCtorEq]
end Go.Proofs.Ytfmkomllnojkjaa
