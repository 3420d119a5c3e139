/- the least credit of a lasso: both sides -/
import Derived.Test.YtdbecmmeifdafaaLoopSumzcr
namespace Go.Proofs.Ytdbecmmeifdafaa
open Nat renaming reduceMod → zA, reduceMul → zB, reduceDiv → zC, reduceAdd → zD, reduceSub → zE, reduceEqDiff → zF, reduceBEq → zG, reduceLT → zH, reduceLeDiff → zI
open Go.RowKit
set_option linter.unusedVariables false
set_option linter.unusedSimpArgs false

theorem toNat_p1m1 (k : Nat) : ((k : Int) + 1 - 1).toNat = k := by omega
attribute [push_cast] toNat_p1m1
def runMin (f : Nat → Int) : Nat → Int
  | 0 => 0
  | k + 1 => if psum f (k + 1) < runMin f k then psum f (k + 1) else runMin f k
theorem runMin_le {f : Nat → Int} {b : Int} {n : Nat} (hb : 0 ≤ b) (h : ∀ k, k ≤ n → -b ≤ psum f k ∧ psum f k ≤ b) : -b ≤ runMin f n ∧ runMin f n ≤ 0 := by
  induction n with
  | zero => simp only [runMin]; omega
  | succ n ih =>
    have h1 := ih fun k hk => h k (by omega)
    have h2 := h (n + 1) (Nat.le_refl _)
    rw [runMin]
    split <;> omega
def stepL (w : Wt) (l : Ls) (i : Nat) : Int := stepC w (gi (wayL l) i) (gi (wayL l) (i + 1))
theorem wayL_at2 {l : Ls} {j : Nat} (h : j < l.loop.length) : gi (wayL l) (l.stem.length + j) = gi l.loop j := by
  unfold wayL
  rw [gi_app (by simp; omega), gi_app_r rfl]
theorem wayL_at3 {l : Ls} : gi (wayL l) (l.stem.length + l.loop.length) = gi l.loop 0 := by
  unfold wayL
  have := gi_app_at (xs := l.stem ++ l.loop) (y := gi l.loop 0)
  rwa [List.length_append] at this
def lassoCr (w : Wt) (l : Ls) : Int := if weightedB w && lassoB w.a l && decide (0 ≤ loopV w l) then -runMin (stepL w l) (l.stem.length + l.loop.length) else -1
theorem lassoCr_no1 {w : Wt} {l : Ls} (h : weightedB w = false) : lassoCr w l = -1 := by unfold lassoCr; rw [h]; rfl
theorem lassoCr_no2 {w : Wt} {l : Ls} (h : lassoB w.a l = false) : lassoCr w l = -1 := by unfold lassoCr; rw [h, Bool.and_false]; rfl
theorem lassoCr_no4 {w : Wt} {l : Ls} (h : loopV w l < 0) : lassoCr w l = -1 := by unfold lassoCr; rw [decide_eq_false (by omega), Bool.and_false]; rfl
theorem lassoCr_yes {w : Wt} {l : Ls} (hw : weightedB w = true) (hl : lassoB w.a l = true) (h : ¬ loopV w l < 0) : lassoCr w l = -runMin (stepL w l) (l.stem.length + l.loop.length) := by
  unfold lassoCr; rw [hw, hl, decide_eq_true (by omega)]; rfl
theorem way_in {a : Ar} {l : Ls} (h : lassoB a l = true) {k : Nat} (hk : k < l.stem.length + l.loop.length) : (0 ≤ gi (wayL l) k ∧ gi (wayL l) k < a.owner.length) ∧ hasB (gl a.next (gi (wayL l) k).toNat) (gi (wayL l) (k + 1)) = true := by
  obtain ⟨h1, h2, h3⟩ := lassoB_iff.1 h
  have hw := wayL_len l
  exact ⟨h2 k (by omega), h3 (k + 1) (by omega) (by omega)⟩
theorem stepL_le {w : Wt} {l : Ls} (h : weightedB w = true) (hl : lassoB w.a l = true) {k : Nat} (hk : k ≤ l.stem.length + l.loop.length) : (-512000 ≤ psum (stepL w l) k ∧ psum (stepL w l) k ≤ 512000) ∧ -512000 ≤ runMin (stepL w l) k ∧ runMin (stepL w l) k ≤ 0 := by
  have h1 := lassoB_len' hl
  have hp : ∀ j, j ≤ k → -512000 ≤ psum (stepL w l) j ∧ psum (stepL w l) j ≤ 512000 := fun j hj => by
    have := psum_le (f := stepL w l) (b := 1000) (n := j) fun i hi => stepC_le h (way_in hl (by omega)).1
    omega
  exact ⟨hp k (Nat.le_refl _), runMin_le (by omega) hp⟩
set_option maxRecDepth 20000 in
set_option maxHeartbeats 4000000 in
theorem LassoCreditI_fn (w : Wt) (l : Ls) (ha : w.Ln 1048576) (hl : l.Ln 1048576) : Fn Try.prog tyT 24 [.agg (dWt w), .agg (dLs l)] [.c (.int .i64 (lassoCr w l))] := by
  have hno := ha.a.owner
  have hlp := hl.loop
  have hst := hl.stem
  unfold LnI at hno hlp hst
  have hW := isWeighted_fn w ha
  have hLo := fun h => isLasso_fn w.a l ha.a hl h
  have hSu := fun hw hlas => loopSum_fn w l ha hl hw hlas
  have hC := fun hw v hv u hu => costOf_fn w ha hw v hv u hu
  unfold dAr dLs at hLo
  unfold dWt at hW hC hSu ⊢
  unfold dLs at hSu ⊢
  refine Fn_of (fn := Try.f24) (ts := [4]) Try.func24 (by kernel_rfl) rfl rfl (by rw [Try.ntmps24]; exact Nat.le_of_ble_eq_true rfl) rfl (by simp only [szA, List.mem_cons, List.not_mem_nil, or_false, forall_eq_or_imp, forall_eq, VT.cells, szL]; try decide) ?_
  rw [Try.ntmps24]
  simp only [push_cast, ↓brB_true, ↓brB_false, ↓reduceIte, zA, zB, zC, zD, zE, zF, zG, zH, zI, reduceCtorEq]
  refine awp_seq' fun K hK => ?_
  refine awp_region tyOk tyPos [] rfl ?_
  all_goals simp only [push_cast, ↓brB_true, ↓brB_false, ↓reduceIte, zA, zB, zC, zD, zE, zF, zG, zH, zI, reduceCtorEq]
  all_goals repeat' (first | (apply brB_mk <;> (intro hg; (try simp only [push_cast] at hg))) | (refine ⟨_, hW, ?_⟩; simp only [push_cast, ↓brB_true, ↓brB_false, ↓reduceIte, zA, zB, zC, zD, zE, zF, zG, zH, zI, reduceCtorEq]) | (refine ⟨_, hLo (weighted_facts (by with_reducible assumption)).1, ?_⟩; simp only [push_cast, ↓brB_true, ↓brB_false, ↓reduceIte, zA, zB, zC, zD, zE, zF, zG, zH, zI, reduceCtorEq]) | (refine ⟨_, hSu (by with_reducible assumption) (by with_reducible assumption), ?_⟩; simp only [push_cast, ↓brB_true, ↓brB_false, ↓reduceIte, zA, zB, zC, zD, zE, zF, zG, zH, zI, reduceCtorEq]) | (refine ⟨_, hC hw _ (way_in hlas (k := k) (by omega)).1 _ (way_in hlas (k := k) (by omega)).2, ?_⟩; simp only [push_cast, ↓brB_true, ↓brB_false, ↓reduceIte, zA, zB, zC, zD, zE, zF, zG, zH, zI, reduceCtorEq]) | apply And.intro | (intro hg; (try simp only [push_cast] at hg)))
  all_goals first | exact True.intro | exact rfl | contradiction | omega | with_reducible assumption | (rw [show stepC w (gi (wayL l) k) (gi (wayL l) (k + 1)) = stepL w l k from rfl]; have := hb2 (by omega); omega) | skip
  all_goals first | (refine hK _ ?_; clear hK K) | (simp only [push_cast, ↓brB_true, ↓brB_false, ↓reduceIte, zA, zB, zC, zD, zE, zF, zG, zH, zI, reduceCtorEq]; done)
  refine awp_seq' fun K1 hK1 => ?_
  refine awp_seq' fun K hK => ?_
  refine awp_regionN false tyOk tyPos ?_ rfl ?_
  · kernel_rfl
  all_goals refine seqE_cut 2 fun K9 hK9 => ?_
  all_goals simp only [push_cast, ↓brB_true, ↓brB_false, ↓reduceIte, zA, zB, zC, zD, zE, zF, zG, zH, zI, reduceCtorEq]
  all_goals repeat' (first | (apply brB_mk <;> (intro hg; (try simp only [push_cast] at hg))) | (refine ⟨_, hW, ?_⟩; simp only [push_cast, ↓brB_true, ↓brB_false, ↓reduceIte, zA, zB, zC, zD, zE, zF, zG, zH, zI, reduceCtorEq]) | (refine ⟨_, hLo (weighted_facts (by with_reducible assumption)).1, ?_⟩; simp only [push_cast, ↓brB_true, ↓brB_false, ↓reduceIte, zA, zB, zC, zD, zE, zF, zG, zH, zI, reduceCtorEq]) | (refine ⟨_, hSu (by with_reducible assumption) (by with_reducible assumption), ?_⟩; simp only [push_cast, ↓brB_true, ↓brB_false, ↓reduceIte, zA, zB, zC, zD, zE, zF, zG, zH, zI, reduceCtorEq]) | (refine ⟨_, hC hw _ (way_in hlas (k := k) (by omega)).1 _ (way_in hlas (k := k) (by omega)).2, ?_⟩; simp only [push_cast, ↓brB_true, ↓brB_false, ↓reduceIte, zA, zB, zC, zD, zE, zF, zG, zH, zI, reduceCtorEq]) | apply And.intro | (intro hg; (try simp only [push_cast] at hg)))
  all_goals first | exact True.intro | exact rfl | contradiction | omega | with_reducible assumption | (rw [show stepC w (gi (wayL l) k) (gi (wayL l) (k + 1)) = stepL w l k from rfl]; have := hb2 (by omega); omega) | skip
  all_goals first | (refine hK9 _ ?_; clear hK9 K9) | (simp only [push_cast, ↓brB_true, ↓brB_false, ↓reduceIte, zA, zB, zC, zD, zE, zF, zG, zH, zI, reduceCtorEq]; done)
  all_goals refine seqE_cut 6 fun K9 hK9 => ?_
  all_goals simp only [push_cast, ↓brB_true, ↓brB_false, ↓reduceIte, zA, zB, zC, zD, zE, zF, zG, zH, zI, reduceCtorEq]
  all_goals repeat' (first | (apply brB_mk <;> (intro hg; (try simp only [push_cast] at hg))) | (refine ⟨_, hW, ?_⟩; simp only [push_cast, ↓brB_true, ↓brB_false, ↓reduceIte, zA, zB, zC, zD, zE, zF, zG, zH, zI, reduceCtorEq]) | (refine ⟨_, hLo (weighted_facts (by with_reducible assumption)).1, ?_⟩; simp only [push_cast, ↓brB_true, ↓brB_false, ↓reduceIte, zA, zB, zC, zD, zE, zF, zG, zH, zI, reduceCtorEq]) | (refine ⟨_, hSu (by with_reducible assumption) (by with_reducible assumption), ?_⟩; simp only [push_cast, ↓brB_true, ↓brB_false, ↓reduceIte, zA, zB, zC, zD, zE, zF, zG, zH, zI, reduceCtorEq]) | (refine ⟨_, hC hw _ (way_in hlas (k := k) (by omega)).1 _ (way_in hlas (k := k) (by omega)).2, ?_⟩; simp only [push_cast, ↓brB_true, ↓brB_false, ↓reduceIte, zA, zB, zC, zD, zE, zF, zG, zH, zI, reduceCtorEq]) | apply And.intro | (intro hg; (try simp only [push_cast] at hg)))
  all_goals first | exact True.intro | exact rfl | contradiction | omega | with_reducible assumption | (rw [show stepC w (gi (wayL l) k) (gi (wayL l) (k + 1)) = stepL w l k from rfl]; have := hb2 (by omega); omega) | skip
  all_goals first | (refine hK9 _ ?_; clear hK9 K9) | (simp only [push_cast, ↓brB_true, ↓brB_false, ↓reduceIte, zA, zB, zC, zD, zE, zF, zG, zH, zI, reduceCtorEq]; done)
  all_goals refine seqE_cut 6 fun K9 hK9 => ?_
  all_goals simp only [push_cast, ↓brB_true, ↓brB_false, ↓reduceIte, zA, zB, zC, zD, zE, zF, zG, zH, zI, reduceCtorEq]
  all_goals repeat' (first | (apply brB_mk <;> (intro hg; (try simp only [push_cast] at hg))) | (refine ⟨_, hW, ?_⟩; simp only [push_cast, ↓brB_true, ↓brB_false, ↓reduceIte, zA, zB, zC, zD, zE, zF, zG, zH, zI, reduceCtorEq]) | (refine ⟨_, hLo (weighted_facts (by with_reducible assumption)).1, ?_⟩; simp only [push_cast, ↓brB_true, ↓brB_false, ↓reduceIte, zA, zB, zC, zD, zE, zF, zG, zH, zI, reduceCtorEq]) | (refine ⟨_, hSu (by with_reducible assumption) (by with_reducible assumption), ?_⟩; simp only [push_cast, ↓brB_true, ↓brB_false, ↓reduceIte, zA, zB, zC, zD, zE, zF, zG, zH, zI, reduceCtorEq]) | (refine ⟨_, hC hw _ (way_in hlas (k := k) (by omega)).1 _ (way_in hlas (k := k) (by omega)).2, ?_⟩; simp only [push_cast, ↓brB_true, ↓brB_false, ↓reduceIte, zA, zB, zC, zD, zE, zF, zG, zH, zI, reduceCtorEq]) | apply And.intro | (intro hg; (try simp only [push_cast] at hg)))
  all_goals first | exact True.intro | exact rfl | contradiction | omega | with_reducible assumption | (rw [show stepC w (gi (wayL l) k) (gi (wayL l) (k + 1)) = stepL w l k from rfl]; have := hb2 (by omega); omega) | skip
  all_goals first | (refine hK9 _ ?_; clear hK9 K9) | (simp only [push_cast, ↓brB_true, ↓brB_false, ↓reduceIte, zA, zB, zC, zD, zE, zF, zG, zH, zI, reduceCtorEq]; done)
  all_goals simp only [push_cast, ↓brB_true, ↓brB_false, ↓reduceIte, zA, zB, zC, zD, zE, zF, zG, zH, zI, reduceCtorEq]
  all_goals repeat' (first | (apply brB_mk <;> (intro hg; (try simp only [push_cast] at hg))) | (refine ⟨_, hW, ?_⟩; simp only [push_cast, ↓brB_true, ↓brB_false, ↓reduceIte, zA, zB, zC, zD, zE, zF, zG, zH, zI, reduceCtorEq]) | (refine ⟨_, hLo (weighted_facts (by with_reducible assumption)).1, ?_⟩; simp only [push_cast, ↓brB_true, ↓brB_false, ↓reduceIte, zA, zB, zC, zD, zE, zF, zG, zH, zI, reduceCtorEq]) | (refine ⟨_, hSu (by with_reducible assumption) (by with_reducible assumption), ?_⟩; simp only [push_cast, ↓brB_true, ↓brB_false, ↓reduceIte, zA, zB, zC, zD, zE, zF, zG, zH, zI, reduceCtorEq]) | (refine ⟨_, hC hw _ (way_in hlas (k := k) (by omega)).1 _ (way_in hlas (k := k) (by omega)).2, ?_⟩; simp only [push_cast, ↓brB_true, ↓brB_false, ↓reduceIte, zA, zB, zC, zD, zE, zF, zG, zH, zI, reduceCtorEq]) | apply And.intro | (intro hg; (try simp only [push_cast] at hg)))
  all_goals first | exact True.intro | exact rfl | contradiction | omega | with_reducible assumption | (rw [show stepC w (gi (wayL l) k) (gi (wayL l) (k + 1)) = stepL w l k from rfl]; have := hb2 (by omega); omega) | skip
  all_goals first | (refine hK _ ?_; clear hK K) | (simp only [push_cast, ↓brB_true, ↓brB_false, ↓reduceIte, zA, zB, zC, zD, zE, zF, zG, zH, zI, reduceCtorEq]; done)
  all_goals refine awp_cond rfl (fun hc => ?_) (fun hc => ?_)
  all_goals (first | (cases hc; done) | skip)
  all_goals (try simp only [push_cast] at hc)
  all_goals try (
      refine awp_seq' fun K hK => ?_
      refine awp_region tyOk tyPos [] rfl ?_
      all_goals simp only [push_cast, ↓brB_true, ↓brB_false, ↓reduceIte, zA, zB, zC, zD, zE, zF, zG, zH, zI, reduceCtorEq]
      all_goals repeat' (first | (apply brB_mk <;> (intro hg; (try simp only [push_cast] at hg))) | (refine ⟨_, hW, ?_⟩; simp only [push_cast, ↓brB_true, ↓brB_false, ↓reduceIte, zA, zB, zC, zD, zE, zF, zG, zH, zI, reduceCtorEq]) | (refine ⟨_, hLo (weighted_facts (by with_reducible assumption)).1, ?_⟩; simp only [push_cast, ↓brB_true, ↓brB_false, ↓reduceIte, zA, zB, zC, zD, zE, zF, zG, zH, zI, reduceCtorEq]) | (refine ⟨_, hSu (by with_reducible assumption) (by with_reducible assumption), ?_⟩; simp only [push_cast, ↓brB_true, ↓brB_false, ↓reduceIte, zA, zB, zC, zD, zE, zF, zG, zH, zI, reduceCtorEq]) | (refine ⟨_, hC hw _ (way_in hlas (k := k) (by omega)).1 _ (way_in hlas (k := k) (by omega)).2, ?_⟩; simp only [push_cast, ↓brB_true, ↓brB_false, ↓reduceIte, zA, zB, zC, zD, zE, zF, zG, zH, zI, reduceCtorEq]) | apply And.intro | (intro hg; (try simp only [push_cast] at hg)))
      all_goals first | exact True.intro | exact rfl | contradiction | omega | with_reducible assumption | (rw [show stepC w (gi (wayL l) k) (gi (wayL l) (k + 1)) = stepL w l k from rfl]; have := hb2 (by omega); omega) | skip
      all_goals first | (refine hK _ ?_; clear hK K) | (simp only [push_cast, ↓brB_true, ↓brB_false, ↓reduceIte, zA, zB, zC, zD, zE, zF, zG, zH, zI, reduceCtorEq]; done)
      refine awp_ret ?_
      (try simp only [AThen, ABlk])
      refine ⟨Or.inl rfl, ?_⟩
      simp only [RetOk, push_cast, ↓brB_true, ↓brB_false, ↓reduceIte, zA, zB, zC, zD, zE, zF, zG, zH, zI, reduceCtorEq]
      symm
      first | exact lassoCr_no1 (by with_reducible assumption) | exact lassoCr_no2 (by with_reducible assumption) | exact lassoCr_no4 (by with_reducible assumption)
      done)
  refine awp_skip ?_
  (try simp only [AThen, ABlk, reduceIte, zF]); refine hK1 _ ?_
  have hlas : lassoB w.a l = true := by with_reducible assumption
  have hw : weightedB w = true := by with_reducible assumption
  have hll := lassoB_len' hlas
  have hsum : ¬ loopV w l < 0 := by omega
  refine awp_seq' fun K hK => ?_
  refine awp_regionD1 false tyOk tyPos tyMix ?_ rfl ?_
  · kernel_rfl
  intro E hE
  all_goals simp only [push_cast, ↓brB_true, ↓brB_false, ↓reduceIte, zA, zB, zC, zD, zE, zF, zG, zH, zI, reduceCtorEq]
  all_goals repeat' (first | (apply brB_mk <;> (intro hg; (try simp only [push_cast] at hg))) | (refine ⟨_, hW, ?_⟩; simp only [push_cast, ↓brB_true, ↓brB_false, ↓reduceIte, zA, zB, zC, zD, zE, zF, zG, zH, zI, reduceCtorEq]) | (refine ⟨_, hLo (weighted_facts (by with_reducible assumption)).1, ?_⟩; simp only [push_cast, ↓brB_true, ↓brB_false, ↓reduceIte, zA, zB, zC, zD, zE, zF, zG, zH, zI, reduceCtorEq]) | (refine ⟨_, hSu (by with_reducible assumption) (by with_reducible assumption), ?_⟩; simp only [push_cast, ↓brB_true, ↓brB_false, ↓reduceIte, zA, zB, zC, zD, zE, zF, zG, zH, zI, reduceCtorEq]) | (refine ⟨_, hC hw _ (way_in hlas (k := k) (by omega)).1 _ (way_in hlas (k := k) (by omega)).2, ?_⟩; simp only [push_cast, ↓brB_true, ↓brB_false, ↓reduceIte, zA, zB, zC, zD, zE, zF, zG, zH, zI, reduceCtorEq]) | apply And.intro | (intro hg; (try simp only [push_cast] at hg)))
  all_goals first | exact True.intro | exact rfl | contradiction | omega | with_reducible assumption | (refine hE _ _ ?_ ?_; kernel_rfl) | (simp only [push_cast, ↓brB_true, ↓brB_false, ↓reduceIte, zA, zB, zC, zD, zE, zF, zG, zH, zI, reduceCtorEq]; omega) | (rw [show stepC w (gi (wayL l) k) (gi (wayL l) (k + 1)) = stepL w l k from rfl]; have := hb2 (by omega); omega) | skip
  all_goals clear hE E
  all_goals first | (refine hK _ ?_; clear hK K) | (simp only [push_cast, ↓brB_true, ↓brB_false, ↓reduceIte, zA, zB, zC, zD, zE, zF, zG, zH, zI, reduceCtorEq]; done)
  refine awp_seq' fun K hK => ?_
  refine awp_region tyOk tyPos [] rfl ?_
  all_goals simp only [push_cast, ↓brB_true, ↓brB_false, ↓reduceIte, zA, zB, zC, zD, zE, zF, zG, zH, zI, reduceCtorEq]
  all_goals repeat' (first | (apply brB_mk <;> (intro hg; (try simp only [push_cast] at hg))) | (refine ⟨_, hW, ?_⟩; simp only [push_cast, ↓brB_true, ↓brB_false, ↓reduceIte, zA, zB, zC, zD, zE, zF, zG, zH, zI, reduceCtorEq]) | (refine ⟨_, hLo (weighted_facts (by with_reducible assumption)).1, ?_⟩; simp only [push_cast, ↓brB_true, ↓brB_false, ↓reduceIte, zA, zB, zC, zD, zE, zF, zG, zH, zI, reduceCtorEq]) | (refine ⟨_, hSu (by with_reducible assumption) (by with_reducible assumption), ?_⟩; simp only [push_cast, ↓brB_true, ↓brB_false, ↓reduceIte, zA, zB, zC, zD, zE, zF, zG, zH, zI, reduceCtorEq]) | (refine ⟨_, hC hw _ (way_in hlas (k := k) (by omega)).1 _ (way_in hlas (k := k) (by omega)).2, ?_⟩; simp only [push_cast, ↓brB_true, ↓brB_false, ↓reduceIte, zA, zB, zC, zD, zE, zF, zG, zH, zI, reduceCtorEq]) | apply And.intro | (intro hg; (try simp only [push_cast] at hg)))
  all_goals first | exact True.intro | exact rfl | contradiction | omega | with_reducible assumption | (rw [show stepC w (gi (wayL l) k) (gi (wayL l) (k + 1)) = stepL w l k from rfl]; have := hb2 (by omega); omega) | skip
  all_goals first | (refine hK _ ?_; clear hK K) | (simp only [push_cast, ↓brB_true, ↓brB_false, ↓reduceIte, zA, zB, zC, zD, zE, zF, zG, zH, zI, reduceCtorEq]; done)
  refine awp_seq' fun K2 hK2 => ?_
  refine awp_seq' fun K hK => ?_
  refine awp_region tyOk tyPos [] rfl ?_
  all_goals simp only [push_cast, ↓brB_true, ↓brB_false, ↓reduceIte, zA, zB, zC, zD, zE, zF, zG, zH, zI, reduceCtorEq]
  all_goals repeat' (first | (apply brB_mk <;> (intro hg; (try simp only [push_cast] at hg))) | (refine ⟨_, hW, ?_⟩; simp only [push_cast, ↓brB_true, ↓brB_false, ↓reduceIte, zA, zB, zC, zD, zE, zF, zG, zH, zI, reduceCtorEq]) | (refine ⟨_, hLo (weighted_facts (by with_reducible assumption)).1, ?_⟩; simp only [push_cast, ↓brB_true, ↓brB_false, ↓reduceIte, zA, zB, zC, zD, zE, zF, zG, zH, zI, reduceCtorEq]) | (refine ⟨_, hSu (by with_reducible assumption) (by with_reducible assumption), ?_⟩; simp only [push_cast, ↓brB_true, ↓brB_false, ↓reduceIte, zA, zB, zC, zD, zE, zF, zG, zH, zI, reduceCtorEq]) | (refine ⟨_, hC hw _ (way_in hlas (k := k) (by omega)).1 _ (way_in hlas (k := k) (by omega)).2, ?_⟩; simp only [push_cast, ↓brB_true, ↓brB_false, ↓reduceIte, zA, zB, zC, zD, zE, zF, zG, zH, zI, reduceCtorEq]) | apply And.intro | (intro hg; (try simp only [push_cast] at hg)))
  all_goals first | exact True.intro | exact rfl | contradiction | omega | with_reducible assumption | (rw [show stepC w (gi (wayL l) k) (gi (wayL l) (k + 1)) = stepL w l k from rfl]; have := hb2 (by omega); omega) | skip
  all_goals first | (refine hK _ ?_; clear hK K) | (simp only [push_cast, ↓brB_true, ↓brB_false, ↓reduceIte, zA, zB, zC, zD, zE, zF, zG, zH, zI, reduceCtorEq]; done)
  refine awp_block ?_
  have hwl := wayL_len l
  have hw0 : (l.stem ++ l.loop).length = l.stem.length + l.loop.length := List.length_append
  rw [List.take_of_length_le (by omega), show l.stem ++ l.loop ++ [gi l.loop 0] = wayL l from rfl]
  refine awp_loopU [6,7,8,12,19,38,39,40,41,42,43,44,45,46,47,48,49,50,51,52,53,54,55,56,57,58,59] [] (fun (k : Nat) => [(8, .int .i64 ((k : Int) + 1)), (6, .int .i64 (psum (stepL w l) k)), (7, .int .i64 (runMin (stepL w l) k))]) (fun k => []) (fun k => []) (fun k => k ≤ l.stem.length + l.loop.length) (fun k => l.stem.length + l.loop.length - k) 0 ?_ (by omega) ?_
  ·
    try simp only [psum, runMin]
    refine cov_of rfl ?_ ?_ ?_ <;> simp only [covS, covL, push_cast, ↓brB_true, ↓brB_false, ↓reduceIte, zA, zB, zC, zD, zE, zF, zG, zH, zI, reduceCtorEq]
  · rintro k hk KL0 hL0
    have hb1 := stepL_le hw hlas hk
    have hb2 : k < l.stem.length + l.loop.length → _ := fun h => stepL_le hw hlas (k := k + 1) (by omega)
    simp only [psum] at hb2
    simp only [push_cast, ↓brB_true, ↓brB_false, ↓reduceIte, zA, zB, zC, zD, zE, zF, zG, zH, zI, reduceCtorEq]
    refine awp_seq' fun K3 hK3 => ?_
    refine awp_seq' fun K hK => ?_
    refine awp_region tyOk tyPos [] rfl ?_
    all_goals simp only [push_cast, ↓brB_true, ↓brB_false, ↓reduceIte, zA, zB, zC, zD, zE, zF, zG, zH, zI, reduceCtorEq]
    all_goals repeat' (first | (apply brB_mk <;> (intro hg; (try simp only [push_cast] at hg))) | (refine ⟨_, hW, ?_⟩; simp only [push_cast, ↓brB_true, ↓brB_false, ↓reduceIte, zA, zB, zC, zD, zE, zF, zG, zH, zI, reduceCtorEq]) | (refine ⟨_, hLo (weighted_facts (by with_reducible assumption)).1, ?_⟩; simp only [push_cast, ↓brB_true, ↓brB_false, ↓reduceIte, zA, zB, zC, zD, zE, zF, zG, zH, zI, reduceCtorEq]) | (refine ⟨_, hSu (by with_reducible assumption) (by with_reducible assumption), ?_⟩; simp only [push_cast, ↓brB_true, ↓brB_false, ↓reduceIte, zA, zB, zC, zD, zE, zF, zG, zH, zI, reduceCtorEq]) | (refine ⟨_, hC hw _ (way_in hlas (k := k) (by omega)).1 _ (way_in hlas (k := k) (by omega)).2, ?_⟩; simp only [push_cast, ↓brB_true, ↓brB_false, ↓reduceIte, zA, zB, zC, zD, zE, zF, zG, zH, zI, reduceCtorEq]) | apply And.intro | (intro hg; (try simp only [push_cast] at hg)))
    all_goals first | exact True.intro | exact rfl | contradiction | omega | with_reducible assumption | (rw [show stepC w (gi (wayL l) k) (gi (wayL l) (k + 1)) = stepL w l k from rfl]; have := hb2 (by omega); omega) | skip
    all_goals first | (refine hK _ ?_; clear hK K) | (simp only [push_cast, ↓brB_true, ↓brB_false, ↓reduceIte, zA, zB, zC, zD, zE, zF, zG, zH, zI, reduceCtorEq]; done)
    refine awp_cond rfl (fun hc => ?_) (fun hc => ?_) <;> (try simp only [push_cast] at hc)
    ·
      refine awp_skip ?_
      (try simp only [AThen, ABlk, reduceIte, zF]); refine hK3 _ ?_
      refine awp_seq' fun K4 hK4 => ?_
      refine awp_block ?_
      refine awp_seq' fun K hK => ?_
      refine awp_regionD1 false tyOk tyPos tyMix ?_ rfl ?_
      · kernel_rfl
      intro E hE
      all_goals refine lexF_cut 12 (by decide) fun K9 hK9 => ?_
      all_goals simp only [push_cast, ↓brB_true, ↓brB_false, ↓reduceIte, zA, zB, zC, zD, zE, zF, zG, zH, zI, reduceCtorEq]
      all_goals repeat' (first | (apply brB_mk <;> (intro hg; (try simp only [push_cast] at hg))) | (refine ⟨_, hW, ?_⟩; simp only [push_cast, ↓brB_true, ↓brB_false, ↓reduceIte, zA, zB, zC, zD, zE, zF, zG, zH, zI, reduceCtorEq]) | (refine ⟨_, hLo (weighted_facts (by with_reducible assumption)).1, ?_⟩; simp only [push_cast, ↓brB_true, ↓brB_false, ↓reduceIte, zA, zB, zC, zD, zE, zF, zG, zH, zI, reduceCtorEq]) | (refine ⟨_, hSu (by with_reducible assumption) (by with_reducible assumption), ?_⟩; simp only [push_cast, ↓brB_true, ↓brB_false, ↓reduceIte, zA, zB, zC, zD, zE, zF, zG, zH, zI, reduceCtorEq]) | (refine ⟨_, hC hw _ (way_in hlas (k := k) (by omega)).1 _ (way_in hlas (k := k) (by omega)).2, ?_⟩; simp only [push_cast, ↓brB_true, ↓brB_false, ↓reduceIte, zA, zB, zC, zD, zE, zF, zG, zH, zI, reduceCtorEq]) | apply And.intro | (intro hg; (try simp only [push_cast] at hg)))
      all_goals first | exact True.intro | exact rfl | contradiction | omega | with_reducible assumption | (rw [show stepC w (gi (wayL l) k) (gi (wayL l) (k + 1)) = stepL w l k from rfl]; have := hb2 (by omega); omega) | skip
      all_goals first | (refine hK9 _ _ ?_; clear hK9 K9) | (simp only [push_cast, ↓brB_true, ↓brB_false, ↓reduceIte, zA, zB, zC, zD, zE, zF, zG, zH, zI, reduceCtorEq]; done)
      all_goals simp only [push_cast, ↓brB_true, ↓brB_false, ↓reduceIte, zA, zB, zC, zD, zE, zF, zG, zH, zI, reduceCtorEq]
      all_goals repeat' (first | (apply brB_mk <;> (intro hg; (try simp only [push_cast] at hg))) | (refine ⟨_, hW, ?_⟩; simp only [push_cast, ↓brB_true, ↓brB_false, ↓reduceIte, zA, zB, zC, zD, zE, zF, zG, zH, zI, reduceCtorEq]) | (refine ⟨_, hLo (weighted_facts (by with_reducible assumption)).1, ?_⟩; simp only [push_cast, ↓brB_true, ↓brB_false, ↓reduceIte, zA, zB, zC, zD, zE, zF, zG, zH, zI, reduceCtorEq]) | (refine ⟨_, hSu (by with_reducible assumption) (by with_reducible assumption), ?_⟩; simp only [push_cast, ↓brB_true, ↓brB_false, ↓reduceIte, zA, zB, zC, zD, zE, zF, zG, zH, zI, reduceCtorEq]) | (refine ⟨_, hC hw _ (way_in hlas (k := k) (by omega)).1 _ (way_in hlas (k := k) (by omega)).2, ?_⟩; simp only [push_cast, ↓brB_true, ↓brB_false, ↓reduceIte, zA, zB, zC, zD, zE, zF, zG, zH, zI, reduceCtorEq]) | apply And.intro | (intro hg; (try simp only [push_cast] at hg)))
      all_goals first | exact True.intro | exact rfl | contradiction | omega | with_reducible assumption | (refine hE _ _ ?_ ?_; kernel_rfl) | (rw [show stepC w (gi (wayL l) k) (gi (wayL l) (k + 1)) = stepL w l k from rfl]; have := hb2 (by omega); omega) | skip
      all_goals clear hE E
      all_goals first | (refine hK _ ?_; clear hK K) | (simp only [push_cast, ↓brB_true, ↓brB_false, ↓reduceIte, zA, zB, zC, zD, zE, zF, zG, zH, zI, reduceCtorEq]; done)
      refine awp_region tyOk tyPos [] rfl ?_
      all_goals simp only [push_cast, ↓brB_true, ↓brB_false, ↓reduceIte, zA, zB, zC, zD, zE, zF, zG, zH, zI, reduceCtorEq]
      all_goals repeat' (first | (apply brB_mk <;> (intro hg; (try simp only [push_cast] at hg))) | (refine ⟨_, hW, ?_⟩; simp only [push_cast, ↓brB_true, ↓brB_false, ↓reduceIte, zA, zB, zC, zD, zE, zF, zG, zH, zI, reduceCtorEq]) | (refine ⟨_, hLo (weighted_facts (by with_reducible assumption)).1, ?_⟩; simp only [push_cast, ↓brB_true, ↓brB_false, ↓reduceIte, zA, zB, zC, zD, zE, zF, zG, zH, zI, reduceCtorEq]) | (refine ⟨_, hSu (by with_reducible assumption) (by with_reducible assumption), ?_⟩; simp only [push_cast, ↓brB_true, ↓brB_false, ↓reduceIte, zA, zB, zC, zD, zE, zF, zG, zH, zI, reduceCtorEq]) | (refine ⟨_, hC hw _ (way_in hlas (k := k) (by omega)).1 _ (way_in hlas (k := k) (by omega)).2, ?_⟩; simp only [push_cast, ↓brB_true, ↓brB_false, ↓reduceIte, zA, zB, zC, zD, zE, zF, zG, zH, zI, reduceCtorEq]) | apply And.intro | (intro hg; (try simp only [push_cast] at hg)))
      all_goals first | exact True.intro | exact rfl | contradiction | omega | with_reducible assumption | (rw [show stepC w (gi (wayL l) k) (gi (wayL l) (k + 1)) = stepL w l k from rfl]; have := hb2 (by omega); omega) | skip
      (try simp only [AThen, ABlk, reduceIte, zF]); refine hK4 _ ?_
      refine awp_region tyOk tyPos [] rfl ?_
      all_goals simp only [push_cast, ↓brB_true, ↓brB_false, ↓reduceIte, zA, zB, zC, zD, zE, zF, zG, zH, zI, reduceCtorEq]
      all_goals repeat' (first | (apply brB_mk <;> (intro hg; (try simp only [push_cast] at hg))) | (refine ⟨_, hW, ?_⟩; simp only [push_cast, ↓brB_true, ↓brB_false, ↓reduceIte, zA, zB, zC, zD, zE, zF, zG, zH, zI, reduceCtorEq]) | (refine ⟨_, hLo (weighted_facts (by with_reducible assumption)).1, ?_⟩; simp only [push_cast, ↓brB_true, ↓brB_false, ↓reduceIte, zA, zB, zC, zD, zE, zF, zG, zH, zI, reduceCtorEq]) | (refine ⟨_, hSu (by with_reducible assumption) (by with_reducible assumption), ?_⟩; simp only [push_cast, ↓brB_true, ↓brB_false, ↓reduceIte, zA, zB, zC, zD, zE, zF, zG, zH, zI, reduceCtorEq]) | (refine ⟨_, hC hw _ (way_in hlas (k := k) (by omega)).1 _ (way_in hlas (k := k) (by omega)).2, ?_⟩; simp only [push_cast, ↓brB_true, ↓brB_false, ↓reduceIte, zA, zB, zC, zD, zE, zF, zG, zH, zI, reduceCtorEq]) | apply And.intro | (intro hg; (try simp only [push_cast] at hg)))
      all_goals first | exact True.intro | exact rfl | contradiction | omega | with_reducible assumption | (rw [show stepC w (gi (wayL l) k) (gi (wayL l) (k + 1)) = stepL w l k from rfl]; have := hb2 (by omega); omega) | skip
      refine hL0 _ ⟨k + 1, by omega, by omega, ?_⟩
      rw [show stepC w (gi (wayL l) k) (gi (wayL l) (k + 1)) = stepL w l k from rfl]
      try simp only [psum, runMin]
      refine cov_of rfl ?_ ?_ ?_ <;> simp only [covS, covL, push_cast, ↓brB_true, ↓brB_false, ↓reduceIte, zA, zB, zC, zD, zE, zF, zG, zH, zI, reduceCtorEq]
      all_goals first | rfl | congr
    ·
      refine awp_exit ?_
      (try simp only [AThen, ABlk, reduceIte, zF]); refine hK2 _ ?_
      refine awp_seq' fun K hK => ?_
      refine awp_region tyOk tyPos [] rfl ?_
      all_goals simp only [push_cast, ↓brB_true, ↓brB_false, ↓reduceIte, zA, zB, zC, zD, zE, zF, zG, zH, zI, reduceCtorEq]
      all_goals repeat' (first | (apply brB_mk <;> (intro hg; (try simp only [push_cast] at hg))) | (refine ⟨_, hW, ?_⟩; simp only [push_cast, ↓brB_true, ↓brB_false, ↓reduceIte, zA, zB, zC, zD, zE, zF, zG, zH, zI, reduceCtorEq]) | (refine ⟨_, hLo (weighted_facts (by with_reducible assumption)).1, ?_⟩; simp only [push_cast, ↓brB_true, ↓brB_false, ↓reduceIte, zA, zB, zC, zD, zE, zF, zG, zH, zI, reduceCtorEq]) | (refine ⟨_, hSu (by with_reducible assumption) (by with_reducible assumption), ?_⟩; simp only [push_cast, ↓brB_true, ↓brB_false, ↓reduceIte, zA, zB, zC, zD, zE, zF, zG, zH, zI, reduceCtorEq]) | (refine ⟨_, hC hw _ (way_in hlas (k := k) (by omega)).1 _ (way_in hlas (k := k) (by omega)).2, ?_⟩; simp only [push_cast, ↓brB_true, ↓brB_false, ↓reduceIte, zA, zB, zC, zD, zE, zF, zG, zH, zI, reduceCtorEq]) | apply And.intro | (intro hg; (try simp only [push_cast] at hg)))
      all_goals first | exact True.intro | exact rfl | contradiction | omega | with_reducible assumption | (rw [show stepC w (gi (wayL l) k) (gi (wayL l) (k + 1)) = stepL w l k from rfl]; have := hb2 (by omega); omega) | skip
      all_goals first | (refine hK _ ?_; clear hK K) | (simp only [push_cast, ↓brB_true, ↓brB_false, ↓reduceIte, zA, zB, zC, zD, zE, zF, zG, zH, zI, reduceCtorEq]; done)
      refine awp_ret ?_
      (try simp only [AThen, ABlk])
      refine ⟨Or.inl rfl, ?_⟩
      simp only [RetOk, push_cast, ↓brB_true, ↓brB_false, ↓reduceIte, zA, zB, zC, zD, zE, zF, zG, zH, zI, reduceCtorEq]
      rw [lassoCr_yes hw hlas hsum, show k = l.stem.length + l.loop.length from by omega]
end Go.Proofs.Ytdbecmmeifdafaa
