/- an arena with a plan fixed; with costs: both sides -/
import Derived.Test.YtdbecmmeifdafaaPozmb
import Derived.Test.YtdbecmmeifdafaaGPzmb
namespace Go.Proofs.Ytdbecmmeifdafaa
open Nat renaming reduceMod → zA, reduceMul → zB, reduceDiv → zC, reduceAdd → zD, reduceSub → zE, reduceEqDiff → zF, reduceBEq → zG, reduceLT → zH, reduceLeDiff → zI
open Go.RowKit
set_option linter.unusedVariables false
set_option linter.unusedSimpArgs false

/-- Rows replaced by single ones where a plan says so, so far. -/
def fixAt (xs : List (List Int)) (plan : List Int) (y : Nat → Int) (j : Nat) : List Int := if 0 ≤ gi plan j then [y j] else gl xs j
def fixL (xs : List (List Int)) (plan : List Int) (y : Nat → Int) (v : Nat) : List (List Int) := (List.range v).map (fixAt xs plan y) ++ xs.drop v
theorem fixL_0 (xs : List (List Int)) (plan : List Int) (y : Nat → Int) : fixL xs plan y 0 = xs := by simp [fixL]
theorem fixL_len {xs : List (List Int)} {plan : List Int} {y : Nat → Int} {v : Nat} (h : v ≤ xs.length) : (fixL xs plan y v).length = xs.length := by simp [fixL]; omega
theorem fixL_s {xs : List (List Int)} {plan : List Int} {y : Nat → Int} {v : Nat} (h : v < xs.length) : (fixL xs plan y v).set v (fixAt xs plan y v) = fixL xs plan y (v + 1) := by
  have hl : ((List.range v).map (fixAt xs plan y)).length = v := by simp
  unfold fixL
  rw [List.set_append_right _ _ (by omega), hl, Nat.sub_self, drop_gl' h, List.set_cons_zero, List.range_succ, List.map_append, List.append_assoc]
  rfl
theorem fixL_set {xs : List (List Int)} {plan : List Int} {y : Nat → Int} {v : Nat} (h : v < xs.length) (hp : 0 ≤ gi plan v) : (fixL xs plan y v).set v [y v] = fixL xs plan y (v + 1) := by
  rw [← fixL_s h, fixAt, if_pos hp]
theorem set_gl {xs : List (List Int)} {v : Nat} (h : v < xs.length) : xs.set v (gl xs v) = xs := by
  refine List.ext_getElem? fun i => ?_
  rw [List.getElem?_set]
  split
  · rename_i e; subst e; exact (gl_lt h).symm
  · rfl
theorem fixL_gl {xs : List (List Int)} {plan : List Int} {y : Nat → Int} {v : Nat} (h : v < xs.length) : gl (fixL xs plan y v) v = gl xs v := by
  have hl : ((List.range v).map (fixAt xs plan y)).length = v := by simp
  unfold fixL
  rw [drop_gl' h]
  exact gl_app_r (xs := (List.range v).map (fixAt xs plan y)) (ys := gl xs v :: xs.drop (v + 1)) (k := 0) hl
theorem fixL_keep {xs : List (List Int)} {plan : List Int} {y : Nat → Int} {v : Nat} (h : v < xs.length) (hp : ¬ 0 ≤ gi plan v) : fixL xs plan y (v + 1) = fixL xs plan y v := by
  rw [← fixL_s h, fixAt, if_neg hp, ← fixL_gl h, set_gl (by rw [fixL_len (by omega)]; exact h)]
theorem fixL_at {xs : List (List Int)} {plan : List Int} {y : Nat → Int} {j : Nat} (h : j < xs.length) : gl (fixL xs plan y xs.length) j = fixAt xs plan y j := by
  unfold fixL
  rw [List.drop_length, List.append_nil]
  unfold gl
  rw [List.getD_eq_getElem?_getD, List.getElem?_map, List.getElem?_range h]
  rfl
def fixA (a : Ar) (plan : List Int) : Ar := ⟨a.owner, fixL a.next plan (fun j => gi plan j) a.next.length⟩
set_option maxRecDepth 20000 in
set_option maxHeartbeats 4000000 in
theorem fixedBy_fn (a : Ar) (ha : a.Ln 1048576) (hnl : a.next.length = a.owner.length) (plan : List Int) (hp : plan.length = a.owner.length) : Fn Try.prog tyT 57 [.agg (dAr a), .c (DI plan)] [.agg (dAr (fixA a plan))] := by
  have h0 := ha.owner
  have h1 := ha.next.1
  unfold LnI at h0
  have hC := copyArena_fn a ha
  unfold dAr at hC
  unfold fixA dAr
  refine Fn_ofR (fn := Try.f57) (rs := [.cell 4 30]) tyOk tyPos Try.func57 (by kernel_rfl) rfl rfl (by rw [Try.ntmps57]; exact Nat.le_of_ble_eq_true rfl) rfl (by simp only [szA, List.mem_cons, List.not_mem_nil, or_false, forall_eq_or_imp, forall_eq, VT.cells, szL]; try decide) ?_
  rw [Try.ntmps57]
  simp only [push_cast, ↓brB_true, ↓brB_false, ↓reduceIte, zA, zB, zC, zD, zE, zF, zG, zH, zI, reduceCtorEq]
  refine awp_seq' fun K hK => ?_
  refine awp_region tyOk tyPos [] rfl ?_
  all_goals simp only [push_cast, ↓brB_true, ↓brB_false, ↓reduceIte, zA, zB, zC, zD, zE, zF, zG, zH, zI, reduceCtorEq]
  all_goals repeat' (first | (apply brB_mk <;> (intro hg; (try simp only [push_cast] at hg))) | apply And.intro | (intro hg; (try simp only [push_cast] at hg)))
  all_goals first | exact True.intro | exact rfl | contradiction | omega | with_reducible assumption | (exact getE_dII (by omega)) | (simp only [len_dII]; omega) | skip
  all_goals first | (refine hK _ ?_; clear hK K) | (simp only [push_cast]; done)
  refine awp_seq' fun K hK => ?_
  refine awp_region tyOk tyPos [] rfl ?_
  all_goals refine aops_cut 2 fun K9 hK9 => ?_
  all_goals simp only [push_cast, ↓brB_true, ↓brB_false, ↓reduceIte, zA, zB, zC, zD, zE, zF, zG, zH, zI, reduceCtorEq]
  all_goals repeat' (first | (apply brB_mk <;> (intro hg; (try simp only [push_cast] at hg))) | (refine ⟨_, hC, ?_⟩; simp only [push_cast, ↓brB_true, ↓brB_false, ↓reduceIte, zA, zB, zC, zD, zE, zF, zG, zH, zI, reduceCtorEq]) | apply And.intro | (intro hg; (try simp only [push_cast] at hg)))
  all_goals first | exact True.intro | exact rfl | contradiction | omega | with_reducible assumption | (exact getE_dII (by omega)) | (simp only [len_dII]; omega) | skip
  all_goals first | (refine hK9 _ ?_; clear hK9 K9) | (simp only [push_cast]; done)
  all_goals simp only [push_cast, ↓brB_true, ↓brB_false, ↓reduceIte, zA, zB, zC, zD, zE, zF, zG, zH, zI, reduceCtorEq]
  all_goals repeat' (first | (apply brB_mk <;> (intro hg; (try simp only [push_cast] at hg))) | (refine ⟨_, hC, ?_⟩; simp only [push_cast, ↓brB_true, ↓brB_false, ↓reduceIte, zA, zB, zC, zD, zE, zF, zG, zH, zI, reduceCtorEq]) | apply And.intro | (intro hg; (try simp only [push_cast] at hg)))
  all_goals first | exact True.intro | exact rfl | contradiction | omega | with_reducible assumption | (exact getE_dII (by omega)) | (simp only [len_dII]; omega) | skip
  all_goals first | (refine hK _ ?_; clear hK K) | (simp only [push_cast]; done)
  refine awp_seq' fun K1 hK1 => ?_
  refine awp_seq' fun K hK => ?_
  refine awp_region tyOk tyPos [] rfl ?_
  all_goals simp only [push_cast, ↓brB_true, ↓brB_false, ↓reduceIte, zA, zB, zC, zD, zE, zF, zG, zH, zI, reduceCtorEq]
  all_goals repeat' (first | (apply brB_mk <;> (intro hg; (try simp only [push_cast] at hg))) | apply And.intro | (intro hg; (try simp only [push_cast] at hg)))
  all_goals first | exact True.intro | exact rfl | contradiction | omega | with_reducible assumption | (exact getE_dII (by omega)) | (simp only [len_dII]; omega) | skip
  all_goals first | (refine hK _ ?_; clear hK K) | (simp only [push_cast]; done)
  refine awp_block ?_
  refine awp_loopU [5,6,7,12,13,14,15,16,17,18,19,20,21,22,23,24,25] [] (fun (k : Nat) => [(12, .int .i64 k), (5, .bp 5 0)]) (fun k => [(5, [.sl 80 [] 0 a.owner.length 2, .sl 81 [] 0 a.next.length 27])]) (fun k => [(80, ⟨.ex, 2, dI a.owner, none⟩), (81, ⟨.ex, 27, dII (fixL a.next plan (fun j => gi plan j) k), none⟩)]) (fun k => k ≤ a.owner.length) (fun k => a.owner.length - k) 0 ?_ (by omega) ?_
  ·
    rw [fixL_0]
    refine cov_of rfl ?_ ?_ ?_ <;> simp only [covS, covL, push_cast, ↓brB_true, ↓brB_false, ↓reduceIte, zA, zB, zC, zD, zE, zF, zG, zH, zI, reduceCtorEq]
  · rintro k hk KL0 hL0
    have hfl := fixL_len (xs := a.next) (plan := plan) (y := (fun j => gi plan j)) (v := k) (by omega)
    simp only [push_cast, ↓brB_true, ↓brB_false, ↓reduceIte, zA, zB, zC, zD, zE, zF, zG, zH, zI, reduceCtorEq]
    refine awp_seq' fun K hK => ?_
    refine awp_region tyOk tyPos [] rfl ?_
    all_goals simp only [push_cast, ↓brB_true, ↓brB_false, ↓reduceIte, zA, zB, zC, zD, zE, zF, zG, zH, zI, reduceCtorEq]
    all_goals repeat' (first | (apply brB_mk <;> (intro hg; (try simp only [push_cast] at hg))) | apply And.intro | (intro hg; (try simp only [push_cast] at hg)))
    all_goals first | exact True.intro | exact rfl | contradiction | omega | with_reducible assumption | (exact getE_dII (by omega)) | (simp only [len_dII]; omega) | skip
    all_goals first | (refine hK _ ?_; clear hK K) | (simp only [push_cast]; done)
    refine awp_seq' fun K2 hK2 => ?_
    refine awp_cond rfl (fun hc => ?_) (fun hc => ?_) <;> (try simp only [push_cast] at hc)
    ·
      refine awp_skip ?_
      (try simp only [AThen, ABlk, reduceIte, zF]); refine hK2 _ ?_
      refine awp_seq' fun K3 hK3 => ?_
      refine awp_block ?_
      refine awp_seq' fun K hK => ?_
      refine awp_region tyOk tyPos [] rfl ?_
      all_goals simp only [push_cast, ↓brB_true, ↓brB_false, ↓reduceIte, zA, zB, zC, zD, zE, zF, zG, zH, zI, reduceCtorEq]
      all_goals repeat' (first | (apply brB_mk <;> (intro hg; (try simp only [push_cast] at hg))) | apply And.intro | (intro hg; (try simp only [push_cast] at hg)))
      all_goals first | exact True.intro | exact rfl | contradiction | omega | with_reducible assumption | (exact getE_dII (by omega)) | (simp only [len_dII]; omega) | skip
      all_goals first | (refine hK _ ?_; clear hK K) | (simp only [push_cast]; done)
      refine awp_seq' fun K hK => ?_
      refine awp_region tyOk tyPos [] rfl ?_
      all_goals simp only [push_cast, ↓brB_true, ↓brB_false, ↓reduceIte, zA, zB, zC, zD, zE, zF, zG, zH, zI, reduceCtorEq]
      all_goals repeat' (first | (apply brB_mk <;> (intro hg; (try simp only [push_cast] at hg))) | apply And.intro | (intro hg; (try simp only [push_cast] at hg)))
      all_goals first | exact True.intro | exact rfl | contradiction | omega | with_reducible assumption | (exact getE_dII (by omega)) | (simp only [len_dII]; omega) | skip
      all_goals first | (refine hK _ ?_; clear hK K) | (simp only [push_cast]; done)
      refine awp_cond rfl (fun hc => ?_) (fun hc => ?_) <;> (try simp only [push_cast] at hc)
      ·
        refine awp_regionN true tyOk tyPos ?_ rfl ?_
        · kernel_rfl
        simp only [push_cast, ↓brB_true, ↓brB_false, ↓reduceIte, zA, zB, zC, zD, zE, zF, zG, zH, zI, reduceCtorEq]
        all_goals repeat' (first | (apply brB_mk <;> (intro hg; (try simp only [push_cast] at hg))) | apply And.intro | (intro hg; (try simp only [push_cast] at hg)))
        all_goals first | exact True.intro | exact rfl | contradiction | omega | with_reducible assumption | (exact getE_dII (by omega)) | (simp only [len_dII]; omega) | skip
        (try simp only [AThen, ABlk, reduceIte, zF]); refine hK3 _ ?_
        refine awp_region tyOk tyPos [] rfl ?_
        all_goals simp only [push_cast, ↓brB_true, ↓brB_false, ↓reduceIte, zA, zB, zC, zD, zE, zF, zG, zH, zI, reduceCtorEq]
        all_goals repeat' (first | (apply brB_mk <;> (intro hg; (try simp only [push_cast] at hg))) | apply And.intro | (intro hg; (try simp only [push_cast] at hg)))
        all_goals first | exact True.intro | exact rfl | contradiction | omega | with_reducible assumption | (exact getE_dII (by omega)) | (simp only [len_dII]; omega) | skip
        refine hL0 _ ⟨k + 1, by omega, by omega, ?_⟩
        rw [one_dI, lay1_dII (by omega), fixL_set (y := (fun j => gi plan j)) (by omega) (by omega)]
        refine cov_of rfl ?_ ?_ ?_ <;> simp only [covS, covL, push_cast, ↓brB_true, ↓brB_false, ↓reduceIte, zA, zB, zC, zD, zE, zF, zG, zH, zI, reduceCtorEq]
      ·
        refine awp_skip ?_
        (try simp only [AThen, ABlk, reduceIte, zF]); refine hK3 _ ?_
        refine awp_region tyOk tyPos [] rfl ?_
        all_goals simp only [push_cast, ↓brB_true, ↓brB_false, ↓reduceIte, zA, zB, zC, zD, zE, zF, zG, zH, zI, reduceCtorEq]
        all_goals repeat' (first | (apply brB_mk <;> (intro hg; (try simp only [push_cast] at hg))) | apply And.intro | (intro hg; (try simp only [push_cast] at hg)))
        all_goals first | exact True.intro | exact rfl | contradiction | omega | with_reducible assumption | (exact getE_dII (by omega)) | (simp only [len_dII]; omega) | skip
        refine hL0 _ ⟨k + 1, by omega, by omega, ?_⟩
        rw [fixL_keep (by omega) (by omega)]
        refine cov_of rfl ?_ ?_ ?_ <;> simp only [covS, covL, push_cast, ↓brB_true, ↓brB_false, ↓reduceIte, zA, zB, zC, zD, zE, zF, zG, zH, zI, reduceCtorEq]
    ·
      refine awp_exit ?_
      have hkk : k = a.next.length := by omega
      subst hkk
      (try simp only [AThen, ABlk, reduceIte, zF]); refine hK1 _ ?_
      refine awp_seq' fun K hK => ?_
      refine awp_region tyOk tyPos [] rfl ?_
      all_goals simp only [push_cast, ↓brB_true, ↓brB_false, ↓reduceIte, zA, zB, zC, zD, zE, zF, zG, zH, zI, reduceCtorEq]
      all_goals repeat' (first | (apply brB_mk <;> (intro hg; (try simp only [push_cast] at hg))) | apply And.intro | (intro hg; (try simp only [push_cast] at hg)))
      all_goals first | exact True.intro | exact rfl | contradiction | omega | with_reducible assumption | (exact getE_dII (by omega)) | (simp only [len_dII]; omega) | skip
      all_goals first | (refine hK _ ?_; clear hK K) | (simp only [push_cast]; done)
      refine awp_ret ?_
      (try simp only [AThen, ABlk])
      refine ⟨Or.inl rfl, ?_⟩
      simp only [RetOk, resVars, resVar, push_cast, ↓brB_true, ↓brB_false, ↓reduceIte, zA, zB, zC, zD, zE, zF, zG, zH, zI, reduceCtorEq]
      all_goals first | rfl | (rw [fixL_len (Nat.le_refl _)]) | exact ⟨rfl, by rw [fixL_len (Nat.le_refl _)]⟩
theorem planOk_facts {a : Ar} {who : Int} {plan : List Int} (h : planOkB a who plan = true) : arenaB a = true ∧ (0 ≤ who ∧ who ≤ 1) ∧ planB a who plan = true := by
  unfold planOkB at h
  rw [Bool.and_eq_true, Bool.and_eq_true, decide_eq_true_eq] at h
  exact ⟨h.1, h.2.1, h.2.2⟩
end Go.Proofs.Ytdbecmmeifdafaa
