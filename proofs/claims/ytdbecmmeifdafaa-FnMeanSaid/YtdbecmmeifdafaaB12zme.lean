/- plans: both sides -/
import Derived.Test.YtdbecmmeifdafaaGWzme
import Derived.Test.YtdbecmmeifdafaaB11zme
import Derived.Test.YtdbecmmeifdafaaB7zme
import Derived.Test.YtdbecmmeifdafaaB10zme
namespace Go.Proofs.Ytdbecmmeifdafaa
open Nat renaming reduceMod → zA, reduceMul → zB, reduceDiv → zC, reduceAdd → zD, reduceSub → zE, reduceEqDiff → zF, reduceBEq → zG, reduceLT → zH, reduceLeDiff → zI
open Go.RowKit
set_option linter.unusedVariables false
set_option linter.unusedSimpArgs false

def planAtB (a : Ar) (who : Int) (plan : List Int) (v : Nat) : Bool := decide (gi plan v = -1) || (decide (gi a.owner v = who) && hasB (gl a.next v) (gi plan v))
def planB (a : Ar) (who : Int) (plan : List Int) : Bool := decide (plan.length = a.owner.length) && allB plan.length (planAtB a who plan)
theorem planAtB_ok {a : Ar} {who : Int} {plan : List Int} {v : Nat} (h : gi plan v = -1 ∨ (gi a.owner v = who ∧ hasB (gl a.next v) (gi plan v) = true)) : planAtB a who plan v = true := by
  unfold planAtB
  rw [Bool.or_eq_true, Bool.and_eq_true, decide_eq_true_eq, decide_eq_true_eq]
  exact h
theorem planAtB_no {a : Ar} {who : Int} {plan : List Int} {v : Nat} (h : ¬ gi plan v = -1) (h2 : ¬ gi a.owner v = who ∨ hasB (gl a.next v) (gi plan v) = false) : planAtB a who plan v = false := by
  unfold planAtB
  rw [decide_eq_false h, Bool.false_or, Bool.and_eq_false_iff, decide_eq_false_iff_not]
  exact h2
theorem planB_len {a : Ar} {who : Int} {plan : List Int} (h : ¬ plan.length = a.owner.length) : planB a who plan = false := by unfold planB; rw [decide_eq_false h]; rfl
theorem planB_no {a : Ar} {who : Int} {plan : List Int} {v : Nat} (hv : v < plan.length) (h : planAtB a who plan v = false) : planB a who plan = false := by unfold planB; rw [allB_false hv h, Bool.and_false]
theorem planB_yes {a : Ar} {who : Int} {plan : List Int} (h : plan.length = a.owner.length) (h2 : ∀ v, v < plan.length → planAtB a who plan v = true) : planB a who plan = true := by unfold planB; rw [decide_eq_true h, allB_true h2]; rfl
theorem planB_at {a : Ar} {who : Int} {plan : List Int} (h : planB a who plan = true) : plan.length = a.owner.length ∧ ∀ v, v < plan.length → gi plan v = -1 ∨ (gi a.owner v = who ∧ hasB (gl a.next v) (gi plan v) = true) := by
  unfold planB at h
  rw [Bool.and_eq_true, decide_eq_true_eq] at h
  refine ⟨h.1, fun v hv => ?_⟩
  have := allB_at h.2 hv
  unfold planAtB at this
  rw [Bool.or_eq_true, Bool.and_eq_true, decide_eq_true_eq, decide_eq_true_eq] at this
  exact this
set_option maxRecDepth 20000 in
set_option maxHeartbeats 4000000 in
theorem l5Plan_fn (a : Ar) (ha : a.Ln 1048576) (hnl : a.next.length = a.owner.length) (who : Int) (plan : List Int) (hp : plan.length ≤ 1048576) : Fn Try.prog tyT 65 [.agg (dAr a), .c (.int .i64 who), .c (DI plan)] [.c (.bool (planB a who plan))] := by
  have hr : ∀ v, (gl a.next v).length ≤ 1048576 := fun v => gl_le ha.next v
  have hno := ha.owner
  unfold LnI at hno
  unfold dAr
  refine Fn_of (fn := Try.f65) (ts := [6]) Try.func65 (by kernel_rfl) rfl rfl (by rw [Try.ntmps65]; exact Nat.le_of_ble_eq_true rfl) rfl (by simp only [szA, List.mem_cons, List.not_mem_nil, or_false, forall_eq_or_imp, forall_eq, VT.cells, szL]; try decide) ?_
  rw [Try.ntmps65]
  simp only [push_cast, ↓brB_true, ↓brB_false, ↓reduceIte, zA, zB, zC, zD, zE, zF, zG, zH, zI, reduceCtorEq]
  refine awp_seq' fun K hK => ?_
  refine awp_region tyOk tyPos [] rfl ?_
  all_goals simp only [push_cast, ↓brB_true, ↓brB_false, ↓reduceIte, zA, zB, zC, zD, zE, zF, zG, zH, zI, reduceCtorEq]
  all_goals repeat' (first | (apply brB_mk <;> (intro hg; (try simp only [push_cast] at hg))) | (refine ⟨_, l1Has_fn (gl a.next k) _ (hr k), ?_⟩; simp only [push_cast, ↓brB_true, ↓brB_false, ↓reduceIte, zA, zB, zC, zD, zE, zF, zG, zH, zI, reduceCtorEq]) | apply And.intro | (intro hg; (try simp only [push_cast] at hg)))
  all_goals first | exact gA | (exact getE_dII (by omega)) | skip
  all_goals first | (refine hK _ ?_; clear hK K) | (simp only [push_cast]; done)
  refine awp_seq' fun K1 hK1 => ?_
  refine awp_seq' fun K hK => ?_
  refine awp_region tyOk tyPos [] rfl ?_
  all_goals simp only [push_cast, ↓brB_true, ↓brB_false, ↓reduceIte, zA, zB, zC, zD, zE, zF, zG, zH, zI, reduceCtorEq]
  all_goals repeat' (first | (apply brB_mk <;> (intro hg; (try simp only [push_cast] at hg))) | (refine ⟨_, l1Has_fn (gl a.next k) _ (hr k), ?_⟩; simp only [push_cast, ↓brB_true, ↓brB_false, ↓reduceIte, zA, zB, zC, zD, zE, zF, zG, zH, zI, reduceCtorEq]) | apply And.intro | (intro hg; (try simp only [push_cast] at hg)))
  all_goals first | exact gA | (exact getE_dII (by omega)) | skip
  all_goals first | (refine hK _ ?_; clear hK K) | (simp only [push_cast]; done)
  refine awp_cond rfl (fun hc => ?_) (fun hc => ?_) <;> (try simp only [push_cast] at hc)
  ·
    refine awp_seq' fun K hK => ?_
    refine awp_region tyOk tyPos [] rfl ?_
    all_goals simp only [push_cast, ↓brB_true, ↓brB_false, ↓reduceIte, zA, zB, zC, zD, zE, zF, zG, zH, zI, reduceCtorEq]
    all_goals repeat' (first | (apply brB_mk <;> (intro hg; (try simp only [push_cast] at hg))) | (refine ⟨_, l1Has_fn (gl a.next k) _ (hr k), ?_⟩; simp only [push_cast, ↓brB_true, ↓brB_false, ↓reduceIte, zA, zB, zC, zD, zE, zF, zG, zH, zI, reduceCtorEq]) | apply And.intro | (intro hg; (try simp only [push_cast] at hg)))
    all_goals first | exact gA | (exact getE_dII (by omega)) | skip
    all_goals first | (refine hK _ ?_; clear hK K) | (simp only [push_cast]; done)
    refine awp_ret ?_
    (try simp only [AThen, ABlk])
    refine ⟨Or.inl rfl, ?_⟩
    simp only [RetOk, push_cast, ↓brB_true, ↓brB_false, ↓reduceIte, zA, zB, zC, zD, zE, zF, zG, zH, zI, reduceCtorEq]
    symm
    exact planB_len (by omega)
  ·
    refine awp_skip ?_
    (try simp only [AThen, ABlk, reduceIte, zF]); refine hK1 _ ?_
    refine awp_seq' fun K2 hK2 => ?_
    refine awp_seq' fun K hK => ?_
    refine awp_region tyOk tyPos [] rfl ?_
    all_goals simp only [push_cast, ↓brB_true, ↓brB_false, ↓reduceIte, zA, zB, zC, zD, zE, zF, zG, zH, zI, reduceCtorEq]
    all_goals repeat' (first | (apply brB_mk <;> (intro hg; (try simp only [push_cast] at hg))) | (refine ⟨_, l1Has_fn (gl a.next k) _ (hr k), ?_⟩; simp only [push_cast, ↓brB_true, ↓brB_false, ↓reduceIte, zA, zB, zC, zD, zE, zF, zG, zH, zI, reduceCtorEq]) | apply And.intro | (intro hg; (try simp only [push_cast] at hg)))
    all_goals first | exact gA | (exact getE_dII (by omega)) | skip
    all_goals first | (refine hK _ ?_; clear hK K) | (simp only [push_cast]; done)
    refine awp_block ?_
    refine awp_loopU [6,7,14,15,16,17,18,19,20,21,22,23,24,25,26,27,28,29,30,31,32,33,34,35,36,37,38,39,40,41,42,43,44,45,46] [] (fun (k : Nat) => [(7, .int .i64 k)]) (fun k => []) (fun k => []) (fun k => k ≤ plan.length ∧ ∀ j, j < k → planAtB a who plan j = true) (fun k => plan.length - k) 0 ?_ ⟨by omega, fun j hj => by omega⟩ ?_
    ·
      refine cov_of rfl ?_ ?_ ?_ <;> simp only [covS, covL, push_cast, ↓brB_true, ↓brB_false, ↓reduceIte, zA, zB, zC, zD, zE, zF, zG, zH, zI, reduceCtorEq]
    · rintro k ⟨hk, hall⟩ KL0 hL0
      have hrk := hr k
      simp only [push_cast, ↓brB_true, ↓brB_false, ↓reduceIte, zA, zB, zC, zD, zE, zF, zG, zH, zI, reduceCtorEq]
      refine awp_seq' fun K3 hK3 => ?_
      refine awp_seq' fun K hK => ?_
      refine awp_region tyOk tyPos [] rfl ?_
      all_goals simp only [push_cast, ↓brB_true, ↓brB_false, ↓reduceIte, zA, zB, zC, zD, zE, zF, zG, zH, zI, reduceCtorEq]
      all_goals repeat' (first | (apply brB_mk <;> (intro hg; (try simp only [push_cast] at hg))) | (refine ⟨_, l1Has_fn (gl a.next k) _ (hr k), ?_⟩; simp only [push_cast, ↓brB_true, ↓brB_false, ↓reduceIte, zA, zB, zC, zD, zE, zF, zG, zH, zI, reduceCtorEq]) | apply And.intro | (intro hg; (try simp only [push_cast] at hg)))
      all_goals first | exact gA | (exact getE_dII (by omega)) | skip
      all_goals first | (refine hK _ ?_; clear hK K) | (simp only [push_cast]; done)
      refine awp_cond rfl (fun hc => ?_) (fun hc => ?_) <;> (try simp only [push_cast] at hc)
      ·
        refine awp_skip ?_
        (try simp only [AThen, ABlk, reduceIte, zF]); refine hK3 _ ?_
        refine awp_seq' fun K4 hK4 => ?_
        refine awp_block ?_
        refine awp_seq' fun K hK => ?_
        refine awp_regionD1 false tyOk tyPos tyMix ?_ rfl ?_
        · kernel_rfl
        intro E hE
        all_goals refine lexF_cut 24 (by decide) fun K9 hK9 => ?_
        all_goals simp only [push_cast, ↓brB_true, ↓brB_false, ↓reduceIte, zA, zB, zC, zD, zE, zF, zG, zH, zI, reduceCtorEq]
        all_goals repeat' (first | (apply brB_mk <;> (intro hg; (try simp only [push_cast] at hg))) | (refine ⟨_, l1Has_fn (gl a.next k) _ (hr k), ?_⟩; simp only [push_cast, ↓brB_true, ↓brB_false, ↓reduceIte, zA, zB, zC, zD, zE, zF, zG, zH, zI, reduceCtorEq]) | apply And.intro | (intro hg; (try simp only [push_cast] at hg)))
        all_goals first | exact gA | (exact getE_dII (by omega)) | skip
        all_goals first | (refine hK9 _ _ ?_; clear hK9 K9) | (simp only [push_cast]; done)
        all_goals simp only [push_cast, ↓brB_true, ↓brB_false, ↓reduceIte, zA, zB, zC, zD, zE, zF, zG, zH, zI, reduceCtorEq]
        all_goals repeat' (first | (apply brB_mk <;> (intro hg; (try simp only [push_cast] at hg))) | (refine ⟨_, l1Has_fn (gl a.next k) _ (hr k), ?_⟩; simp only [push_cast, ↓brB_true, ↓brB_false, ↓reduceIte, zA, zB, zC, zD, zE, zF, zG, zH, zI, reduceCtorEq]) | apply And.intro | (intro hg; (try simp only [push_cast] at hg)))
        all_goals first | exact gA | (refine hE _ _ ?_ ?_; kernel_rfl) | (exact getE_dII (by omega)) | skip
        all_goals clear hE E
        all_goals first | (refine hK _ ?_; clear hK K) | (simp only [push_cast]; done)
        all_goals refine awp_cond rfl (fun hc => ?_) (fun hc => ?_)
        all_goals (first | (cases hc; done) | skip)
        all_goals (try simp only [push_cast] at hc)
        all_goals first
          | (
              refine awp_skip ?_
              (try simp only [AThen, ABlk, reduceIte, zF]); refine hK4 _ ?_
              refine awp_region tyOk tyPos [] rfl ?_
              all_goals simp only [push_cast, ↓brB_true, ↓brB_false, ↓reduceIte, zA, zB, zC, zD, zE, zF, zG, zH, zI, reduceCtorEq]
              all_goals repeat' (first | (apply brB_mk <;> (intro hg; (try simp only [push_cast] at hg))) | (refine ⟨_, l1Has_fn (gl a.next k) _ (hr k), ?_⟩; simp only [push_cast, ↓brB_true, ↓brB_false, ↓reduceIte, zA, zB, zC, zD, zE, zF, zG, zH, zI, reduceCtorEq]) | apply And.intro | (intro hg; (try simp only [push_cast] at hg)))
              all_goals first | exact gA | (exact getE_dII (by omega)) | skip
              refine hL0 _ ⟨k + 1, ⟨by omega, fun j hj => (by
                  by_cases hjk : j = k
                  · subst hjk; exact planAtB_ok (by first | exact Or.inl (by omega) | exact Or.inr ⟨by omega, by with_reducible assumption⟩)
                  · exact hall j (by omega))⟩, by omega, ?_⟩
              refine cov_of rfl ?_ ?_ ?_ <;> simp only [covS, covL, push_cast, ↓brB_true, ↓brB_false, ↓reduceIte, zA, zB, zC, zD, zE, zF, zG, zH, zI, reduceCtorEq]
              done)
          | (
              refine awp_seq' fun K hK => ?_
              refine awp_region tyOk tyPos [] rfl ?_
              all_goals simp only [push_cast, ↓brB_true, ↓brB_false, ↓reduceIte, zA, zB, zC, zD, zE, zF, zG, zH, zI, reduceCtorEq]
              all_goals repeat' (first | (apply brB_mk <;> (intro hg; (try simp only [push_cast] at hg))) | (refine ⟨_, l1Has_fn (gl a.next k) _ (hr k), ?_⟩; simp only [push_cast, ↓brB_true, ↓brB_false, ↓reduceIte, zA, zB, zC, zD, zE, zF, zG, zH, zI, reduceCtorEq]) | apply And.intro | (intro hg; (try simp only [push_cast] at hg)))
              all_goals first | exact gA | (exact getE_dII (by omega)) | skip
              all_goals first | (refine hK _ ?_; clear hK K) | (simp only [push_cast]; done)
              refine awp_ret ?_
              (try simp only [AThen, ABlk])
              refine ⟨Or.inl rfl, ?_⟩
              simp only [RetOk, push_cast, ↓brB_true, ↓brB_false, ↓reduceIte, zA, zB, zC, zD, zE, zF, zG, zH, zI, reduceCtorEq]
              symm
              exact planB_no (v := k) (by omega) (planAtB_no (by omega) (by first | exact Or.inl (by omega) | exact Or.inr (by with_reducible assumption)))
              done)
      ·
        refine awp_exit ?_
        (try simp only [AThen, ABlk, reduceIte, zF]); refine hK2 _ ?_
        refine awp_seq' fun K hK => ?_
        refine awp_region tyOk tyPos [] rfl ?_
        all_goals simp only [push_cast, ↓brB_true, ↓brB_false, ↓reduceIte, zA, zB, zC, zD, zE, zF, zG, zH, zI, reduceCtorEq]
        all_goals repeat' (first | (apply brB_mk <;> (intro hg; (try simp only [push_cast] at hg))) | (refine ⟨_, l1Has_fn (gl a.next k) _ (hr k), ?_⟩; simp only [push_cast, ↓brB_true, ↓brB_false, ↓reduceIte, zA, zB, zC, zD, zE, zF, zG, zH, zI, reduceCtorEq]) | apply And.intro | (intro hg; (try simp only [push_cast] at hg)))
        all_goals first | exact gA | (exact getE_dII (by omega)) | skip
        all_goals first | (refine hK _ ?_; clear hK K) | (simp only [push_cast]; done)
        refine awp_ret ?_
        (try simp only [AThen, ABlk])
        refine ⟨Or.inl rfl, ?_⟩
        simp only [RetOk, push_cast, ↓brB_true, ↓brB_false, ↓reduceIte, zA, zB, zC, zD, zE, zF, zG, zH, zI, reduceCtorEq]
        symm
        exact planB_yes (by omega) fun v hv => hall v (by omega)
end Go.Proofs.Ytdbecmmeifdafaa

namespace Go.Proofs.Ytdbecmmeifdafaa
open Nat renaming reduceMod → zA, reduceMul → zB, reduceDiv → zC, reduceAdd → zD, reduceSub → zE, reduceEqDiff → zF, reduceBEq → zG, reduceLT → zH, reduceLeDiff → zI
open Go.RowKit
set_option linter.unusedVariables false
set_option linter.unusedSimpArgs false

def planOkB (a : Ar) (who : Int) (plan : List Int) : Bool := arenaB a && (decide (0 ≤ who ∧ who ≤ 1) && planB a who plan)
theorem planOk_no1 {a : Ar} {who : Int} {plan : List Int} (h : arenaB a = false) : planOkB a who plan = false := by unfold planOkB; rw [h]; rfl
theorem planOk_no2 {a : Ar} {who : Int} {plan : List Int} (h : ¬ (0 ≤ who ∧ who ≤ 1)) : planOkB a who plan = false := by unfold planOkB; rw [decide_eq_false h, Bool.false_and, Bool.and_false]
theorem planOk_eq {a : Ar} {who : Int} {plan : List Int} (h1 : arenaB a = true) (h2 : 0 ≤ who ∧ who ≤ 1) : planOkB a who plan = planB a who plan := by unfold planOkB; rw [h1, decide_eq_true h2]; rfl
set_option maxRecDepth 20000 in
set_option maxHeartbeats 4000000 in
theorem PlanOkS_fn (a : Ar) (ha : a.Ln 1048576) (who : Int) (plan : List Int) (hp : plan.length ≤ 1048576) : Fn Try.prog tyT 20 [.agg (dAr a), .c (.int .i64 who), .c (DI plan)] [.c (.bool (planOkB a who plan))] := by
  have hA := ArenaOkS_fn a ha
  have hI := l1In_fn who 0 1
  have hP := fun h => l5Plan_fn a ha h who plan hp
  have hno := ha.owner
  unfold LnI at hno
  unfold dAr at hA hP ⊢
  refine Fn_of (fn := Try.f20) (ts := [6]) Try.func20 (by kernel_rfl) rfl rfl (by rw [Try.ntmps20]; exact Nat.le_of_ble_eq_true rfl) rfl (by simp only [szA, List.mem_cons, List.not_mem_nil, or_false, forall_eq_or_imp, forall_eq, VT.cells, szL]; try decide) ?_
  rw [Try.ntmps20]
  simp only [push_cast, ↓brB_true, ↓brB_false, ↓reduceIte, zA, zB, zC, zD, zE, zF, zG, zH, zI, reduceCtorEq]
  refine awp_seq' fun K hK => ?_
  refine awp_region tyOk tyPos [] rfl ?_
  simp only [push_cast, ↓brB_true, ↓brB_false, ↓reduceIte, zA, zB, zC, zD, zE, zF, zG, zH, zI, reduceCtorEq]
  repeat' apply And.intro
  all_goals try exact gB
  all_goals first | (refine hK _ ?_; clear hK K) | (simp only [push_cast]; done)
  refine awp_seq' fun K hK => ?_
  refine awp_regionN false tyOk tyPos ?_ rfl ?_
  · kernel_rfl
  all_goals refine seqE_cut 2 fun K9 hK9 => ?_
  all_goals simp only [push_cast, ↓brB_true, ↓brB_false, ↓reduceIte, zA, zB, zC, zD, zE, zF, zG, zH, zI, reduceCtorEq]
  all_goals repeat' (first | (apply brB_mk <;> (intro hg; (try simp only [push_cast] at hg))) | (refine ⟨_, hA, ?_⟩; simp only [push_cast, ↓brB_true, ↓brB_false, ↓reduceIte, zA, zB, zC, zD, zE, zF, zG, zH, zI, reduceCtorEq]) | (refine ⟨_, hI, ?_⟩; simp only [push_cast, ↓brB_true, ↓brB_false, ↓reduceIte, zA, zB, zC, zD, zE, zF, zG, zH, zI, reduceCtorEq]) | (refine ⟨_, hP (arenaB_len (by with_reducible assumption)).2.2, ?_⟩; simp only [push_cast, ↓brB_true, ↓brB_false, ↓reduceIte, zA, zB, zC, zD, zE, zF, zG, zH, zI, reduceCtorEq]) | apply And.intro | (intro hg; (try simp only [push_cast] at hg)))
  all_goals try exact gA
  all_goals first | (refine hK9 _ ?_; clear hK9 K9) | (simp only [push_cast]; done)
  all_goals refine seqE_cut 3 fun K9 hK9 => ?_
  all_goals simp only [push_cast, ↓brB_true, ↓brB_false, ↓reduceIte, zA, zB, zC, zD, zE, zF, zG, zH, zI, reduceCtorEq]
  all_goals repeat' (first | (apply brB_mk <;> (intro hg; (try simp only [push_cast] at hg))) | (refine ⟨_, hA, ?_⟩; simp only [push_cast, ↓brB_true, ↓brB_false, ↓reduceIte, zA, zB, zC, zD, zE, zF, zG, zH, zI, reduceCtorEq]) | (refine ⟨_, hI, ?_⟩; simp only [push_cast, ↓brB_true, ↓brB_false, ↓reduceIte, zA, zB, zC, zD, zE, zF, zG, zH, zI, reduceCtorEq]) | (refine ⟨_, hP (arenaB_len (by with_reducible assumption)).2.2, ?_⟩; simp only [push_cast, ↓brB_true, ↓brB_false, ↓reduceIte, zA, zB, zC, zD, zE, zF, zG, zH, zI, reduceCtorEq]) | apply And.intro | (intro hg; (try simp only [push_cast] at hg)))
  all_goals try exact gA
  all_goals first | (refine hK9 _ ?_; clear hK9 K9) | (simp only [push_cast]; done)
  all_goals refine seqE_cut 6 fun K9 hK9 => ?_
  all_goals simp only [push_cast, ↓brB_true, ↓brB_false, ↓reduceIte, zA, zB, zC, zD, zE, zF, zG, zH, zI, reduceCtorEq]
  all_goals repeat' (first | (apply brB_mk <;> (intro hg; (try simp only [push_cast] at hg))) | (refine ⟨_, hA, ?_⟩; simp only [push_cast, ↓brB_true, ↓brB_false, ↓reduceIte, zA, zB, zC, zD, zE, zF, zG, zH, zI, reduceCtorEq]) | (refine ⟨_, hI, ?_⟩; simp only [push_cast, ↓brB_true, ↓brB_false, ↓reduceIte, zA, zB, zC, zD, zE, zF, zG, zH, zI, reduceCtorEq]) | (refine ⟨_, hP (arenaB_len (by with_reducible assumption)).2.2, ?_⟩; simp only [push_cast, ↓brB_true, ↓brB_false, ↓reduceIte, zA, zB, zC, zD, zE, zF, zG, zH, zI, reduceCtorEq]) | apply And.intro | (intro hg; (try simp only [push_cast] at hg)))
  all_goals try exact gA
  all_goals first | (refine hK9 _ ?_; clear hK9 K9) | (simp only [push_cast]; done)
  all_goals simp only [push_cast, ↓brB_true, ↓brB_false, ↓reduceIte, zA, zB, zC, zD, zE, zF, zG, zH, zI, reduceCtorEq]
  all_goals repeat' (first | (apply brB_mk <;> (intro hg; (try simp only [push_cast] at hg))) | (refine ⟨_, hA, ?_⟩; simp only [push_cast, ↓brB_true, ↓brB_false, ↓reduceIte, zA, zB, zC, zD, zE, zF, zG, zH, zI, reduceCtorEq]) | (refine ⟨_, hI, ?_⟩; simp only [push_cast, ↓brB_true, ↓brB_false, ↓reduceIte, zA, zB, zC, zD, zE, zF, zG, zH, zI, reduceCtorEq]) | (refine ⟨_, hP (arenaB_len (by with_reducible assumption)).2.2, ?_⟩; simp only [push_cast, ↓brB_true, ↓brB_false, ↓reduceIte, zA, zB, zC, zD, zE, zF, zG, zH, zI, reduceCtorEq]) | apply And.intro | (intro hg; (try simp only [push_cast] at hg)))
  all_goals try exact gA
  all_goals first | (refine hK _ ?_; clear hK K) | (simp only [push_cast]; done)
  all_goals (
      refine awp_ret ?_
      (try simp only [AThen, ABlk])
      refine ⟨Or.inl rfl, ?_⟩
      simp only [RetOk, push_cast, ↓brB_true, ↓brB_false, ↓reduceIte, zA, zB, zC, zD, zE, zF, zG, zH, zI, reduceCtorEq]
      first | exact (planOk_no1 (by with_reducible assumption)).symm | exact (planOk_no2 (by omega)).symm | exact (planOk_eq (by with_reducible assumption) (by omega)).symm)
end Go.Proofs.Ytdbecmmeifdafaa

namespace Go.Proofs.Ytdbecmmeifdafaa
open Go.RowKit
set_option linter.unusedVariables false
set_option linter.unusedSimpArgs false

theorem planOk_facts {a : Ar} {who : Int} {plan : List Int} (h : planOkB a who plan = true) : arenaB a = true ∧ (0 ≤ who ∧ who ≤ 1) ∧ planB a who plan = true := by
  unfold planOkB at h
  rw [Bool.and_eq_true, Bool.and_eq_true, decide_eq_true_eq] at h
  exact ⟨h.1, h.2.1, h.2.2⟩
end Go.Proofs.Ytdbecmmeifdafaa

namespace Go.Proofs.Ytdbecmmeifdafaa
open Go.RowKit
set_option linter.unusedVariables false
set_option linter.unusedSimpArgs false

theorem set_lt {xs : List Int} {n : Int} (h : isSetB xs n = true) : ∀ k, k < xs.length → ∀ j, j < k → gi xs j < gi xs k := by
  intro k
  induction k with
  | zero => intro _ j hj; omega
  | succ k ih =>
    intro hk j hj
    have h1 := allB_at h hk
    unfold riseAt at h1
    have h2 := (of_decide_eq_true h1).2.2
    have h3 : gi xs k < gi xs (k + 1) := by
      rcases h2 with h2 | h2
      · omega
      · exact h2
    by_cases e : j = k
    · subst e; exact h3
    · have := ih (by omega) j (by omega); omega
theorem stepC_at {w : Wt} (hw : weightedB w = true) {v k : Nat} (hv : v < w.a.owner.length) (hk : k < (gl w.a.next v).length) : stepC w v (gi (gl w.a.next v) k) = gi (gl w.cost v) k := by
  obtain ⟨hok, hn1, hn2, hn3, hn4, hrow⟩ := weighted_facts hw
  have hs := (arenaB_at hok hv).2.2.2.2
  have hf : fidx (gl w.a.next v) (gi (gl w.a.next v) k) = k := fidx_at hk (fun j hj e => by have := set_lt hs k hk j hj; omega) rfl
  have hh : hasB (gl w.a.next v) (gi (gl w.a.next v) k) = true := by unfold hasB; rw [hf]; exact decide_eq_true hk
  unfold stepC
  rw [Int.toNat_natCast, if_pos hh]
  unfold stepCost
  rw [hf]
theorem gi_map' {c : List Int} {f : Int → Int} {v : Nat} (h : v < c.length) : gi (c.map f) v = f (gi c v) := by
  unfold gi
  rw [List.getD_eq_getElem?_getD, List.getElem?_map, List.getD_eq_getElem?_getD, List.getElem?_eq_getElem h]
  rfl
theorem gi_ext' {a b : List Int} (hl : a.length = b.length) (h : ∀ v, v < a.length → gi a v = gi b v) : a = b := by
  refine List.ext_getElem? fun i => ?_
  by_cases hi : i < a.length
  · rw [gi_lt hi, gi_lt (by omega), h i hi]
  · rw [List.getElem?_eq_none (by omega), List.getElem?_eq_none (by omega)]
end Go.Proofs.Ytdbecmmeifdafaa

namespace Go.Proofs.Ytdbecmmeifdafaa
open Go.RowKit
set_option linter.unusedVariables false
set_option linter.unusedSimpArgs false

end Go.Proofs.Ytdbecmmeifdafaa

namespace Go.Proofs.Ytdbecmmeifdafaa
open Nat renaming reduceMod → zA, reduceMul → zB, reduceDiv → zC, reduceAdd → zD, reduceSub → zE, reduceEqDiff → zF, reduceBEq → zG, reduceLT → zH, reduceLeDiff → zI
open Go.RowKit
set_option linter.unusedVariables false
set_option linter.unusedSimpArgs false

def pf (w : Wt) (s : List Int) (v : Nat) : Nat → Nat → Int
  | _, 0 => -1
  | j, m + 1 => if 0 ≤ gi s (gi (gl w.a.next v) j).toNat ∧ gi s (gi (gl w.a.next v) j).toNat - gi (gl w.cost v) j ≤ gi s v then gi (gl w.a.next v) j else pf w s v (j + 1) m
theorem pf_step {w : Wt} {s : List Int} {v j d : Nat} (h : j < d) : pf w s v j (d - j) = if 0 ≤ gi s (gi (gl w.a.next v) j).toNat ∧ gi s (gi (gl w.a.next v) j).toNat - gi (gl w.cost v) j ≤ gi s v then gi (gl w.a.next v) j else pf w s v (j + 1) (d - (j + 1)) := by
  rw [show d - j = (d - (j + 1)) + 1 from by omega]
  rfl
def planAt (w : Wt) (s : List Int) (v : Nat) : Int := if gi w.a.owner v = 0 ∧ 0 ≤ gi s v then pf w s v 0 (gl w.a.next v).length else -1
theorem planAt_no {w : Wt} {s : List Int} {v : Nat} (h : ¬ (gi w.a.owner v = 0 ∧ 0 ≤ gi s v)) : planAt w s v = -1 := if_neg h
theorem planAt_yes {w : Wt} {s : List Int} {v : Nat} (h : gi w.a.owner v = 0 ∧ 0 ≤ gi s v) : planAt w s v = pf w s v 0 (gl w.a.next v).length := if_pos h
def planN (w : Wt) (s : List Int) (k : Nat) : List Int := (List.range k).map (planAt w s)
theorem planN_len (w : Wt) (s : List Int) (k : Nat) : (planN w s k).length = k := by simp [planN]
theorem planN_s (w : Wt) (s : List Int) (k : Nat) : planN w s (k + 1) = planN w s k ++ [planAt w s k] := by simp [planN, List.range_succ]
def planO (w : Wt) (s : List Int) (n k : Nat) : List Int := planN w s k ++ List.replicate (n - k) (-1)
theorem planO_len {w : Wt} {s : List Int} {n k : Nat} (h : k ≤ n) : (planO w s n k).length = n := by unfold planO; rw [List.length_append, planN_len, List.length_replicate]; omega
theorem planO_0 (w : Wt) (s : List Int) (n : Nat) : planO w s n 0 = List.replicate n (-1) := by simp [planO, planN]
theorem planO_n (w : Wt) (s : List Int) (n : Nat) : planO w s n n = planN w s n := by simp [planO]
theorem planO_set {w : Wt} {s : List Int} {n k : Nat} (h : k < n) : (planO w s n k).set k (planAt w s k) = planO w s n (k + 1) := by
  unfold planO
  rw [List.set_append_right _ _ (by rw [planN_len]; exact Nat.le_refl _), planN_len, Nat.sub_self, show n - k = (n - (k + 1)) + 1 from by omega, List.replicate_succ, List.set_cons_zero, planN_s, List.append_assoc]
  rfl
theorem planO_keep {w : Wt} {s : List Int} {n k : Nat} (h : k < n) (h2 : planAt w s k = -1) : planO w s n (k + 1) = planO w s n k := by
  unfold planO
  rw [show n - k = (n - (k + 1)) + 1 from by omega, List.replicate_succ, planN_s, h2, List.append_assoc]
  rfl
theorem decB_rg {b : Int} (hb : 0 ≤ b) {x : Int} (h : 0 ≤ x ∧ x ≤ b + 1) : -1 ≤ decB b x ∧ decB b x ≤ b := by unfold decB; omega
theorem Int_acs (a : Int) : a + 1 - 1 = a := by omega
attribute [push_cast] Int_acs
set_option maxRecDepth 20000 in
set_option maxHeartbeats 4000000 in
theorem noPlan_fn (a : Ar) (ha : a.Ln 1048576) : Fn Try.prog tyT 74 [.agg (dAr a)] [.c (DI (List.replicate a.owner.length (-1)))] := by
  have h0 := ha.owner
  unfold LnI at h0
  have hrl : (List.replicate a.owner.length (0 : Int)).length = a.owner.length := List.length_replicate ..
  unfold dAr
  refine Fn_of (fn := Try.f74) (ts := [2]) Try.func74 (by kernel_rfl) rfl rfl (by rw [Try.ntmps74]; exact Nat.le_of_ble_eq_true rfl) rfl (by simp only [szA, List.mem_cons, List.not_mem_nil, or_false, forall_eq_or_imp, forall_eq, VT.cells, szL]; try decide) ?_
  rw [Try.ntmps74]
  simp only [push_cast, ↓brB_true, ↓brB_false, ↓reduceIte, zA, zB, zC, zD, zE, zF, zG, zH, zI, reduceCtorEq]
  refine awp_seq' fun K hK => ?_
  refine awp_region tyOk tyPos [] rfl ?_
  simp only [push_cast, ↓brB_true, ↓brB_false, ↓reduceIte, zA, zB, zC, zD, zE, zF, zG, zH, zI, reduceCtorEq]
  repeat' apply And.intro
  all_goals try exact gB
  all_goals first | (refine hK _ ?_; clear hK K) | (simp only [push_cast]; done)
  refine awp_seq' fun K hK => ?_
  refine awp_region tyOk tyPos [] rfl ?_
  simp only [push_cast, ↓brB_true, ↓brB_false, ↓reduceIte, zA, zB, zC, zD, zE, zF, zG, zH, zI, reduceCtorEq]
  repeat' apply And.intro
  all_goals try exact gB
  all_goals first | (refine hK _ ?_; clear hK K) | (simp only [push_cast]; done)
  refine awp_seq' fun K1 hK1 => ?_
  refine awp_seq' fun K hK => ?_
  refine awp_region tyOk tyPos [] rfl ?_
  simp only [push_cast, ↓brB_true, ↓brB_false, ↓reduceIte, zA, zB, zC, zD, zE, zF, zG, zH, zI, reduceCtorEq]
  repeat' apply And.intro
  all_goals try exact gB
  all_goals first | (refine hK _ ?_; clear hK K) | (simp only [push_cast]; done)
  refine awp_block ?_
  refine awp_loopU [4,11,12,13,14,15,16,17] [48] (fun (k : Nat) => [(11, .int .i64 k)]) (fun k => []) (fun k => [(48, ⟨.ex, 2, dI (mapI (fun _ => -1) (List.replicate a.owner.length 0) k), none⟩)]) (fun k => k ≤ a.owner.length) (fun k => a.owner.length - k) 0 ?_ (by omega) ?_
  ·
    rw [mapI_0]
    refine cov_of rfl ?_ ?_ ?_ <;> simp only [covS, covL, push_cast, ↓brB_true, ↓brB_false, ↓reduceIte, zA, zB, zC, zD, zE, zF, zG, zH, zI, reduceCtorEq]
  · rintro k hk KL0 hL0
    have hml := mapI_len (g := fun _ => -1) (r := List.replicate a.owner.length 0) (k := k) (by omega)
    simp only [push_cast, ↓brB_true, ↓brB_false, ↓reduceIte, zA, zB, zC, zD, zE, zF, zG, zH, zI, reduceCtorEq]
    refine awp_seq' fun K hK => ?_
    refine awp_region tyOk tyPos [] rfl ?_
    simp only [push_cast, ↓brB_true, ↓brB_false, ↓reduceIte, zA, zB, zC, zD, zE, zF, zG, zH, zI, reduceCtorEq]
    repeat' apply And.intro
    all_goals try exact gB
    all_goals first | (refine hK _ ?_; clear hK K) | (simp only [push_cast]; done)
    refine awp_seq' fun K2 hK2 => ?_
    refine awp_cond rfl (fun hc => ?_) (fun hc => ?_) <;> (try simp only [push_cast] at hc)
    ·
      refine awp_skip ?_
      (try simp only [AThen, ABlk, reduceIte, zF]); refine hK2 _ ?_
      refine awp_seq' fun K3 hK3 => ?_
      refine awp_block ?_
      refine awp_seq' fun K hK => ?_
      refine awp_region tyOk tyPos [] rfl ?_
      simp only [push_cast, ↓brB_true, ↓brB_false, ↓reduceIte, zA, zB, zC, zD, zE, zF, zG, zH, zI, reduceCtorEq]
      repeat' apply And.intro
      all_goals try exact gB
      all_goals first | (refine hK _ ?_; clear hK K) | (simp only [push_cast]; done)
      refine awp_region tyOk tyPos [] rfl ?_
      simp only [push_cast, ↓brB_true, ↓brB_false, ↓reduceIte, zA, zB, zC, zD, zE, zF, zG, zH, zI, reduceCtorEq]
      repeat' apply And.intro
      all_goals try exact gB
      (try simp only [AThen, ABlk, reduceIte, zF]); refine hK3 _ ?_
      refine awp_region tyOk tyPos [] rfl ?_
      simp only [push_cast, ↓brB_true, ↓brB_false, ↓reduceIte, zA, zB, zC, zD, zE, zF, zG, zH, zI, reduceCtorEq]
      repeat' apply And.intro
      all_goals try exact gB
      rw [mapI_set (g := fun _ => -1) (by omega)]
      refine hL0 _ ⟨k + 1, by omega, by omega, ?_⟩
      refine cov_of rfl ?_ ?_ ?_ <;> simp only [covS, covL, push_cast, ↓brB_true, ↓brB_false, ↓reduceIte, zA, zB, zC, zD, zE, zF, zG, zH, zI, reduceCtorEq]
    ·
      refine awp_exit ?_
      have hkk : k = (List.replicate a.owner.length (0 : Int)).length := by omega
      subst hkk
      rw [mapI_all, List.map_replicate]
      (try simp only [AThen, ABlk, reduceIte, zF]); refine hK1 _ ?_
      refine awp_seq' fun K hK => ?_
      refine awp_region tyOk tyPos [] rfl ?_
      simp only [push_cast, ↓brB_true, ↓brB_false, ↓reduceIte, zA, zB, zC, zD, zE, zF, zG, zH, zI, reduceCtorEq]
      repeat' apply And.intro
      all_goals try exact gB
      all_goals first | (refine hK _ ?_; clear hK K) | (simp only [push_cast]; done)
      refine awp_ret ?_
      (try simp only [AThen, ABlk])
      refine ⟨Or.inl rfl, ?_⟩
      simp only [RetOk, push_cast, ↓brB_true, ↓brB_false, ↓reduceIte, zA, zB, zC, zD, zE, zF, zG, zH, zI, reduceCtorEq]
      all_goals first | rfl | (simp; done)
set_option maxRecDepth 20000 in
set_option maxHeartbeats 4000000 in
theorem creditPlanI_fn (w : Wt) (ha : w.Ln 1048576) (hw : WSh w) (b : Int) (hbw : boundW w = b) (c : List Int) (hL : Least w b c) : Fn Try.prog tyT 60 [.agg (dWt w)] [.c (DI (planN w (c.map (decB b)) w.a.owner.length))] := by
  have hr : ∀ v, (gl w.a.next v).length ≤ 1048576 := fun v => gl_le ha.a.next v
  have hcr : ∀ v, (gl w.cost v).length ≤ 1048576 := fun v => gl_le ha.cost v
  have hcl := hw.cl
  have hnl := hw.nl
  have hn1 := hw.n1
  have hn2 := hw.n2
  have h0 := ha.a.owner
  unfold LnI at h0
  have hb := hw.bound
  rw [hbw] at hb
  have hC := creditOfI_fn w ha hw b hbw c hL
  have hN := noPlan_fn w.a ha.a
  have hcl2 := hL.len
  have hrl2 : (List.replicate w.a.owner.length (-1 : Int)).length = w.a.owner.length := List.length_replicate ..
  have hsb : ∀ u, u < w.a.owner.length → -1 ≤ gi (c.map (decB b)) u ∧ gi (c.map (decB b)) u ≤ 460001 := fun u hu => by rw [gi_map (by omega)]; have := decB_rg hb.1 (hL.rg u hu); omega
  have hs : (c.map (decB b)).length = w.a.owner.length := by rw [List.length_map]; exact hcl2
  generalize c.map (decB b) = s at hC hs hsb ⊢
  unfold dAr at hN
  unfold dWt at hC ⊢
  refine Fn_of (fn := Try.f60) (ts := [2]) Try.func60 (by kernel_rfl) rfl rfl (by rw [Try.ntmps60]; exact Nat.le_of_ble_eq_true rfl) rfl (by simp only [szA, List.mem_cons, List.not_mem_nil, or_false, forall_eq_or_imp, forall_eq, VT.cells, szL]; try decide) ?_
  rw [Try.ntmps60]
  simp only [push_cast, ↓brB_true, ↓brB_false, ↓reduceIte, zA, zB, zC, zD, zE, zF, zG, zH, zI, reduceCtorEq]
  refine awp_seq' fun K hK => ?_
  refine awp_region tyOk tyPos [] rfl ?_
  all_goals simp only [push_cast, ↓brB_true, ↓brB_false, ↓reduceIte, zA, zB, zC, zD, zE, zF, zG, zH, zI, reduceCtorEq]
  all_goals repeat' (first | (apply brB_mk <;> (intro hg; (try simp only [push_cast] at hg))) | apply And.intro | (intro hg; (try simp only [push_cast] at hg)))
  all_goals first | exact gA | (exact getE_dII (by omega)) | skip
  all_goals first | (refine hK _ ?_; clear hK K) | (simp only [push_cast]; done)
  refine awp_seq' fun K hK => ?_
  refine awp_region tyOk tyPos [] rfl ?_
  all_goals refine aops_cut 2 fun K9 hK9 => ?_
  all_goals simp only [push_cast, ↓brB_true, ↓brB_false, ↓reduceIte, zA, zB, zC, zD, zE, zF, zG, zH, zI, reduceCtorEq]
  all_goals repeat' (first | (apply brB_mk <;> (intro hg; (try simp only [push_cast] at hg))) | (refine ⟨_, hC, ?_⟩; simp only [push_cast, ↓brB_true, ↓brB_false, ↓reduceIte, zA, zB, zC, zD, zE, zF, zG, zH, zI, reduceCtorEq]) | apply And.intro | (intro hg; (try simp only [push_cast] at hg)))
  all_goals first | exact gA | (exact getE_dII (by omega)) | skip
  all_goals first | (refine hK9 _ ?_; clear hK9 K9) | (simp only [push_cast]; done)
  all_goals simp only [push_cast, ↓brB_true, ↓brB_false, ↓reduceIte, zA, zB, zC, zD, zE, zF, zG, zH, zI, reduceCtorEq]
  all_goals repeat' (first | (apply brB_mk <;> (intro hg; (try simp only [push_cast] at hg))) | (refine ⟨_, hC, ?_⟩; simp only [push_cast, ↓brB_true, ↓brB_false, ↓reduceIte, zA, zB, zC, zD, zE, zF, zG, zH, zI, reduceCtorEq]) | apply And.intro | (intro hg; (try simp only [push_cast] at hg)))
  all_goals first | exact gA | (exact getE_dII (by omega)) | skip
  all_goals first | (refine hK _ ?_; clear hK K) | (simp only [push_cast]; done)
  refine awp_seq' fun K hK => ?_
  refine awp_region tyOk tyPos [] rfl ?_
  all_goals refine aops_cut 3 fun K9 hK9 => ?_
  all_goals simp only [push_cast, ↓brB_true, ↓brB_false, ↓reduceIte, zA, zB, zC, zD, zE, zF, zG, zH, zI, reduceCtorEq]
  all_goals repeat' (first | (apply brB_mk <;> (intro hg; (try simp only [push_cast] at hg))) | (refine ⟨_, hN, ?_⟩; simp only [push_cast, ↓brB_true, ↓brB_false, ↓reduceIte, zA, zB, zC, zD, zE, zF, zG, zH, zI, reduceCtorEq]) | apply And.intro | (intro hg; (try simp only [push_cast] at hg)))
  all_goals first | exact gA | (exact getE_dII (by omega)) | skip
  all_goals first | (refine hK9 _ ?_; clear hK9 K9) | (simp only [push_cast]; done)
  all_goals simp only [push_cast, ↓brB_true, ↓brB_false, ↓reduceIte, zA, zB, zC, zD, zE, zF, zG, zH, zI, reduceCtorEq]
  all_goals repeat' (first | (apply brB_mk <;> (intro hg; (try simp only [push_cast] at hg))) | (refine ⟨_, hN, ?_⟩; simp only [push_cast, ↓brB_true, ↓brB_false, ↓reduceIte, zA, zB, zC, zD, zE, zF, zG, zH, zI, reduceCtorEq]) | apply And.intro | (intro hg; (try simp only [push_cast] at hg)))
  all_goals first | exact gA | (exact getE_dII (by omega)) | skip
  all_goals first | (refine hK _ ?_; clear hK K) | (simp only [push_cast]; done)
  refine awp_seq' fun K1 hK1 => ?_
  refine awp_seq' fun K hK => ?_
  refine awp_region tyOk tyPos [] rfl ?_
  all_goals simp only [push_cast, ↓brB_true, ↓brB_false, ↓reduceIte, zA, zB, zC, zD, zE, zF, zG, zH, zI, reduceCtorEq]
  all_goals repeat' (first | (apply brB_mk <;> (intro hg; (try simp only [push_cast] at hg))) | apply And.intro | (intro hg; (try simp only [push_cast] at hg)))
  all_goals first | exact gA | (exact getE_dII (by omega)) | skip
  all_goals first | (refine hK _ ?_; clear hK K) | (simp only [push_cast]; done)
  refine awp_block ?_
  refine awp_loopU [5,6,7,8,18,19,20,21,22,23,24,25,26,27,28,29,30,31,32,33,34,35,36,37,38,39,40,41,42,43,44,45,46,47,48,49,50,51,52,53,54,55,56,57,58,59,60,61,62,63,64,65,66,67,68,69,70,71,72,73,74] [64] (fun (v : Nat) => [(18, .int .i64 v)]) (fun v => []) (fun v => [(64, ⟨.ex, 2, dI (planO w s w.a.owner.length v), none⟩)]) (fun v => v ≤ w.a.owner.length) (fun v => w.a.owner.length - v) 0 ?_ (by omega) ?_
  ·
    rw [planO_0]
    refine cov_of rfl ?_ ?_ ?_ <;> simp only [covS, covL, push_cast, ↓brB_true, ↓brB_false, ↓reduceIte, zA, zB, zC, zD, zE, zF, zG, zH, zI, reduceCtorEq]
  · rintro v hv KL0 hL0
    have hpl := planO_len (w := w) (s := s) hv
    simp only [push_cast, ↓brB_true, ↓brB_false, ↓reduceIte, zA, zB, zC, zD, zE, zF, zG, zH, zI, reduceCtorEq]
    refine awp_seq' fun K hK => ?_
    refine awp_region tyOk tyPos [] rfl ?_
    all_goals simp only [push_cast, ↓brB_true, ↓brB_false, ↓reduceIte, zA, zB, zC, zD, zE, zF, zG, zH, zI, reduceCtorEq]
    all_goals repeat' (first | (apply brB_mk <;> (intro hg; (try simp only [push_cast] at hg))) | apply And.intro | (intro hg; (try simp only [push_cast] at hg)))
    all_goals first | exact gA | (exact getE_dII (by omega)) | skip
    all_goals first | (refine hK _ ?_; clear hK K) | (simp only [push_cast]; done)
    refine awp_seq' fun K2 hK2 => ?_
    refine awp_cond rfl (fun hc => ?_) (fun hc => ?_) <;> (try simp only [push_cast] at hc)
    ·
      refine awp_skip ?_
      (try simp only [AThen, ABlk, reduceIte, zF]); refine hK2 _ ?_
      refine awp_seq' fun K3 hK3 => ?_
      refine awp_block ?_
      obtain ⟨hr1, hr2, hr3⟩ := hw.row v (by omega)
      have hsv := hsb v (by omega)
      have hrv := hr v
      have hcv := hcr v
      refine awp_seq' fun K hK => ?_
      refine awp_region tyOk tyPos [] rfl ?_
      all_goals simp only [push_cast, ↓brB_true, ↓brB_false, ↓reduceIte, zA, zB, zC, zD, zE, zF, zG, zH, zI, reduceCtorEq]
      all_goals repeat' (first | (apply brB_mk <;> (intro hg; (try simp only [push_cast] at hg))) | apply And.intro | (intro hg; (try simp only [push_cast] at hg)))
      all_goals first | exact gA | (exact getE_dII (by omega)) | skip
      all_goals first | (refine hK _ ?_; clear hK K) | (simp only [push_cast]; done)
      refine awp_seq' fun K4 hK4 => ?_
      refine awp_seq' fun K hK => ?_
      refine awp_regionN false tyOk tyPos ?_ rfl ?_
      · kernel_rfl
      all_goals simp only [push_cast, ↓brB_true, ↓brB_false, ↓reduceIte, zA, zB, zC, zD, zE, zF, zG, zH, zI, reduceCtorEq]
      all_goals repeat' (first | (apply brB_mk <;> (intro hg; (try simp only [push_cast] at hg))) | apply And.intro | (intro hg; (try simp only [push_cast] at hg)))
      all_goals first | exact gA | (exact getE_dII (by omega)) | skip
      all_goals first | (refine hK _ ?_; clear hK K) | (simp only [push_cast]; done)
      all_goals refine awp_cond rfl (fun hc => ?_) (fun hc => ?_)
      all_goals (first | (cases hc; done) | skip)
      all_goals (try simp only [push_cast] at hc)
      all_goals try (
          refine awp_exit ?_
          (try simp only [AThen, ABlk, reduceIte, zF]); refine hK3 _ ?_
          refine awp_region tyOk tyPos [] rfl ?_
          all_goals simp only [push_cast, ↓brB_true, ↓brB_false, ↓reduceIte, zA, zB, zC, zD, zE, zF, zG, zH, zI, reduceCtorEq]
          all_goals repeat' (first | (apply brB_mk <;> (intro hg; (try simp only [push_cast] at hg))) | apply And.intro | (intro hg; (try simp only [push_cast] at hg)))
          all_goals first | exact gA | (exact getE_dII (by omega)) | skip
          refine hL0 _ ⟨v + 1, by omega, by omega, ?_⟩
          rw [planO_keep (by omega) (planAt_no (by omega))]
          refine cov_of rfl ?_ ?_ ?_ <;> simp only [covS, covL, push_cast, ↓brB_true, ↓brB_false, ↓reduceIte, zA, zB, zC, zD, zE, zF, zG, zH, zI, reduceCtorEq]
          done)
      refine awp_skip ?_
      (try simp only [AThen, ABlk, reduceIte, zF]); refine hK4 _ ?_
      refine awp_seq' fun K hK => ?_
      refine awp_region tyOk tyPos [] rfl ?_
      all_goals simp only [push_cast, ↓brB_true, ↓brB_false, ↓reduceIte, zA, zB, zC, zD, zE, zF, zG, zH, zI, reduceCtorEq]
      all_goals repeat' (first | (apply brB_mk <;> (intro hg; (try simp only [push_cast] at hg))) | apply And.intro | (intro hg; (try simp only [push_cast] at hg)))
      all_goals first | exact gA | (exact getE_dII (by omega)) | skip
      all_goals first | (refine hK _ ?_; clear hK K) | (simp only [push_cast]; done)
      refine awp_block ?_
      refine awp_loopU [7,8,30,39,40,41,42,43,44,45,46,47,48,49,50,51,52,53,54,55,56,57,58,59,60,61,62,63,64,65,66,67,68,69,70,71,72,73] [] (fun (k : Nat) => [(39, .int .i64 k)]) (fun k => []) (fun k => []) (fun k => k ≤ (gl w.a.next v).length ∧ pf w s v 0 (gl w.a.next v).length = pf w s v k ((gl w.a.next v).length - k)) (fun k => (gl w.a.next v).length - k) 0 ?_ ⟨by omega, by rw [Nat.sub_zero]⟩ ?_
      ·
        refine cov_of rfl ?_ ?_ ?_ <;> simp only [covS, covL, push_cast, ↓brB_true, ↓brB_false, ↓reduceIte, zA, zB, zC, zD, zE, zF, zG, zH, zI, reduceCtorEq]
      · rintro k ⟨hk, hpk⟩ KL1 hL1
        simp only [push_cast, ↓brB_true, ↓brB_false, ↓reduceIte, zA, zB, zC, zD, zE, zF, zG, zH, zI, reduceCtorEq]
        refine awp_seq' fun K hK => ?_
        refine awp_region tyOk tyPos [] rfl ?_
        all_goals simp only [push_cast, ↓brB_true, ↓brB_false, ↓reduceIte, zA, zB, zC, zD, zE, zF, zG, zH, zI, reduceCtorEq]
        all_goals repeat' (first | (apply brB_mk <;> (intro hg; (try simp only [push_cast] at hg))) | apply And.intro | (intro hg; (try simp only [push_cast] at hg)))
        all_goals first | exact gA | (exact getE_dII (by omega)) | skip
        all_goals first | (refine hK _ ?_; clear hK K) | (simp only [push_cast]; done)
        refine awp_seq' fun K5 hK5 => ?_
        refine awp_cond rfl (fun hc => ?_) (fun hc => ?_) <;> (try simp only [push_cast] at hc)
        ·
          refine awp_skip ?_
          (try simp only [AThen, ABlk, reduceIte, zF]); refine hK5 _ ?_
          refine awp_seq' fun K6 hK6 => ?_
          refine awp_block ?_
          have hto := hw.to v (by omega) k (by omega)
          have hbd := hw.bd v (by omega) k (by omega)
          have hsu := hsb (gi (gl w.a.next v) k).toNat (by omega)
          refine awp_seq' fun K hK => ?_
          refine awp_region tyOk tyPos [] rfl ?_
          all_goals simp only [push_cast, ↓brB_true, ↓brB_false, ↓reduceIte, zA, zB, zC, zD, zE, zF, zG, zH, zI, reduceCtorEq]
          all_goals repeat' (first | (apply brB_mk <;> (intro hg; (try simp only [push_cast] at hg))) | apply And.intro | (intro hg; (try simp only [push_cast] at hg)))
          all_goals first | exact gA | (exact getE_dII (by omega)) | skip
          all_goals first | (refine hK _ ?_; clear hK K) | (simp only [push_cast]; done)
          refine awp_seq' fun K hK => ?_
          refine awp_regionD1 false tyOk tyPos tyMix ?_ rfl ?_
          · kernel_rfl
          intro E hE
          all_goals simp only [push_cast, ↓brB_true, ↓brB_false, ↓reduceIte, zA, zB, zC, zD, zE, zF, zG, zH, zI, reduceCtorEq]
          all_goals repeat' (first | (apply brB_mk <;> (intro hg; (try simp only [push_cast] at hg))) | apply And.intro | (intro hg; (try simp only [push_cast] at hg)))
          all_goals first | exact gA | (refine hE _ _ ?_ ?_; kernel_rfl) | (exact getE_dII (by omega)) | skip
          all_goals clear hE E
          all_goals first | (refine hK _ ?_; clear hK K) | (simp only [push_cast]; done)
          all_goals refine awp_cond rfl (fun hc => ?_) (fun hc => ?_)
          all_goals (first | (cases hc; done) | skip)
          all_goals (try simp only [push_cast] at hc)
          all_goals first
            | (
                refine awp_skip ?_
                (try simp only [AThen, ABlk, reduceIte, zF]); refine hK6 _ ?_
                refine awp_region tyOk tyPos [] rfl ?_
                all_goals simp only [push_cast, ↓brB_true, ↓brB_false, ↓reduceIte, zA, zB, zC, zD, zE, zF, zG, zH, zI, reduceCtorEq]
                all_goals repeat' (first | (apply brB_mk <;> (intro hg; (try simp only [push_cast] at hg))) | apply And.intro | (intro hg; (try simp only [push_cast] at hg)))
                all_goals first | exact gA | (exact getE_dII (by omega)) | skip
                refine hL1 _ ⟨k + 1, ⟨by omega, by rw [hpk, pf_step (by omega), if_neg (by omega)]⟩, by omega, ?_⟩
                refine cov_of rfl ?_ ?_ ?_ <;> simp only [covS, covL, push_cast, ↓brB_true, ↓brB_false, ↓reduceIte, zA, zB, zC, zD, zE, zF, zG, zH, zI, reduceCtorEq]
                done)
            | (
                refine awp_seq' fun K hK => ?_
                refine awp_region tyOk tyPos [] rfl ?_
                all_goals simp only [push_cast, ↓brB_true, ↓brB_false, ↓reduceIte, zA, zB, zC, zD, zE, zF, zG, zH, zI, reduceCtorEq]
                all_goals repeat' (first | (apply brB_mk <;> (intro hg; (try simp only [push_cast] at hg))) | apply And.intro | (intro hg; (try simp only [push_cast] at hg)))
                all_goals first | exact gA | (exact getE_dII (by omega)) | skip
                all_goals first | (refine hK _ ?_; clear hK K) | (simp only [push_cast]; done)
                refine awp_exit ?_
                (try simp only [AThen, ABlk, reduceIte, zF]); refine hK3 _ ?_
                refine awp_region tyOk tyPos [] rfl ?_
                all_goals simp only [push_cast, ↓brB_true, ↓brB_false, ↓reduceIte, zA, zB, zC, zD, zE, zF, zG, zH, zI, reduceCtorEq]
                all_goals repeat' (first | (apply brB_mk <;> (intro hg; (try simp only [push_cast] at hg))) | apply And.intro | (intro hg; (try simp only [push_cast] at hg)))
                all_goals first | exact gA | (exact getE_dII (by omega)) | skip
                refine hL0 _ ⟨v + 1, by omega, by omega, ?_⟩
                rw [show gi (gl w.a.next v) k = planAt w s v from by rw [planAt_yes (by omega), hpk, pf_step (by omega), if_pos (by omega)], planO_set (by omega)]
                refine cov_of rfl ?_ ?_ ?_ <;> simp only [covS, covL, push_cast, ↓brB_true, ↓brB_false, ↓reduceIte, zA, zB, zC, zD, zE, zF, zG, zH, zI, reduceCtorEq]
                done)
        ·
          refine awp_exit ?_
          (try simp only [AThen, ABlk, reduceIte, zF]); refine hK3 _ ?_
          refine awp_region tyOk tyPos [] rfl ?_
          all_goals simp only [push_cast, ↓brB_true, ↓brB_false, ↓reduceIte, zA, zB, zC, zD, zE, zF, zG, zH, zI, reduceCtorEq]
          all_goals repeat' (first | (apply brB_mk <;> (intro hg; (try simp only [push_cast] at hg))) | apply And.intro | (intro hg; (try simp only [push_cast] at hg)))
          all_goals first | exact gA | (exact getE_dII (by omega)) | skip
          refine hL0 _ ⟨v + 1, by omega, by omega, ?_⟩
          rw [planO_keep (by omega) (by rw [planAt_yes (by omega), hpk, show (gl w.a.next v).length - k = 0 from by omega]; rfl)]
          refine cov_of rfl ?_ ?_ ?_ <;> simp only [covS, covL, push_cast, ↓brB_true, ↓brB_false, ↓reduceIte, zA, zB, zC, zD, zE, zF, zG, zH, zI, reduceCtorEq]
    ·
      refine awp_exit ?_
      have hkv : v = w.a.owner.length := by omega
      subst hkv
      rw [planO_n]
      (try simp only [AThen, ABlk, reduceIte, zF]); refine hK1 _ ?_
      refine awp_seq' fun K hK => ?_
      refine awp_region tyOk tyPos [] rfl ?_
      all_goals simp only [push_cast, ↓brB_true, ↓brB_false, ↓reduceIte, zA, zB, zC, zD, zE, zF, zG, zH, zI, reduceCtorEq]
      all_goals repeat' (first | (apply brB_mk <;> (intro hg; (try simp only [push_cast] at hg))) | apply And.intro | (intro hg; (try simp only [push_cast] at hg)))
      all_goals first | exact gA | (exact getE_dII (by omega)) | skip
      all_goals first | (refine hK _ ?_; clear hK K) | (simp only [push_cast]; done)
      refine awp_ret ?_
      (try simp only [AThen, ABlk])
      refine ⟨Or.inl rfl, ?_⟩
      simp only [RetOk, push_cast, ↓brB_true, ↓brB_false, ↓reduceIte, zA, zB, zC, zD, zE, zF, zG, zH, zI, reduceCtorEq]
      all_goals first | rfl | exact (planN_len _ _ _).symm | (rw [planN_len]; simp; done) | exact ⟨rfl, (planN_len _ _ _).symm⟩
end Go.Proofs.Ytdbecmmeifdafaa

namespace Go.Proofs.Ytdbecmmeifdafaa
open Go.RowKit
set_option linter.unusedVariables false
set_option linter.unusedSimpArgs false

theorem pf_at {w : Wt} {s : List Int} {v : Nat} : ∀ (m j : Nat), (∃ i, j ≤ i ∧ i < j + m ∧ 0 ≤ gi s (toE w v i) ∧ gi s (toE w v i) - coE w v i ≤ gi s v) → ∃ i, j ≤ i ∧ i < j + m ∧ (0 ≤ gi s (toE w v i) ∧ gi s (toE w v i) - coE w v i ≤ gi s v) ∧ pf w s v j m = gi (gl w.a.next v) i
  | 0, j, ⟨i, h1, h2, _⟩ => by omega
  | m + 1, j, ⟨i, h1, h2, h3⟩ => by
    by_cases hc : 0 ≤ gi s (toE w v j) ∧ gi s (toE w v j) - coE w v j ≤ gi s v
    · exact ⟨j, Nat.le_refl _, by omega, hc, if_pos hc⟩
    · have hne : j ≠ i := fun e => hc (by rw [e]; exact h3)
      obtain ⟨k, a, b, c, d⟩ := pf_at m (j + 1) ⟨i, by omega, by omega, h3⟩
      exact ⟨k, by omega, by omega, c, (if_neg hc).trans d⟩
theorem fidx_set {xs : List Int} {n : Int} (h : isSetB xs n = true) {k : Nat} (hk : k < xs.length) : fidx xs (gi xs k) = k :=
  fidx_at hk (fun j hj e => by have := set_lt h k hk j hj; omega) rfl
theorem decB_map {b : Int} {c : List Int} {v : Nat} (h : v < c.length) : gi (c.map (decB b)) v = decB b (gi c v) := by
  unfold gi
  rw [List.getD_eq_getElem?_getD, List.getD_eq_getElem?_getD, List.getElem?_map, List.getElem?_eq_getElem h]
  rfl
theorem plan_edge {w : Wt} (hw : WSh w) {c : List Int} (hL : Least w (boundW w) c) {v : Nat} (hv : v < w.a.owner.length) (e : gi w.a.owner v = 0) (hf : gi c v ≤ boundW w) :
    ∃ j, j < (gl w.a.next v).length ∧ Ed w (boundW w) c v j (gi c v) ∧ planAt w (c.map (decB (boundW w))) v = gi (gl w.a.next v) j := by
  have hr := hL.rg v hv
  have hb := hw.bound.1
  obtain ⟨j, hj, e1, e2⟩ := ((stepT_le hw hb hv hr.1 hf).1 (hL.pre v hv)).1 e
  have hto : ∀ i, i < (gl w.a.next v).length → toE w v i < w.a.owner.length := fun i hi => by have := hw.to v hv i hi; unfold toE; omega
  have hs : ∀ u, u < w.a.owner.length → gi (c.map (decB (boundW w))) u = decB (boundW w) (gi c u) := fun u hu => decB_map (by rw [hL.len]; exact hu)
  have hsv : gi (c.map (decB (boundW w))) v = gi c v := by rw [hs v hv]; unfold decB; rw [if_neg (by omega)]
  have hrt := hL.rg _ (hto j hj)
  have hst : gi (c.map (decB (boundW w))) (toE w v j) = gi c (toE w v j) := (hs _ (hto j hj)).trans (if_neg (by omega))
  obtain ⟨i, -, hi, ⟨a1, a2⟩, hp⟩ := pf_at (w := w) (s := c.map (decB (boundW w))) (v := v) (gl w.a.next v).length 0 ⟨j, by omega, by omega, by omega, by omega⟩
  have hi' : i < (gl w.a.next v).length := by omega
  have hsi := hs _ (hto i hi')
  have hfi : gi c (toE w v i) ≤ boundW w := by
    rw [hsi] at a1
    unfold decB at a1
    split at a1 <;> omega
  have hsj : gi (c.map (decB (boundW w))) (toE w v i) = gi c (toE w v i) := hsi.trans (if_neg (by omega))
  exact ⟨i, hi', ⟨hfi, by omega⟩, by rw [planAt_yes ⟨e, by omega⟩]; exact hp⟩
end Go.Proofs.Ytdbecmmeifdafaa

namespace Go.Proofs.Ytdbecmmeifdafaa
open Nat renaming reduceMod → zA, reduceMul → zB, reduceDiv → zC, reduceAdd → zD, reduceSub → zE, reduceEqDiff → zF, reduceBEq → zG, reduceLT → zH, reduceLeDiff → zI
open Go.RowKit
set_option linter.unusedVariables false
set_option linter.unusedSimpArgs false

def crL (w : Wt) (C : Nat → List Int) (v : Nat) : List Int := (C v).map (decB (boundW (scaleW w (gf (meansL w) v))))
def mpL (w : Wt) (C : Nat → List Int) (v : Nat) : List Int := planN (scaleW w (gf (meansL w) v)) (crL w C v) w.a.owner.length
def mpAt (w : Wt) (C : Nat → List Int) (v : Nat) : Int := gi (mpL w C v) v
theorem mpL_len (w : Wt) (C : Nat → List Int) (v : Nat) : (mpL w C v).length = w.a.owner.length := planN_len ..
theorem mpL_gi (w : Wt) (C : Nat → List Int) (v : Nat) : gi (mpL w C v) v = mpAt w C v := rfl
theorem planN_gi {w : Wt} {s : List Int} {k v : Nat} (h : v < k) : gi (planN w s k) v = planAt w s v := by
  unfold gi planN
  rw [List.getD_eq_getElem?_getD, List.getElem?_map, List.getElem?_range h]
  rfl
theorem mpAt_no {w : Wt} {C : Nat → List Int} {v : Nat} (hv : v < w.a.owner.length) (h : ¬ gi w.a.owner v = 0) : mpAt w C v = -1 := by
  unfold mpAt mpL
  rw [planN_gi hv]
  exact planAt_no fun h9 => h h9.1
def mpN (w : Wt) (C : Nat → List Int) (k : Nat) : List Int := (List.range k).map (mpAt w C)
theorem mpN_len (w : Wt) (C : Nat → List Int) (k : Nat) : (mpN w C k).length = k := by simp [mpN]
theorem mpN_s (w : Wt) (C : Nat → List Int) (k : Nat) : mpN w C (k + 1) = mpN w C k ++ [mpAt w C k] := by simp [mpN, List.range_succ]
def mpO (w : Wt) (C : Nat → List Int) (n k : Nat) : List Int := mpN w C k ++ List.replicate (n - k) (-1)
theorem mpO_len {w : Wt} {C : Nat → List Int} {n k : Nat} (h : k ≤ n) : (mpO w C n k).length = n := by unfold mpO; rw [List.length_append, mpN_len, List.length_replicate]; omega
theorem mpO_0 (w : Wt) (C : Nat → List Int) (n : Nat) : mpO w C n 0 = List.replicate n (-1) := by simp [mpO, mpN]
theorem mpO_n (w : Wt) (C : Nat → List Int) (n : Nat) : mpO w C n n = mpN w C n := by simp [mpO]
theorem mpO_set {w : Wt} {C : Nat → List Int} {n k : Nat} (h : k < n) : (mpO w C n k).set k (mpAt w C k) = mpO w C n (k + 1) := by
  unfold mpO
  rw [List.set_append_right _ _ (by rw [mpN_len]; exact Nat.le_refl _), mpN_len, Nat.sub_self, show n - k = (n - (k + 1)) + 1 from by omega, List.replicate_succ, List.set_cons_zero, mpN_s, List.append_assoc]
  rfl
theorem mpO_keep {w : Wt} {C : Nat → List Int} {n k : Nat} (h : k < n) (h2 : mpAt w C k = -1) : mpO w C n (k + 1) = mpO w C n k := by
  unfold mpO
  rw [show n - k = (n - (k + 1)) + 1 from by omega, List.replicate_succ, mpN_s, h2, List.append_assoc]
  rfl
def mpRes (w : Wt) (C : Nat → List Int) : List Int := if meanB w then mpN w C w.a.owner.length else []
theorem mpRes_no {w : Wt} {C : Nat → List Int} (h : meanB w = false) : mpRes w C = [] := by unfold mpRes; rw [h]; rfl
theorem mpRes_yes {w : Wt} {C : Nat → List Int} (h : meanB w = true) : mpRes w C = mpN w C w.a.owner.length := by unfold mpRes; rw [h]; rfl
theorem mpRes_len {w : Wt} {C : Nat → List Int} : LnI 1048576 (mpRes w C) := by
  unfold mpRes LnI
  split
  · rename_i e
    rw [mpN_len]
    have := (wmn_of e).n8
    omega
  · simp
def MpL (w : Wt) (C : Nat → List Int) : Prop := meanB w = true → ∀ v, v < w.a.owner.length → Least (scaleW w (gf (meansL w) v)) (boundW (scaleW w (gf (meansL w) v))) (C v)
theorem gfm_ok {w : Wt} (h : meanB w = true) {v : Nat} (hv : v < w.a.owner.length) : (-8000 ≤ (gf (meansL w) v).num ∧ (gf (meansL w) v).num ≤ 8000) ∧ 1 ≤ (gf (meansL w) v).den ∧ (gf (meansL w) v).den ≤ 8 := by
  rw [gf_means hv]
  exact (valF_ok (wmn_of h) hv).2
theorem gfm_sh {w : Wt} (h : meanB w = true) {v : Nat} (hv : v < w.a.owner.length) : WSh (scaleW w (gf (meansL w) v)) := by
  have := gfm_ok h hv
  exact scaleW_ok (meanB_ok h) this.1 this.2
theorem mp_ex (w : Wt) : ∃ C, MpL w C := by
  have h : ∀ v, ∃ c, meanB w = true → v < w.a.owner.length → Least (scaleW w (gf (meansL w) v)) (boundW (scaleW w (gf (meansL w) v))) c := fun v => by
    by_cases h : meanB w = true ∧ v < w.a.owner.length
    · have hs := gfm_sh h.1 h.2
      obtain ⟨c, hc⟩ := least_ex hs hs.bound.1
      exact ⟨c, fun _ _ => hc⟩
    · exact ⟨[], fun h1 h2 => absurd ⟨h1, h2⟩ h⟩
  exact ⟨fun v => (h v).choose, fun h1 v hv => (h v).choose_spec h1 hv⟩
theorem crL_ok {w : Wt} {C : Nat → List Int} (hC : MpL w C) (h : meanB w = true) {v : Nat} (hv : v < w.a.owner.length) : (crL w C v).length = w.a.owner.length ∧ ∀ u, u < w.a.owner.length → -1 ≤ gi (crL w C v) u ∧ gi (crL w C v) u ≤ 460001 := by
  have h1 := hC h v hv
  have h2 := (gfm_sh h hv).bound
  have h3 : (C v).length = w.a.owner.length := h1.len
  unfold crL
  refine ⟨by rw [List.length_map]; exact h3, fun u hu => ?_⟩
  rw [gi_map (by omega)]
  have := decB_rg h2.1 (h1.rg u hu)
  omega
set_option maxRecDepth 20000 in
set_option maxHeartbeats 8000000 in
theorem MeanPlanI_fn (w : Wt) (ha : w.Ln 1048576) (C : Nat → List Int) (hCC : MpL w C) : Fn Try.prog tyT 27 [.agg (dWt w)] [.c (DI (mpRes w C))] := by
  have hA := isMean_fn w ha
  have hO := fun h => meanOf_fn w ha (wmn_of h)
  have hN := noPlan_fn w.a ha.a
  have hml := meansL_len w
  have hw8 := fun h => (wmn_of (w := w) h).n8
  have hrl2 : (List.replicate w.a.owner.length (-1 : Int)).length = w.a.owner.length := List.length_replicate ..
  have hS : ∀ v, meanB w = true → v < w.a.owner.length → FnS Try.prog tyT 75 [.agg [DI w.a.owner, DII w.a.next, DII w.cost], .agg [D.int .i64 (gf (meansL w) v).num, D.int .i64 (gf (meansL w) v).den]] 2 [DII (w.cost.map (List.map (scaleG (gf (meansL w) v))))] := fun v h hv => scaledBy_fn w ha (gf (meansL w) v) (meanB_ok h) (gfm_ok h hv).1 (gfm_ok h hv).2
  have hP : ∀ v, meanB w = true → v < w.a.owner.length → Fn Try.prog tyT 60 [.agg [DI w.a.owner, DII w.a.next, DII (w.cost.map (List.map (scaleG (gf (meansL w) v))))]] [.c (DI (mpL w C v))] := fun v h hv => creditPlanI_fn (scaleW w (gf (meansL w) v)) (scaleW_len ha) (gfm_sh h hv) _ rfl (C v) (hCC h v hv)
  unfold dAr at hN
  unfold dWt at hA hO ⊢
  refine Fn_of (fn := Try.f27) (ts := [2]) Try.func27 (by kernel_rfl) rfl rfl (by rw [Try.ntmps27]; exact Nat.le_of_ble_eq_true rfl) rfl (by simp only [szA, List.mem_cons, List.not_mem_nil, or_false, forall_eq_or_imp, forall_eq, VT.cells, szL]; try decide) ?_
  rw [Try.ntmps27]
  simp only [push_cast, ↓brB_true, ↓brB_false, ↓reduceIte, zA, zB, zC, zD, zE, zF, zG, zH, zI, reduceCtorEq]
  refine awp_seq' fun K hK => ?_
  refine awp_region tyOk tyPos [] rfl ?_
  all_goals simp only [push_cast, ↓brB_true, ↓brB_false, ↓reduceIte, zA, zB, zC, zD, zE, zF, zG, zH, zI, reduceCtorEq]
  all_goals repeat' (first | (apply brB_mk <;> (intro hg; (try simp only [push_cast] at hg))) | apply And.intro | (intro hg; (try simp only [push_cast] at hg)))
  all_goals first | exact gA | (exact getE_dII (by omega)) | skip
  all_goals first | (refine hK _ ?_; clear hK K) | (simp only [push_cast]; done)
  refine awp_seq' fun K1 hK1 => ?_
  refine awp_seq' fun K hK => ?_
  refine awp_region tyOk tyPos [] rfl ?_
  all_goals refine aops_cut 2 fun K9 hK9 => ?_
  all_goals simp only [push_cast, ↓brB_true, ↓brB_false, ↓reduceIte, zA, zB, zC, zD, zE, zF, zG, zH, zI, reduceCtorEq]
  all_goals repeat' (first | (apply brB_mk <;> (intro hg; (try simp only [push_cast] at hg))) | (refine ⟨_, hA, ?_⟩; simp only [push_cast, ↓brB_true, ↓brB_false, ↓reduceIte, zA, zB, zC, zD, zE, zF, zG, zH, zI, reduceCtorEq]) | apply And.intro | (intro hg; (try simp only [push_cast] at hg)))
  all_goals first | exact gA | (exact getE_dII (by omega)) | skip
  all_goals first | (refine hK9 _ ?_; clear hK9 K9) | (simp only [push_cast]; done)
  all_goals simp only [push_cast, ↓brB_true, ↓brB_false, ↓reduceIte, zA, zB, zC, zD, zE, zF, zG, zH, zI, reduceCtorEq]
  all_goals repeat' (first | (apply brB_mk <;> (intro hg; (try simp only [push_cast] at hg))) | (refine ⟨_, hA, ?_⟩; simp only [push_cast, ↓brB_true, ↓brB_false, ↓reduceIte, zA, zB, zC, zD, zE, zF, zG, zH, zI, reduceCtorEq]) | apply And.intro | (intro hg; (try simp only [push_cast] at hg)))
  all_goals first | exact gA | (exact getE_dII (by omega)) | skip
  all_goals first | (refine hK _ ?_; clear hK K) | (simp only [push_cast]; done)
  refine awp_cond rfl (fun hc => ?_) (fun hc => ?_) <;> (try simp only [push_cast] at hc)
  ·
    refine awp_seq' fun K hK => ?_
    refine awp_region tyOk tyPos [] rfl ?_
    all_goals simp only [push_cast, ↓brB_true, ↓brB_false, ↓reduceIte, zA, zB, zC, zD, zE, zF, zG, zH, zI, reduceCtorEq]
    all_goals repeat' (first | (apply brB_mk <;> (intro hg; (try simp only [push_cast] at hg))) | apply And.intro | (intro hg; (try simp only [push_cast] at hg)))
    all_goals first | exact gA | (exact getE_dII (by omega)) | skip
    all_goals first | (refine hK _ ?_; clear hK K) | (simp only [push_cast]; done)
    refine awp_ret ?_
    (try simp only [AThen, ABlk])
    refine ⟨Or.inl rfl, ?_⟩
    simp only [RetOk, push_cast, ↓brB_true, ↓brB_false, ↓reduceIte, zA, zB, zC, zD, zE, zF, zG, zH, zI, reduceCtorEq]
    rw [mpRes_no (by with_reducible assumption)]
    all_goals first | rfl | exact ⟨rfl, rfl⟩ | (simp [dI]; done)
  ·
    refine awp_skip ?_
    (try simp only [AThen, ABlk, reduceIte, zF]); refine hK1 _ ?_
    refine awp_seq' fun K hK => ?_
    refine awp_region tyOk tyPos [] rfl ?_
    all_goals refine aops_cut 2 fun K9 hK9 => ?_
    all_goals simp only [push_cast, ↓brB_true, ↓brB_false, ↓reduceIte, zA, zB, zC, zD, zE, zF, zG, zH, zI, reduceCtorEq]
    all_goals repeat' (first | (apply brB_mk <;> (intro hg; (try simp only [push_cast] at hg))) | (refine ⟨_, hO (by with_reducible assumption), ?_⟩; simp only [push_cast, ↓brB_true, ↓brB_false, ↓reduceIte, zA, zB, zC, zD, zE, zF, zG, zH, zI, reduceCtorEq]) | apply And.intro | (intro hg; (try simp only [push_cast] at hg)))
    all_goals first | exact gA | (exact getE_dII (by omega)) | skip
    all_goals first | (refine hK9 _ ?_; clear hK9 K9) | (simp only [push_cast]; done)
    all_goals simp only [push_cast, ↓brB_true, ↓brB_false, ↓reduceIte, zA, zB, zC, zD, zE, zF, zG, zH, zI, reduceCtorEq]
    all_goals repeat' (first | (apply brB_mk <;> (intro hg; (try simp only [push_cast] at hg))) | (refine ⟨_, hO (by with_reducible assumption), ?_⟩; simp only [push_cast, ↓brB_true, ↓brB_false, ↓reduceIte, zA, zB, zC, zD, zE, zF, zG, zH, zI, reduceCtorEq]) | apply And.intro | (intro hg; (try simp only [push_cast] at hg)))
    all_goals first | exact gA | (exact getE_dII (by omega)) | skip
    all_goals first | (refine hK _ ?_; clear hK K) | (simp only [push_cast]; done)
    have hmb : meanB w = true := by with_reducible assumption
    have hm8 := hw8 hmb
    refine awp_seq' fun K hK => ?_
    refine awp_region tyOk tyPos [] rfl ?_
    all_goals refine aops_cut 3 fun K9 hK9 => ?_
    all_goals simp only [push_cast, ↓brB_true, ↓brB_false, ↓reduceIte, zA, zB, zC, zD, zE, zF, zG, zH, zI, reduceCtorEq]
    all_goals repeat' (first | (apply brB_mk <;> (intro hg; (try simp only [push_cast] at hg))) | (refine ⟨_, hN, ?_⟩; simp only [push_cast, ↓brB_true, ↓brB_false, ↓reduceIte, zA, zB, zC, zD, zE, zF, zG, zH, zI, reduceCtorEq]) | apply And.intro | (intro hg; (try simp only [push_cast] at hg)))
    all_goals first | exact gA | (exact getE_dII (by omega)) | skip
    all_goals first | (refine hK9 _ ?_; clear hK9 K9) | (simp only [push_cast]; done)
    all_goals simp only [push_cast, ↓brB_true, ↓brB_false, ↓reduceIte, zA, zB, zC, zD, zE, zF, zG, zH, zI, reduceCtorEq]
    all_goals repeat' (first | (apply brB_mk <;> (intro hg; (try simp only [push_cast] at hg))) | (refine ⟨_, hN, ?_⟩; simp only [push_cast, ↓brB_true, ↓brB_false, ↓reduceIte, zA, zB, zC, zD, zE, zF, zG, zH, zI, reduceCtorEq]) | apply And.intro | (intro hg; (try simp only [push_cast] at hg)))
    all_goals first | exact gA | (exact getE_dII (by omega)) | skip
    all_goals first | (refine hK _ ?_; clear hK K) | (simp only [push_cast]; done)
    refine awp_seq' fun K2 hK2 => ?_
    refine awp_seq' fun K hK => ?_
    refine awp_region tyOk tyPos [] rfl ?_
    all_goals simp only [push_cast, ↓brB_true, ↓brB_false, ↓reduceIte, zA, zB, zC, zD, zE, zF, zG, zH, zI, reduceCtorEq]
    all_goals repeat' (first | (apply brB_mk <;> (intro hg; (try simp only [push_cast] at hg))) | apply And.intro | (intro hg; (try simp only [push_cast] at hg)))
    all_goals first | exact gA | (exact getE_dII (by omega)) | skip
    all_goals first | (refine hK _ ?_; clear hK K) | (simp only [push_cast]; done)
    refine awp_block ?_
    refine awp_loopU [5,6,17,18,19,20,21,22,23,24,25,26,27,28,29,30,31,32,33,34,35,36,37,38,39] [64] (fun (v : Nat) => [(17, .int .i64 v)]) (fun v => []) (fun v => [(64, ⟨.ex, 2, dI (mpO w C w.a.owner.length v), none⟩)]) (fun v => v ≤ w.a.owner.length) (fun v => w.a.owner.length - v) 0 ?_ (by omega) ?_
    ·
      rw [mpO_0]
      refine cov_of rfl ?_ ?_ ?_ <;> simp only [covS, covL, push_cast, ↓brB_true, ↓brB_false, ↓reduceIte, zA, zB, zC, zD, zE, zF, zG, zH, zI, reduceCtorEq]
    · rintro v hv KL0 hL0
      have hpl := mpO_len (w := w) (C := C) hv
      have hpL := mpL_len w C v
      have hcL : meanB w = true → v < w.a.owner.length → (crL w C v).length = w.a.owner.length := fun h1 h2 => (crL_ok hCC h1 h2).1
      simp only [push_cast, ↓brB_true, ↓brB_false, ↓reduceIte, zA, zB, zC, zD, zE, zF, zG, zH, zI, reduceCtorEq]
      refine awp_seq' fun K hK => ?_
      refine awp_region tyOk tyPos [] rfl ?_
      all_goals simp only [push_cast, ↓brB_true, ↓brB_false, ↓reduceIte, zA, zB, zC, zD, zE, zF, zG, zH, zI, reduceCtorEq]
      all_goals repeat' (first | (apply brB_mk <;> (intro hg; (try simp only [push_cast] at hg))) | apply And.intro | (intro hg; (try simp only [push_cast] at hg)))
      all_goals first | exact gA | (exact getE_dII (by omega)) | skip
      all_goals first | (refine hK _ ?_; clear hK K) | (simp only [push_cast]; done)
      refine awp_seq' fun K3 hK3 => ?_
      refine awp_cond rfl (fun hc => ?_) (fun hc => ?_) <;> (try simp only [push_cast] at hc)
      ·
        refine awp_skip ?_
        (try simp only [AThen, ABlk, reduceIte, zF]); refine hK3 _ ?_
        refine awp_seq' fun K4 hK4 => ?_
        refine awp_block ?_
        refine awp_seq' fun K hK => ?_
        refine awp_region tyOk tyPos [] rfl ?_
        all_goals simp only [push_cast, ↓brB_true, ↓brB_false, ↓reduceIte, zA, zB, zC, zD, zE, zF, zG, zH, zI, reduceCtorEq]
        all_goals repeat' (first | (apply brB_mk <;> (intro hg; (try simp only [push_cast] at hg))) | apply And.intro | (intro hg; (try simp only [push_cast] at hg)))
        all_goals first | exact gA | (exact getE_dII (by omega)) | skip
        all_goals first | (refine hK _ ?_; clear hK K) | (simp only [push_cast]; done)
        refine awp_seq' fun K hK => ?_
        refine awp_region tyOk tyPos [] rfl ?_
        all_goals simp only [push_cast, ↓brB_true, ↓brB_false, ↓reduceIte, zA, zB, zC, zD, zE, zF, zG, zH, zI, reduceCtorEq]
        all_goals repeat' (first | (apply brB_mk <;> (intro hg; (try simp only [push_cast] at hg))) | apply And.intro | (intro hg; (try simp only [push_cast] at hg)))
        all_goals first | exact gA | (exact getE_dII (by omega)) | skip
        all_goals first | (refine hK _ ?_; clear hK K) | (simp only [push_cast]; done)
        refine awp_cond rfl (fun hc => ?_) (fun hc => ?_) <;> (try simp only [push_cast] at hc)
        ·
          refine awp_regionS 33 tyOk tyPos [] rfl ?_
          simp only [push_cast, ↓brB_true, ↓brB_false, ↓reduceIte, zA, zB, zC, zD, zE, zF, zG, zH, zI, reduceCtorEq]
          all_goals repeat' (first | (apply brB_mk <;> (intro hg; (try simp only [push_cast] at hg))) | (refine ⟨_, _, hS v hmb (by omega), ?_⟩; simp only [push_cast, ↓brB_true, ↓brB_false, ↓reduceIte, zA, zB, zC, zD, zE, zF, zG, zH, zI, reduceCtorEq]) | (refine ⟨_, hP v hmb (by omega), ?_⟩; simp only [push_cast, ↓brB_true, ↓brB_false, ↓reduceIte, zA, zB, zC, zD, zE, zF, zG, zH, zI, reduceCtorEq]) | apply And.intro | (intro hg; (try simp only [push_cast] at hg)))
          all_goals first | exact gA | (exact getE_dII (by omega)) | skip
          (try simp only [AThen, ABlk, reduceIte, zF]); refine hK4 _ ?_
          refine awp_region tyOk tyPos [] rfl ?_
          all_goals simp only [push_cast, ↓brB_true, ↓brB_false, ↓reduceIte, zA, zB, zC, zD, zE, zF, zG, zH, zI, reduceCtorEq]
          all_goals repeat' (first | (apply brB_mk <;> (intro hg; (try simp only [push_cast] at hg))) | apply And.intro | (intro hg; (try simp only [push_cast] at hg)))
          all_goals first | exact gA | (exact getE_dII (by omega)) | skip
          refine hL0 _ ⟨v + 1, by omega, by omega, ?_⟩
          rw [mpL_gi, mpO_set (by omega)]
          refine cov_of rfl ?_ ?_ ?_ <;> simp only [covS, covL, push_cast, ↓brB_true, ↓brB_false, ↓reduceIte, zA, zB, zC, zD, zE, zF, zG, zH, zI, reduceCtorEq]
        ·
          refine awp_skip ?_
          (try simp only [AThen, ABlk, reduceIte, zF]); refine hK4 _ ?_
          refine awp_region tyOk tyPos [] rfl ?_
          all_goals simp only [push_cast, ↓brB_true, ↓brB_false, ↓reduceIte, zA, zB, zC, zD, zE, zF, zG, zH, zI, reduceCtorEq]
          all_goals repeat' (first | (apply brB_mk <;> (intro hg; (try simp only [push_cast] at hg))) | apply And.intro | (intro hg; (try simp only [push_cast] at hg)))
          all_goals first | exact gA | (exact getE_dII (by omega)) | skip
          refine hL0 _ ⟨v + 1, by omega, by omega, ?_⟩
          rw [mpO_keep (by omega) (mpAt_no (by omega) (by omega))]
          refine cov_of rfl ?_ ?_ ?_ <;> simp only [covS, covL, push_cast, ↓brB_true, ↓brB_false, ↓reduceIte, zA, zB, zC, zD, zE, zF, zG, zH, zI, reduceCtorEq]
      ·
        refine awp_exit ?_
        have hkv : v = w.a.owner.length := by omega
        subst hkv
        rw [mpO_n]
        (try simp only [AThen, ABlk, reduceIte, zF]); refine hK2 _ ?_
        refine awp_seq' fun K hK => ?_
        refine awp_region tyOk tyPos [] rfl ?_
        all_goals simp only [push_cast, ↓brB_true, ↓brB_false, ↓reduceIte, zA, zB, zC, zD, zE, zF, zG, zH, zI, reduceCtorEq]
        all_goals repeat' (first | (apply brB_mk <;> (intro hg; (try simp only [push_cast] at hg))) | apply And.intro | (intro hg; (try simp only [push_cast] at hg)))
        all_goals first | exact gA | (exact getE_dII (by omega)) | skip
        all_goals first | (refine hK _ ?_; clear hK K) | (simp only [push_cast]; done)
        refine awp_ret ?_
        (try simp only [AThen, ABlk])
        refine ⟨Or.inl rfl, ?_⟩
        simp only [RetOk, push_cast, ↓brB_true, ↓brB_false, ↓reduceIte, zA, zB, zC, zD, zE, zF, zG, zH, zI, reduceCtorEq]
        rw [mpRes_yes hmb]
        all_goals first | rfl | exact ⟨rfl, rfl⟩ | exact (mpN_len _ _ _).symm | exact ⟨rfl, (mpN_len _ _ _).symm⟩ | exact ⟨rfl, by rw [mpN_len]; exact hrl2⟩ | (constructor <;> first | rfl | with_reducible assumption | (simp; done)) | (rw [mpN_len]; done)
end Go.Proofs.Ytdbecmmeifdafaa

namespace Go.Proofs.Ytdbecmmeifdafaa
open Go.RowKit
set_option linter.unusedVariables false
set_option linter.unusedSimpArgs false

end Go.Proofs.Ytdbecmmeifdafaa

namespace Go.Proofs.Ytdbecmmeifdafaa
open Go.RowKit MV
set_option linter.unusedVariables false
set_option linter.unusedSimpArgs false

theorem lessF_self (f : Fr) : lessF f f = false := decide_eq_false (Int.lt_irrefl _)
theorem fin_iff {w : Wt} (hw : WMn w) {f : Fr} (hf : 1 ≤ f.den) (hs : WSh (scaleW w f)) {c : List Int} (hL : Least (scaleW w f) (boundW (scaleW w f)) c) {v : Nat} (hv : v < w.a.owner.length) : gi c v ≤ boundW (scaleW w f) ↔ lessF (valF w v) f = false := by
  rw [val_iff hw f hf hv]
  constructor
  · intro h'
    exact ⟨gi c v, fun k => pay_low hs hs.bound.1 hL k v hv h'⟩
  · rintro ⟨M, hM⟩
    exact fin_of_pay hs (Int.le_refl _) hL hv hM
theorem val_eq {w x : Wt} (hw : WMn w) (hx : WMn x) {v u : Nat} (hv : v < w.a.owner.length) (hu : u < x.a.owner.length) (h : (valF w v).num * (valF x u).den = (valF x u).num * (valF w v).den) : valF w v = valF x u := by
  have a := Gm.val_ok (gm_ok20 hw.sh) hv
  have b := Gm.val_ok (gm_ok20 hx.sh) hu
  obtain ⟨g, g1, gN, gD⟩ := frOf_cross (p := ((gmW w).val w.a.owner.length v).1) (q := ((gmW w).val w.a.owner.length v).2) a.1
  obtain ⟨g', g1', gN', gD'⟩ := frOf_cross (p := ((gmW x).val x.a.owner.length u).1) (q := ((gmW x).val x.a.owner.length u).2) b.1
  refine frOf_eq a.1 b.1 ?_
  have e1 : frOf ((gmW w).val w.a.owner.length v).1 ((gmW w).val w.a.owner.length v).2 = valF w v := rfl
  have e2 : frOf ((gmW x).val x.a.owner.length u).1 ((gmW x).val x.a.owner.length u).2 = valF x u := rfl
  rw [e1] at gN gD
  rw [e2] at gN' gD'
  rw [gN, gD, gN', gD']
  have e3 : (valF w v).num * g * ((valF x u).den * g') = (valF w v).num * (valF x u).den * (g * g') := by
    rw [Int.mul_assoc, Int.mul_assoc, Int.mul_left_comm g]
  have e4 : (valF x u).num * g' * ((valF w v).den * g) = (valF x u).num * (valF w v).den * (g * g') := by
    rw [Int.mul_assoc, Int.mul_assoc, Int.mul_left_comm g', Int.mul_comm g' g]
  rw [e3, e4, h]
theorem val_same {w x : Wt} (hw : WMn w) (hx : WMn x) {v u : Nat} (hv : v < w.a.owner.length) (hu : u < x.a.owner.length) (h1 : lessF (valF w v) (valF x u) = false) (h2 : lessF (valF x u) (valF w v) = false) : valF w v = valF x u := by
  refine val_eq hw hx hv hu ?_
  unfold lessF at h1 h2
  have := of_decide_eq_false h1
  have := of_decide_eq_false h2
  omega
def by840 (d : Int) : Int := 840 / d
theorem by840_mul {d : Int} (h : 1 ≤ d ∧ d ≤ 8) : by840 d * d = 840 ∧ 105 ≤ by840 d ∧ by840 d ≤ 840 := by
  obtain ⟨h1, h2⟩ := h
  have : d = 1 ∨ d = 2 ∨ d = 3 ∨ d = 4 ∨ d = 5 ∨ d = 6 ∨ d = 7 ∨ d = 8 := by omega
  rcases this with h | h | h | h | h | h | h | h <;> subst h <;> decide
def n840 (f : Fr) : Int := f.num * by840 f.den
theorem n840_le {f g : Fr} (hf : 1 ≤ f.den ∧ f.den ≤ 8) (hg : 1 ≤ g.den ∧ g.den ≤ 8) : lessF f g = false ↔ n840 g ≤ n840 f := by
  have a := by840_mul hf
  have b := by840_mul hg
  unfold lessF n840
  rw [decide_eq_false_iff_not, Int.not_lt]
  have e1 : g.num * f.den * (by840 f.den * by840 g.den) = g.num * by840 g.den * 840 := by
    rw [← a.1, Int.mul_assoc, Int.mul_assoc, ← Int.mul_assoc f.den, Int.mul_comm f.den, Int.mul_comm (by840 f.den * f.den)]
  have e2 : f.num * g.den * (by840 f.den * by840 g.den) = f.num * by840 f.den * 840 := by
    rw [← b.1, Int.mul_assoc, Int.mul_assoc, Int.mul_left_comm g.den, Int.mul_comm g.den]
  have hp : 0 < by840 f.den * by840 g.den := Int.mul_pos (by omega) (by omega)
  constructor
  · intro h
    have := Int.mul_le_mul_of_nonneg_right h (Int.le_of_lt hp)
    rw [e1, e2] at this
    omega
  · intro h
    refine Int.le_of_mul_le_mul_right (a := by840 f.den * by840 g.den) ?_ hp
    rw [e1, e2]
    omega
end Go.Proofs.Ytdbecmmeifdafaa

namespace Go.Proofs.Ytdbecmmeifdafaa
open Go.RowKit
set_option linter.unusedVariables false
set_option linter.unusedSimpArgs false

end Go.Proofs.Ytdbecmmeifdafaa

namespace Go.Proofs.Ytdbecmmeifdafaa
open Go.RowKit
set_option linter.unusedVariables false
set_option linter.unusedSimpArgs false

end Go.Proofs.Ytdbecmmeifdafaa

namespace Go.Proofs.Ytdbecmmeifdafaa
open Go.RowKit MV
set_option linter.unusedVariables false
set_option linter.unusedSimpArgs false

theorem mp_fin {w : Wt} (h : meanB w = true) {C : Nat → List Int} (hC : MpL w C) {v u : Nat} (hv : v < w.a.owner.length) (hu : u < w.a.owner.length) : gi (C v) u ≤ boundW (scaleW w (gf (meansL w) v)) ↔ n840 (valF w v) ≤ n840 (valF w u) := by
  have hw := wmn_of h
  rw [fin_iff hw (gfm_ok h hv).2.1 (gfm_sh h hv) (hC h v hv) hu, gf_means hv]
  exact n840_le (valF_ok hw hu).2.2 (valF_ok hw hv).2.2
theorem mp_cong {w : Wt} (h : meanB w = true) {C : Nat → List Int} (hC : MpL w C) {u v t : Nat} (hu : u < w.a.owner.length) (hv : v < w.a.owner.length) (ht : t < w.a.owner.length) (e : valF w u = valF w v) (hf : gi (C v) t ≤ boundW (scaleW w (gf (meansL w) v))) : gi (C u) t = gi (C v) t := by
  have Lu := hC h u hu
  have Lv := hC h v hv
  have hs := gfm_sh h hv
  have eu : gf (meansL w) u = gf (meansL w) v := by rw [gf_means hu, gf_means hv, e]
  rw [eu] at Lu
  have hd := least_dec hs (Int.le_refl _) (Int.le_refl _) Lu Lv (v := t) ht
  have r1 := (Lu.rg t ht).1
  have r2 := (Lv.rg t ht).1
  unfold decB at hd
  split at hd <;> split at hd <;> omega
def MpE (w : Wt) (C : Nat → List Int) (v j : Nat) : Prop := gi (C v) (toE w v j) ≤ boundW (scaleW w (gf (meansL w) v)) ∧ gi (C v) (toE w v j) - (coE w v j * (valF w v).den - (valF w v).num) ≤ gi (C v) v
theorem mp_edge {w : Wt} (h : meanB w = true) {C : Nat → List Int} (hC : MpL w C) {v : Nat} (hv : v < w.a.owner.length) :
    (gi w.a.owner v = 0 → ∃ j, j < (gl w.a.next v).length ∧ mpAt w C v = gi (gl w.a.next v) j ∧ MpE w C v j) ∧ (gi w.a.owner v = 1 → ∀ j, j < (gl w.a.next v).length → MpE w C v j) := by
  have hw := wmn_of h
  have hs := gfm_sh h hv
  have hL := hC h v hv
  have hf := (mp_fin h hC hv hv).2 (Int.le_refl _)
  have hco : ∀ j, j < (gl w.a.next v).length → coE (scaleW w (gf (meansL w) v)) v j = coE w v j * (valF w v).den - (valF w v).num := fun j hj => by
    rw [← gf_means hv]
    exact scale_c hw.sh (gf (meansL w) v) hv hj
  constructor
  · intro e
    obtain ⟨j, hj, ⟨a1, a2⟩, a3⟩ := plan_edge hs hL hv e hf
    rw [hco j hj] at a2
    refine ⟨j, hj, ?_, a1, a2⟩
    unfold mpAt mpL
    rw [planN_gi hv]
    exact a3
  · intro e j hj
    have hr := hL.rg v hv
    obtain ⟨a1, a2⟩ := ((stepT_le hs hs.bound.1 hv hr.1 hf).1 (hL.pre v hv)).2 e j hj
    rw [hco j hj] at a2
    exact ⟨a1, a2⟩
theorem pot_arith {K d d0 num num0 co cu cv : Int} (hK : K * d = 840) (hK0 : 0 ≤ K) (h0 : 0 ≤ d0) (hN : 840 * num0 ≤ num * K * d0) (h : cu - (co * d - num) ≤ cv) : K * d0 * cu ≤ K * d0 * cv + 840 * (co * d0 - num0) := by
  have h1 := Int.mul_le_mul_of_nonneg_left (show cu - cv ≤ co * d - num by omega) (Int.mul_nonneg hK0 h0)
  rw [Int.mul_sub, Int.mul_sub] at h1
  have e1 : K * d0 * (co * d) = 840 * (co * d0) := by rw [← hK]; ac_rfl
  have e2 : K * d0 * num = num * K * d0 := by ac_rfl
  rw [e1, e2] at h1
  rw [Int.mul_sub]
  omega
def mpB (w : Wt) (C : Nat → List Int) (d0 : Int) (v : Nat) : Int := by840 (valF w v).den * d0 * gi (C v) v + (6720000 - n840 (valF w v)) * 3091200000
theorem mpB_rg {w : Wt} (h : meanB w = true) {C : Nat → List Int} (hC : MpL w C) {d0 : Int} (h0 : 1 ≤ d0 ∧ d0 ≤ 8) {v : Nat} (hv : v < w.a.owner.length) : (0 ≤ by840 (valF w v).den * d0 * gi (C v) v ∧ by840 (valF w v).den * d0 * gi (C v) v ≤ 3091200000) ∧ n840 (valF w v) ≤ 6720000 ∧ 0 ≤ mpB w C d0 v := by
  have hw := wmn_of h
  have hf := valF_ok hw hv
  have hK := by840_mul hf.2.2
  have hfin := (mp_fin h hC hv hv).2 (Int.le_refl _)
  have hbd := (gfm_sh h hv).bound
  have hr := ((hC h v hv).rg v hv).1
  have hp : 0 ≤ by840 (valF w v).den * d0 ∧ by840 (valF w v).den * d0 ≤ 6720 := by
    constructor
    · exact Int.mul_nonneg (by omega) (by omega)
    · have := Int.mul_le_mul hK.2.2 h0.2 (by omega) (by omega)
      omega
  have a1 : 0 ≤ by840 (valF w v).den * d0 * gi (C v) v := Int.mul_nonneg hp.1 hr
  have a2 : by840 (valF w v).den * d0 * gi (C v) v ≤ 6720 * 460000 := Int.mul_le_mul hp.2 (by omega) hr (by omega)
  have a3 : n840 (valF w v) ≤ 6720000 := by
    have h1 : (valF w v).num * by840 (valF w v).den ≤ 8000 * by840 (valF w v).den := Int.mul_le_mul_of_nonneg_right hf.2.1.2 (by omega)
    unfold n840
    omega
  refine ⟨⟨a1, by omega⟩, a3, ?_⟩
  unfold mpB
  have := Int.mul_nonneg (show 0 ≤ 6720000 - n840 (valF w v) by omega) (show (0 : Int) ≤ 3091200000 by decide)
  omega
theorem mp_pot {w : Wt} (h : meanB w = true) {C : Nat → List Int} (hC : MpL w C) {f0 : Fr} (h0 : 1 ≤ f0.den ∧ f0.den ≤ 8) {v j : Nat} (hv : v < w.a.owner.length) (hj : j < (gl w.a.next v).length) (he : MpE w C v j) (hS : 840 * f0.num ≤ n840 (valF w v) * f0.den) :
    840 * f0.num ≤ n840 (valF w (toE w v j)) * f0.den ∧ mpB w C f0.den (toE w v j) ≤ mpB w C f0.den v + 840 * (coE w v j * f0.den - f0.num) := by
  have hw := wmn_of h
  have hu : toE w v j < w.a.owner.length := (gm_ok20 hw.sh).to v hv j hj
  unfold MpE at he
  generalize toE w v j = u at he hu ⊢
  have hK := by840_mul (valF_ok hw hv).2.2
  have hN := (mp_fin h hC hv hu).1 he.1
  have hpa := pot_arith (num := (valF w v).num) (d0 := f0.den) (num0 := f0.num) (cu := gi (C v) u) (cv := gi (C v) v) (co := coE w v j) hK.1 (by omega) (by omega) hS he.2
  have hcu := ((hC h v hv).rg u hu).1
  have hS2 : 840 * f0.num ≤ n840 (valF w u) * f0.den := Int.le_trans hS (Int.mul_le_mul_of_nonneg_right hN (by omega))
  refine ⟨hS2, ?_⟩
  have rv := mpB_rg h hC h0 hv
  have ru := mpB_rg h hC h0 hu
  rcases Int.lt_or_le (n840 (valF w v)) (n840 (valF w u)) with h1 | h1
  · have h2 : 0 ≤ by840 (valF w v).den * f0.den * gi (C v) u := Int.mul_nonneg (Int.mul_nonneg (by omega) (by omega)) hcu
    unfold mpB
    omega
  · have ee : n840 (valF w u) = n840 (valF w v) := by omega
    have e2 : valF w u = valF w v := val_same hw hw hu hv ((n840_le (valF_ok hw hu).2.2 (valF_ok hw hv).2.2).2 (by omega)) ((n840_le (valF_ok hw hv).2.2 (valF_ok hw hu).2.2).2 (by omega))
    have e3 := mp_cong h hC hu hv hu e2 he.1
    unfold mpB
    rw [e3, e2]
    omega
theorem mpN_at {w : Wt} {C : Nat → List Int} {n v : Nat} (h : v < n) : gi (mpN w C n) v = mpAt w C v := by
  unfold gi mpN
  rw [List.getD_eq_getElem?_getD, List.getElem?_map, List.getElem?_range h]
  rfl
theorem mp_right {w : Wt} (h : meanB w = true) {C : Nat → List Int} (hC : MpL w C) : planOkB w.a 0 (mpRes w C) = true := by
  have hwb := meanB_ok h
  have hfw := weighted_facts hwb
  rw [mpRes_yes h, planOk_eq hfw.1 (by omega)]
  refine planB_yes (mpN_len _ _ _) fun v hv => planAtB_ok ?_
  rw [mpN_len] at hv
  rw [mpN_at hv]
  by_cases e : gi w.a.owner v = 0
  · obtain ⟨j, hj, e1, -⟩ := (mp_edge h hC hv).1 e
    rw [e1]
    refine .inr ⟨e, ?_⟩
    unfold hasB
    rw [fidx_set (arenaB_at hfw.1 hv).2.2.2.2 hj]
    exact decide_eq_true hj
  · exact .inl (mpAt_no hv e)
end Go.Proofs.Ytdbecmmeifdafaa
