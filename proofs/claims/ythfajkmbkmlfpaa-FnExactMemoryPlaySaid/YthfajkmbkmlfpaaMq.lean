/- a play of a memory strategy: both sides -/
import Derived.Test.YthfajkmbkmlfpaaMp
import Derived.Test.YthfajkmbkmlfpaaPo
namespace Go.Proofs.Ythfajkmbkmlfpaa
open Go.RowKit
set_option linter.unusedVariables false
set_option linter.unusedSimpArgs false

theorem mp_no' {a : Ar} {m : Me} {odd : List Int} {v : Int} (h : (arenaB a && memI a m) = false) : mpRes a m odd v = (⟨[], []⟩, false) := by
  rw [Bool.and_eq_false_iff] at h
  exact mp_no (h.elim Or.inl fun h => Or.inr (Or.inl h))
set_option maxRecDepth 20000 in
set_option maxHeartbeats 4000000 in
theorem isFull_fn (a : Ar) (ha : a.Ln 1048576) (hnl : a.next.length = a.owner.length) (who : Int) (plan : List Int) (hp : plan.length ≤ 1048576) : Fn Try.prog tyT 28 [.agg (dAr a), .c (.int .i64 who), .c (DI plan)] [.c (.bool (fullB a who plan))] := by
  have hno := ha.owner
  unfold LnI at hno
  have hP := isPlan_fn a ha hnl who plan hp
  unfold dAr at hP ⊢
  refine Fn_of (fn := Try.f28) (ts := [6]) Try.func28 (by kernel_rfl) rfl rfl (by rw [Try.ntmps28]; exact Nat.le_of_ble_eq_true rfl) rfl (by simp only [szA, List.mem_cons, List.not_mem_nil, or_false, forall_eq_or_imp, forall_eq, VT.cells, szL]; try decide) ?_
  rw [Try.ntmps28]
  simp only [push_cast, ↓brB_true, ↓brB_false, ↓reduceIte, Nat.reduceMod, Nat.reduceMul, Nat.reduceDiv, Nat.reduceAdd, Nat.reduceSub, Nat.reduceEqDiff, Nat.reduceBEq, Nat.reduceLT, Nat.reduceLeDiff, reduceCtorEq]
  refine awp_seq' fun K hK => ?_
  refine awp_region tyOk tyPos [] rfl ?_
  simp only [push_cast, ↓brB_true, ↓brB_false, ↓reduceIte, Nat.reduceMod, Nat.reduceMul, Nat.reduceDiv, Nat.reduceAdd, Nat.reduceSub, Nat.reduceEqDiff, Nat.reduceBEq, Nat.reduceLT, Nat.reduceLeDiff, reduceCtorEq]
  repeat' apply And.intro
  all_goals first | exact True.intro | exact rfl | omega | with_reducible assumption | (simp only [List.length_set, List.length_append, List.length_replicate, List.length_cons, List.length_nil]; omega) | skip
  all_goals first | (refine hK _ ?_; clear hK K) | (simp only [push_cast]; done)
  refine awp_seq' fun K1 hK1 => ?_
  refine awp_seq' fun K hK => ?_
  refine awp_region tyOk tyPos [] rfl ?_
  all_goals refine aops_cut 4 fun K9 hK9 => ?_
  all_goals simp only [push_cast, ↓brB_true, ↓brB_false, ↓reduceIte, Nat.reduceMod, Nat.reduceMul, Nat.reduceDiv, Nat.reduceAdd, Nat.reduceSub, Nat.reduceEqDiff, Nat.reduceBEq, Nat.reduceLT, Nat.reduceLeDiff, reduceCtorEq]
  all_goals repeat' (first | (apply brB_mk <;> (intro hg; (try simp only [push_cast] at hg))) | (refine ⟨_, hP, ?_⟩; simp only [push_cast, ↓brB_true, ↓brB_false, ↓reduceIte, Nat.reduceMod, Nat.reduceMul, Nat.reduceDiv, Nat.reduceAdd, Nat.reduceSub, Nat.reduceEqDiff, Nat.reduceBEq, Nat.reduceLT, Nat.reduceLeDiff, reduceCtorEq]) | apply And.intro | (intro hg; (try simp only [push_cast] at hg)))
  all_goals first | exact True.intro | exact rfl | contradiction | omega | with_reducible assumption | skip
  all_goals first | (refine hK9 _ ?_; clear hK9 K9) | (simp only [push_cast]; done)
  all_goals simp only [push_cast, ↓brB_true, ↓brB_false, ↓reduceIte, Nat.reduceMod, Nat.reduceMul, Nat.reduceDiv, Nat.reduceAdd, Nat.reduceSub, Nat.reduceEqDiff, Nat.reduceBEq, Nat.reduceLT, Nat.reduceLeDiff, reduceCtorEq]
  all_goals repeat' (first | (apply brB_mk <;> (intro hg; (try simp only [push_cast] at hg))) | (refine ⟨_, hP, ?_⟩; simp only [push_cast, ↓brB_true, ↓brB_false, ↓reduceIte, Nat.reduceMod, Nat.reduceMul, Nat.reduceDiv, Nat.reduceAdd, Nat.reduceSub, Nat.reduceEqDiff, Nat.reduceBEq, Nat.reduceLT, Nat.reduceLeDiff, reduceCtorEq]) | apply And.intro | (intro hg; (try simp only [push_cast] at hg)))
  all_goals first | exact True.intro | exact rfl | contradiction | omega | with_reducible assumption | skip
  all_goals first | (refine hK _ ?_; clear hK K) | (simp only [push_cast]; done)
  refine awp_cond rfl (fun hc => ?_) (fun hc => ?_) <;> (try simp only [push_cast] at hc)
  ·
    refine awp_seq' fun K hK => ?_
    refine awp_region tyOk tyPos [] rfl ?_
    simp only [push_cast, ↓brB_true, ↓brB_false, ↓reduceIte, Nat.reduceMod, Nat.reduceMul, Nat.reduceDiv, Nat.reduceAdd, Nat.reduceSub, Nat.reduceEqDiff, Nat.reduceBEq, Nat.reduceLT, Nat.reduceLeDiff, reduceCtorEq]
    repeat' apply And.intro
    all_goals first | exact True.intro | exact rfl | omega | with_reducible assumption | (simp only [List.length_set, List.length_append, List.length_replicate, List.length_cons, List.length_nil]; omega) | skip
    all_goals first | (refine hK _ ?_; clear hK K) | (simp only [push_cast]; done)
    refine awp_ret ?_
    (try simp only [AThen, ABlk])
    refine ⟨Or.inl rfl, ?_⟩
    simp only [RetOk, push_cast, ↓brB_true, ↓brB_false, ↓reduceIte, Nat.reduceMod, Nat.reduceMul, Nat.reduceDiv, Nat.reduceAdd, Nat.reduceSub, Nat.reduceEqDiff, Nat.reduceBEq, Nat.reduceLT, Nat.reduceLeDiff, reduceCtorEq]
    symm
    exact fullB_no1 (by with_reducible assumption)
  ·
    refine awp_skip ?_
    (try simp only [AThen, ABlk, reduceIte, Nat.reduceEqDiff]); refine hK1 _ ?_
    refine awp_seq' fun K2 hK2 => ?_
    have hpok : planB a who plan = true := by with_reducible assumption
    have hpn := (planB_at hpok).1
    refine awp_seq' fun K hK => ?_
    refine awp_region tyOk tyPos [] rfl ?_
    simp only [push_cast, ↓brB_true, ↓brB_false, ↓reduceIte, Nat.reduceMod, Nat.reduceMul, Nat.reduceDiv, Nat.reduceAdd, Nat.reduceSub, Nat.reduceEqDiff, Nat.reduceBEq, Nat.reduceLT, Nat.reduceLeDiff, reduceCtorEq]
    repeat' apply And.intro
    all_goals first | exact True.intro | exact rfl | omega | with_reducible assumption | (simp only [List.length_set, List.length_append, List.length_replicate, List.length_cons, List.length_nil]; omega) | skip
    all_goals first | (refine hK _ ?_; clear hK K) | (simp only [push_cast]; done)
    refine awp_block ?_
    refine awp_loopU [6,7,8,16,17,18,19,20,21,22,23,24,25,26,27,28,29,30,31,32] [] (fun (k : Nat) => [(16, .int .i64 k)]) (fun k => []) (fun k => []) (fun k => k ≤ plan.length ∧ ∀ j, j < k → ¬ (gi a.owner j = who ∧ gi plan j < 0)) (fun k => plan.length - k) 0 ?_ ⟨by omega, fun j hj => by omega⟩ ?_
    ·
      refine cov_of rfl ?_ ?_ ?_ <;> simp only [covS, covL, push_cast, ↓brB_true, ↓brB_false, ↓reduceIte, Nat.reduceMod, Nat.reduceMul, Nat.reduceDiv, Nat.reduceAdd, Nat.reduceSub, Nat.reduceEqDiff, Nat.reduceBEq, Nat.reduceLT, Nat.reduceLeDiff, reduceCtorEq]
    · rintro k ⟨hk, hall⟩ KL0 hL0
      skip
      simp only [push_cast, ↓brB_true, ↓brB_false, ↓reduceIte, Nat.reduceMod, Nat.reduceMul, Nat.reduceDiv, Nat.reduceAdd, Nat.reduceSub, Nat.reduceEqDiff, Nat.reduceBEq, Nat.reduceLT, Nat.reduceLeDiff, reduceCtorEq]
      refine awp_seq' fun K hK => ?_
      refine awp_region tyOk tyPos [] rfl ?_
      simp only [push_cast, ↓brB_true, ↓brB_false, ↓reduceIte, Nat.reduceMod, Nat.reduceMul, Nat.reduceDiv, Nat.reduceAdd, Nat.reduceSub, Nat.reduceEqDiff, Nat.reduceBEq, Nat.reduceLT, Nat.reduceLeDiff, reduceCtorEq]
      repeat' apply And.intro
      all_goals first | exact True.intro | exact rfl | omega | with_reducible assumption | (simp only [List.length_set, List.length_append, List.length_replicate, List.length_cons, List.length_nil]; omega) | skip
      all_goals first | (refine hK _ ?_; clear hK K) | (simp only [push_cast]; done)
      refine awp_seq' fun K3 hK3 => ?_
      refine awp_cond rfl (fun hc => ?_) (fun hc => ?_) <;> (try simp only [push_cast] at hc)
      ·
        refine awp_skip ?_
        (try simp only [AThen, ABlk, reduceIte, Nat.reduceEqDiff]); refine hK3 _ ?_
        refine awp_seq' fun K4 hK4 => ?_
        refine awp_block ?_
        refine awp_seq' fun K hK => ?_
        refine awp_region tyOk tyPos [] rfl ?_
        simp only [push_cast, ↓brB_true, ↓brB_false, ↓reduceIte, Nat.reduceMod, Nat.reduceMul, Nat.reduceDiv, Nat.reduceAdd, Nat.reduceSub, Nat.reduceEqDiff, Nat.reduceBEq, Nat.reduceLT, Nat.reduceLeDiff, reduceCtorEq]
        repeat' apply And.intro
        all_goals first | exact True.intro | exact rfl | omega | with_reducible assumption | (simp only [List.length_set, List.length_append, List.length_replicate, List.length_cons, List.length_nil]; omega) | skip
        all_goals first | (refine hK _ ?_; clear hK K) | (simp only [push_cast]; done)
        refine awp_seq' fun K hK => ?_
        refine awp_regionN false tyOk tyPos ?_ rfl ?_
        · kernel_rfl
        all_goals simp only [push_cast, ↓brB_true, ↓brB_false, ↓reduceIte, Nat.reduceMod, Nat.reduceMul, Nat.reduceDiv, Nat.reduceAdd, Nat.reduceSub, Nat.reduceEqDiff, Nat.reduceBEq, Nat.reduceLT, Nat.reduceLeDiff, reduceCtorEq]
        all_goals repeat' (first | (apply brB_mk <;> (intro hg; (try simp only [push_cast] at hg))) | apply And.intro | (intro hg; (try simp only [push_cast] at hg)))
        all_goals first | exact True.intro | exact rfl | contradiction | omega | with_reducible assumption | skip
        all_goals first | (refine hK _ ?_; clear hK K) | (simp only [push_cast]; done)
        all_goals refine awp_cond rfl (fun hc => ?_) (fun hc => ?_)
        all_goals (first | (cases hc; done) | skip)
        all_goals (try simp only [push_cast] at hc)
        all_goals first
          | (
              refine awp_skip ?_
              (try simp only [AThen, ABlk, reduceIte, Nat.reduceEqDiff]); refine hK4 _ ?_
              refine awp_region tyOk tyPos [] rfl ?_
              simp only [push_cast, ↓brB_true, ↓brB_false, ↓reduceIte, Nat.reduceMod, Nat.reduceMul, Nat.reduceDiv, Nat.reduceAdd, Nat.reduceSub, Nat.reduceEqDiff, Nat.reduceBEq, Nat.reduceLT, Nat.reduceLeDiff, reduceCtorEq]
              repeat' apply And.intro
              all_goals first | exact True.intro | exact rfl | omega | with_reducible assumption | (simp only [List.length_set, List.length_append, List.length_replicate, List.length_cons, List.length_nil]; omega) | skip
              refine hL0 _ ⟨k + 1, ⟨by omega, fun j hj => (by
                  by_cases hjk : j = k
                  · subst hjk; omega
                  · exact hall j (by omega))⟩, by omega, ?_⟩
              refine cov_of rfl ?_ ?_ ?_ <;> simp only [covS, covL, push_cast, ↓brB_true, ↓brB_false, ↓reduceIte, Nat.reduceMod, Nat.reduceMul, Nat.reduceDiv, Nat.reduceAdd, Nat.reduceSub, Nat.reduceEqDiff, Nat.reduceBEq, Nat.reduceLT, Nat.reduceLeDiff, reduceCtorEq]
              done)
          | (
              refine awp_seq' fun K hK => ?_
              refine awp_region tyOk tyPos [] rfl ?_
              simp only [push_cast, ↓brB_true, ↓brB_false, ↓reduceIte, Nat.reduceMod, Nat.reduceMul, Nat.reduceDiv, Nat.reduceAdd, Nat.reduceSub, Nat.reduceEqDiff, Nat.reduceBEq, Nat.reduceLT, Nat.reduceLeDiff, reduceCtorEq]
              repeat' apply And.intro
              all_goals first | exact True.intro | exact rfl | omega | with_reducible assumption | (simp only [List.length_set, List.length_append, List.length_replicate, List.length_cons, List.length_nil]; omega) | skip
              all_goals first | (refine hK _ ?_; clear hK K) | (simp only [push_cast]; done)
              refine awp_ret ?_
              (try simp only [AThen, ABlk])
              refine ⟨Or.inl rfl, ?_⟩
              simp only [RetOk, push_cast, ↓brB_true, ↓brB_false, ↓reduceIte, Nat.reduceMod, Nat.reduceMul, Nat.reduceDiv, Nat.reduceAdd, Nat.reduceSub, Nat.reduceEqDiff, Nat.reduceBEq, Nat.reduceLT, Nat.reduceLeDiff, reduceCtorEq]
              symm
              exact fullB_no2 (v := k) (by omega) (by omega) (by omega)
              done)
      ·
        refine awp_exit ?_
        (try simp only [AThen, ABlk, reduceIte, Nat.reduceEqDiff]); refine hK2 _ ?_
        refine awp_seq' fun K hK => ?_
        refine awp_region tyOk tyPos [] rfl ?_
        simp only [push_cast, ↓brB_true, ↓brB_false, ↓reduceIte, Nat.reduceMod, Nat.reduceMul, Nat.reduceDiv, Nat.reduceAdd, Nat.reduceSub, Nat.reduceEqDiff, Nat.reduceBEq, Nat.reduceLT, Nat.reduceLeDiff, reduceCtorEq]
        repeat' apply And.intro
        all_goals first | exact True.intro | exact rfl | omega | with_reducible assumption | (simp only [List.length_set, List.length_append, List.length_replicate, List.length_cons, List.length_nil]; omega) | skip
        all_goals first | (refine hK _ ?_; clear hK K) | (simp only [push_cast]; done)
        refine awp_ret ?_
        (try simp only [AThen, ABlk])
        refine ⟨Or.inl rfl, ?_⟩
        simp only [RetOk, push_cast, ↓brB_true, ↓brB_false, ↓reduceIte, Nat.reduceMod, Nat.reduceMul, Nat.reduceDiv, Nat.reduceAdd, Nat.reduceSub, Nat.reduceEqDiff, Nat.reduceBEq, Nat.reduceLT, Nat.reduceLeDiff, reduceCtorEq]
        symm
        exact fullB_yes (by with_reducible assumption) fun v hv => hall v (by omega)
set_option maxRecDepth 20000 in
set_option maxHeartbeats 4000000 in
theorem FullIn_fn (a : Ar) (ha : a.Ln 1048576) (hok : arenaB a = true) (who : Int) (hw : 0 ≤ who ∧ who ≤ 1) (plan : List Int) (hp : plan.length ≤ 1048576) : Fn Try.prog tyT 23 [.agg (dAr a), .c (.int .i64 who), .c (DI plan)] [.c (.bool (fullB a who plan))] := by
  have hno := ha.owner
  unfold LnI at hno
  have hP := PlanOkS_fn a ha who plan hp
  rw [planOk_eq hok hw] at hP
  unfold dAr at hP ⊢
  refine Fn_of (fn := Try.f23) (ts := [6]) Try.func23 (by kernel_rfl) rfl rfl (by rw [Try.ntmps23]; exact Nat.le_of_ble_eq_true rfl) rfl (by simp only [szA, List.mem_cons, List.not_mem_nil, or_false, forall_eq_or_imp, forall_eq, VT.cells, szL]; try decide) ?_
  rw [Try.ntmps23]
  simp only [push_cast, ↓brB_true, ↓brB_false, ↓reduceIte, Nat.reduceMod, Nat.reduceMul, Nat.reduceDiv, Nat.reduceAdd, Nat.reduceSub, Nat.reduceEqDiff, Nat.reduceBEq, Nat.reduceLT, Nat.reduceLeDiff, reduceCtorEq]
  refine awp_seq' fun K hK => ?_
  refine awp_region tyOk tyPos [] rfl ?_
  simp only [push_cast, ↓brB_true, ↓brB_false, ↓reduceIte, Nat.reduceMod, Nat.reduceMul, Nat.reduceDiv, Nat.reduceAdd, Nat.reduceSub, Nat.reduceEqDiff, Nat.reduceBEq, Nat.reduceLT, Nat.reduceLeDiff, reduceCtorEq]
  repeat' apply And.intro
  all_goals first | exact True.intro | exact rfl | omega | with_reducible assumption | (simp only [List.length_set, List.length_append, List.length_replicate, List.length_cons, List.length_nil]; omega) | skip
  all_goals first | (refine hK _ ?_; clear hK K) | (simp only [push_cast]; done)
  refine awp_seq' fun K1 hK1 => ?_
  refine awp_seq' fun K hK => ?_
  refine awp_region tyOk tyPos [] rfl ?_
  all_goals refine aops_cut 4 fun K9 hK9 => ?_
  all_goals simp only [push_cast, ↓brB_true, ↓brB_false, ↓reduceIte, Nat.reduceMod, Nat.reduceMul, Nat.reduceDiv, Nat.reduceAdd, Nat.reduceSub, Nat.reduceEqDiff, Nat.reduceBEq, Nat.reduceLT, Nat.reduceLeDiff, reduceCtorEq]
  all_goals repeat' (first | (apply brB_mk <;> (intro hg; (try simp only [push_cast] at hg))) | (refine ⟨_, hP, ?_⟩; simp only [push_cast, ↓brB_true, ↓brB_false, ↓reduceIte, Nat.reduceMod, Nat.reduceMul, Nat.reduceDiv, Nat.reduceAdd, Nat.reduceSub, Nat.reduceEqDiff, Nat.reduceBEq, Nat.reduceLT, Nat.reduceLeDiff, reduceCtorEq]) | apply And.intro | (intro hg; (try simp only [push_cast] at hg)))
  all_goals first | exact True.intro | exact rfl | contradiction | omega | with_reducible assumption | skip
  all_goals first | (refine hK9 _ ?_; clear hK9 K9) | (simp only [push_cast]; done)
  all_goals simp only [push_cast, ↓brB_true, ↓brB_false, ↓reduceIte, Nat.reduceMod, Nat.reduceMul, Nat.reduceDiv, Nat.reduceAdd, Nat.reduceSub, Nat.reduceEqDiff, Nat.reduceBEq, Nat.reduceLT, Nat.reduceLeDiff, reduceCtorEq]
  all_goals repeat' (first | (apply brB_mk <;> (intro hg; (try simp only [push_cast] at hg))) | (refine ⟨_, hP, ?_⟩; simp only [push_cast, ↓brB_true, ↓brB_false, ↓reduceIte, Nat.reduceMod, Nat.reduceMul, Nat.reduceDiv, Nat.reduceAdd, Nat.reduceSub, Nat.reduceEqDiff, Nat.reduceBEq, Nat.reduceLT, Nat.reduceLeDiff, reduceCtorEq]) | apply And.intro | (intro hg; (try simp only [push_cast] at hg)))
  all_goals first | exact True.intro | exact rfl | contradiction | omega | with_reducible assumption | skip
  all_goals first | (refine hK _ ?_; clear hK K) | (simp only [push_cast]; done)
  refine awp_cond rfl (fun hc => ?_) (fun hc => ?_) <;> (try simp only [push_cast] at hc)
  ·
    refine awp_seq' fun K hK => ?_
    refine awp_region tyOk tyPos [] rfl ?_
    simp only [push_cast, ↓brB_true, ↓brB_false, ↓reduceIte, Nat.reduceMod, Nat.reduceMul, Nat.reduceDiv, Nat.reduceAdd, Nat.reduceSub, Nat.reduceEqDiff, Nat.reduceBEq, Nat.reduceLT, Nat.reduceLeDiff, reduceCtorEq]
    repeat' apply And.intro
    all_goals first | exact True.intro | exact rfl | omega | with_reducible assumption | (simp only [List.length_set, List.length_append, List.length_replicate, List.length_cons, List.length_nil]; omega) | skip
    all_goals first | (refine hK _ ?_; clear hK K) | (simp only [push_cast]; done)
    refine awp_ret ?_
    (try simp only [AThen, ABlk])
    refine ⟨Or.inl rfl, ?_⟩
    simp only [RetOk, push_cast, ↓brB_true, ↓brB_false, ↓reduceIte, Nat.reduceMod, Nat.reduceMul, Nat.reduceDiv, Nat.reduceAdd, Nat.reduceSub, Nat.reduceEqDiff, Nat.reduceBEq, Nat.reduceLT, Nat.reduceLeDiff, reduceCtorEq]
    symm
    exact fullB_no1 (by with_reducible assumption)
  ·
    refine awp_skip ?_
    (try simp only [AThen, ABlk, reduceIte, Nat.reduceEqDiff]); refine hK1 _ ?_
    refine awp_seq' fun K2 hK2 => ?_
    have hpok : planB a who plan = true := by with_reducible assumption
    have hpn := (planB_at hpok).1
    refine awp_seq' fun K hK => ?_
    refine awp_region tyOk tyPos [] rfl ?_
    simp only [push_cast, ↓brB_true, ↓brB_false, ↓reduceIte, Nat.reduceMod, Nat.reduceMul, Nat.reduceDiv, Nat.reduceAdd, Nat.reduceSub, Nat.reduceEqDiff, Nat.reduceBEq, Nat.reduceLT, Nat.reduceLeDiff, reduceCtorEq]
    repeat' apply And.intro
    all_goals first | exact True.intro | exact rfl | omega | with_reducible assumption | (simp only [List.length_set, List.length_append, List.length_replicate, List.length_cons, List.length_nil]; omega) | skip
    all_goals first | (refine hK _ ?_; clear hK K) | (simp only [push_cast]; done)
    refine awp_block ?_
    refine awp_loopU [6,7,13,14,15,16,17,18,19,20,21,22,23,24,25,26,27,28,29,30,31,32] [] (fun (k : Nat) => [(7, .int .i64 k)]) (fun k => []) (fun k => []) (fun k => k ≤ plan.length ∧ ∀ j, j < k → ¬ (gi a.owner j = who ∧ gi plan j < 0)) (fun k => plan.length - k) 0 ?_ ⟨by omega, fun j hj => by omega⟩ ?_
    ·
      refine cov_of rfl ?_ ?_ ?_ <;> simp only [covS, covL, push_cast, ↓brB_true, ↓brB_false, ↓reduceIte, Nat.reduceMod, Nat.reduceMul, Nat.reduceDiv, Nat.reduceAdd, Nat.reduceSub, Nat.reduceEqDiff, Nat.reduceBEq, Nat.reduceLT, Nat.reduceLeDiff, reduceCtorEq]
    · rintro k ⟨hk, hall⟩ KL0 hL0
      skip
      simp only [push_cast, ↓brB_true, ↓brB_false, ↓reduceIte, Nat.reduceMod, Nat.reduceMul, Nat.reduceDiv, Nat.reduceAdd, Nat.reduceSub, Nat.reduceEqDiff, Nat.reduceBEq, Nat.reduceLT, Nat.reduceLeDiff, reduceCtorEq]
      refine awp_seq' fun K3 hK3 => ?_
      refine awp_seq' fun K hK => ?_
      refine awp_region tyOk tyPos [] rfl ?_
      simp only [push_cast, ↓brB_true, ↓brB_false, ↓reduceIte, Nat.reduceMod, Nat.reduceMul, Nat.reduceDiv, Nat.reduceAdd, Nat.reduceSub, Nat.reduceEqDiff, Nat.reduceBEq, Nat.reduceLT, Nat.reduceLeDiff, reduceCtorEq]
      repeat' apply And.intro
      all_goals first | exact True.intro | exact rfl | omega | with_reducible assumption | (simp only [List.length_set, List.length_append, List.length_replicate, List.length_cons, List.length_nil]; omega) | skip
      all_goals first | (refine hK _ ?_; clear hK K) | (simp only [push_cast]; done)
      refine awp_cond rfl (fun hc => ?_) (fun hc => ?_) <;> (try simp only [push_cast] at hc)
      ·
        refine awp_skip ?_
        (try simp only [AThen, ABlk, reduceIte, Nat.reduceEqDiff]); refine hK3 _ ?_
        refine awp_seq' fun K4 hK4 => ?_
        refine awp_block ?_
        refine awp_seq' fun K hK => ?_
        refine awp_regionN false tyOk tyPos ?_ rfl ?_
        · kernel_rfl
        all_goals simp only [push_cast, ↓brB_true, ↓brB_false, ↓reduceIte, Nat.reduceMod, Nat.reduceMul, Nat.reduceDiv, Nat.reduceAdd, Nat.reduceSub, Nat.reduceEqDiff, Nat.reduceBEq, Nat.reduceLT, Nat.reduceLeDiff, reduceCtorEq]
        all_goals repeat' (first | (apply brB_mk <;> (intro hg; (try simp only [push_cast] at hg))) | apply And.intro | (intro hg; (try simp only [push_cast] at hg)))
        all_goals first | exact True.intro | exact rfl | contradiction | omega | with_reducible assumption | skip
        all_goals first | (refine hK _ ?_; clear hK K) | (simp only [push_cast]; done)
        all_goals refine awp_cond rfl (fun hc => ?_) (fun hc => ?_)
        all_goals (first | (cases hc; done) | skip)
        all_goals (try simp only [push_cast] at hc)
        all_goals first
          | (
              refine awp_skip ?_
              (try simp only [AThen, ABlk, reduceIte, Nat.reduceEqDiff]); refine hK4 _ ?_
              refine awp_region tyOk tyPos [] rfl ?_
              simp only [push_cast, ↓brB_true, ↓brB_false, ↓reduceIte, Nat.reduceMod, Nat.reduceMul, Nat.reduceDiv, Nat.reduceAdd, Nat.reduceSub, Nat.reduceEqDiff, Nat.reduceBEq, Nat.reduceLT, Nat.reduceLeDiff, reduceCtorEq]
              repeat' apply And.intro
              all_goals first | exact True.intro | exact rfl | omega | with_reducible assumption | (simp only [List.length_set, List.length_append, List.length_replicate, List.length_cons, List.length_nil]; omega) | skip
              refine hL0 _ ⟨k + 1, ⟨by omega, fun j hj => (by
                  by_cases hjk : j = k
                  · subst hjk; omega
                  · exact hall j (by omega))⟩, by omega, ?_⟩
              refine cov_of rfl ?_ ?_ ?_ <;> simp only [covS, covL, push_cast, ↓brB_true, ↓brB_false, ↓reduceIte, Nat.reduceMod, Nat.reduceMul, Nat.reduceDiv, Nat.reduceAdd, Nat.reduceSub, Nat.reduceEqDiff, Nat.reduceBEq, Nat.reduceLT, Nat.reduceLeDiff, reduceCtorEq]
              done)
          | (
              refine awp_seq' fun K hK => ?_
              refine awp_region tyOk tyPos [] rfl ?_
              simp only [push_cast, ↓brB_true, ↓brB_false, ↓reduceIte, Nat.reduceMod, Nat.reduceMul, Nat.reduceDiv, Nat.reduceAdd, Nat.reduceSub, Nat.reduceEqDiff, Nat.reduceBEq, Nat.reduceLT, Nat.reduceLeDiff, reduceCtorEq]
              repeat' apply And.intro
              all_goals first | exact True.intro | exact rfl | omega | with_reducible assumption | (simp only [List.length_set, List.length_append, List.length_replicate, List.length_cons, List.length_nil]; omega) | skip
              all_goals first | (refine hK _ ?_; clear hK K) | (simp only [push_cast]; done)
              refine awp_ret ?_
              (try simp only [AThen, ABlk])
              refine ⟨Or.inl rfl, ?_⟩
              simp only [RetOk, push_cast, ↓brB_true, ↓brB_false, ↓reduceIte, Nat.reduceMod, Nat.reduceMul, Nat.reduceDiv, Nat.reduceAdd, Nat.reduceSub, Nat.reduceEqDiff, Nat.reduceBEq, Nat.reduceLT, Nat.reduceLeDiff, reduceCtorEq]
              symm
              exact fullB_no2 (v := k) (by omega) (by omega) (by omega)
              done)
      ·
        refine awp_exit ?_
        (try simp only [AThen, ABlk, reduceIte, Nat.reduceEqDiff]); refine hK2 _ ?_
        refine awp_seq' fun K hK => ?_
        refine awp_region tyOk tyPos [] rfl ?_
        simp only [push_cast, ↓brB_true, ↓brB_false, ↓reduceIte, Nat.reduceMod, Nat.reduceMul, Nat.reduceDiv, Nat.reduceAdd, Nat.reduceSub, Nat.reduceEqDiff, Nat.reduceBEq, Nat.reduceLT, Nat.reduceLeDiff, reduceCtorEq]
        repeat' apply And.intro
        all_goals first | exact True.intro | exact rfl | omega | with_reducible assumption | (simp only [List.length_set, List.length_append, List.length_replicate, List.length_cons, List.length_nil]; omega) | skip
        all_goals first | (refine hK _ ?_; clear hK K) | (simp only [push_cast]; done)
        refine awp_ret ?_
        (try simp only [AThen, ABlk])
        refine ⟨Or.inl rfl, ?_⟩
        simp only [RetOk, push_cast, ↓brB_true, ↓brB_false, ↓reduceIte, Nat.reduceMod, Nat.reduceMul, Nat.reduceDiv, Nat.reduceAdd, Nat.reduceSub, Nat.reduceEqDiff, Nat.reduceBEq, Nat.reduceLT, Nat.reduceLeDiff, reduceCtorEq]
        symm
        exact fullB_yes (by with_reducible assumption) fun v hv => hall v (by omega)
set_option maxRecDepth 20000 in
set_option maxHeartbeats 4000000 in
theorem MemoryPlayI_fn (a : Ar) (ha : a.Ln 1048576) (m : Me) (hm : m.Ln 1048576) (odd : List Int) (ho : LnI 1048576 odd) (start : Int) : Fn Try.prog tyT 10 [.agg (dAr a), .agg (dMe m), .c (DI odd), .c (.int .i64 start)] [.agg (dLs (mpRes a m odd start).1), .c (.bool (mpRes a m odd start).2)] := by
  unfold LnI at ho
  have hno := ha.owner
  unfold LnI at hno
  have hmr : ∀ s, (gl m.next s).length ≤ 1048576 := fun s => gl_le hm.next s
  have hmc : ∀ s, (gl m.choice s).length ≤ 1048576 := fun s => gl_le hm.choice s
  have hm1 := hm.next.1
  have hm2 := hm.choice.1
  generalize hR : mpRes a m odd start = R
  have hA := ArenaOkI_fn a ha
  have hM := fun h => isMemory_fn a ha h m hm
  have hF := fun h => isFull_fn a ha h 1 odd ho
  have hV := hasVertex_fn a start
  unfold dAr at hA hM hF hV
  unfold dMe at hM
  unfold dAr dMe dLs
  refine Fn_ofR (fn := Try.f10) (rs := [.cell 8 31, .tmp 9]) tyOk tyPos Try.func10 (by kernel_rfl) rfl rfl (by rw [Try.ntmps10]; exact Nat.le_of_ble_eq_true rfl) rfl (by simp only [szA, List.mem_cons, List.not_mem_nil, or_false, forall_eq_or_imp, forall_eq, VT.cells, szL]; try decide) ?_
  rw [Try.ntmps10]
  simp only [push_cast, ↓brB_true, ↓brB_false, ↓reduceIte, Nat.reduceMod, Nat.reduceMul, Nat.reduceDiv, Nat.reduceAdd, Nat.reduceSub, Nat.reduceEqDiff, Nat.reduceBEq, Nat.reduceLT, Nat.reduceLeDiff, reduceCtorEq]
  refine awp_seq' fun K hK => ?_
  refine awp_region tyOk tyPos [] rfl ?_
  all_goals simp only [push_cast, ↓brB_true, ↓brB_false, ↓reduceIte, Nat.reduceMod, Nat.reduceMul, Nat.reduceDiv, Nat.reduceAdd, Nat.reduceSub, Nat.reduceEqDiff, Nat.reduceBEq, Nat.reduceLT, Nat.reduceLeDiff, reduceCtorEq]
  all_goals repeat' (first | (apply brB_mk <;> (intro hg; (try simp only [push_cast] at hg))) | apply And.intro | (intro hg; (try simp only [push_cast] at hg)))
  all_goals first | exact True.intro | exact rfl | contradiction | omega | with_reducible assumption | (exact getE_dII (by omega)) | skip
  all_goals first | (refine hK _ ?_; clear hK K) | (simp only [push_cast]; done)
  refine awp_seq' fun K1 hK1 => ?_
  refine awp_seq' fun K hK => ?_
  refine awp_regionN false tyOk tyPos ?_ rfl ?_
  · kernel_rfl
  all_goals refine seqE_cut 2 fun K9 hK9 => ?_
  all_goals simp only [push_cast, ↓brB_true, ↓brB_false, ↓reduceIte, Nat.reduceMod, Nat.reduceMul, Nat.reduceDiv, Nat.reduceAdd, Nat.reduceSub, Nat.reduceEqDiff, Nat.reduceBEq, Nat.reduceLT, Nat.reduceLeDiff, reduceCtorEq]
  all_goals repeat' (first | (apply brB_mk <;> (intro hg; (try simp only [push_cast] at hg))) | (refine ⟨_, hA, ?_⟩; simp only [push_cast, ↓brB_true, ↓brB_false, ↓reduceIte, Nat.reduceMod, Nat.reduceMul, Nat.reduceDiv, Nat.reduceAdd, Nat.reduceSub, Nat.reduceEqDiff, Nat.reduceBEq, Nat.reduceLT, Nat.reduceLeDiff, reduceCtorEq]) | (refine ⟨_, hM (arenaB_len (by with_reducible assumption)).2.2, ?_⟩; simp only [push_cast, ↓brB_true, ↓brB_false, ↓reduceIte, Nat.reduceMod, Nat.reduceMul, Nat.reduceDiv, Nat.reduceAdd, Nat.reduceSub, Nat.reduceEqDiff, Nat.reduceBEq, Nat.reduceLT, Nat.reduceLeDiff, reduceCtorEq]) | (refine ⟨_, hF (arenaB_len (by with_reducible assumption)).2.2, ?_⟩; simp only [push_cast, ↓brB_true, ↓brB_false, ↓reduceIte, Nat.reduceMod, Nat.reduceMul, Nat.reduceDiv, Nat.reduceAdd, Nat.reduceSub, Nat.reduceEqDiff, Nat.reduceBEq, Nat.reduceLT, Nat.reduceLeDiff, reduceCtorEq]) | (refine ⟨_, hV, ?_⟩; simp only [push_cast, ↓brB_true, ↓brB_false, ↓reduceIte, Nat.reduceMod, Nat.reduceMul, Nat.reduceDiv, Nat.reduceAdd, Nat.reduceSub, Nat.reduceEqDiff, Nat.reduceBEq, Nat.reduceLT, Nat.reduceLeDiff, reduceCtorEq]) | apply And.intro | (intro hg; (try simp only [push_cast] at hg)))
  all_goals first | exact True.intro | exact rfl | contradiction | omega | with_reducible assumption | (exact getE_dII (by omega)) | skip
  all_goals first | (refine hK9 _ ?_; clear hK9 K9) | (simp only [push_cast]; done)
  all_goals refine seqE_cut 5 fun K9 hK9 => ?_
  all_goals simp only [push_cast, ↓brB_true, ↓brB_false, ↓reduceIte, Nat.reduceMod, Nat.reduceMul, Nat.reduceDiv, Nat.reduceAdd, Nat.reduceSub, Nat.reduceEqDiff, Nat.reduceBEq, Nat.reduceLT, Nat.reduceLeDiff, reduceCtorEq]
  all_goals repeat' (first | (apply brB_mk <;> (intro hg; (try simp only [push_cast] at hg))) | (refine ⟨_, hA, ?_⟩; simp only [push_cast, ↓brB_true, ↓brB_false, ↓reduceIte, Nat.reduceMod, Nat.reduceMul, Nat.reduceDiv, Nat.reduceAdd, Nat.reduceSub, Nat.reduceEqDiff, Nat.reduceBEq, Nat.reduceLT, Nat.reduceLeDiff, reduceCtorEq]) | (refine ⟨_, hM (arenaB_len (by with_reducible assumption)).2.2, ?_⟩; simp only [push_cast, ↓brB_true, ↓brB_false, ↓reduceIte, Nat.reduceMod, Nat.reduceMul, Nat.reduceDiv, Nat.reduceAdd, Nat.reduceSub, Nat.reduceEqDiff, Nat.reduceBEq, Nat.reduceLT, Nat.reduceLeDiff, reduceCtorEq]) | (refine ⟨_, hF (arenaB_len (by with_reducible assumption)).2.2, ?_⟩; simp only [push_cast, ↓brB_true, ↓brB_false, ↓reduceIte, Nat.reduceMod, Nat.reduceMul, Nat.reduceDiv, Nat.reduceAdd, Nat.reduceSub, Nat.reduceEqDiff, Nat.reduceBEq, Nat.reduceLT, Nat.reduceLeDiff, reduceCtorEq]) | (refine ⟨_, hV, ?_⟩; simp only [push_cast, ↓brB_true, ↓brB_false, ↓reduceIte, Nat.reduceMod, Nat.reduceMul, Nat.reduceDiv, Nat.reduceAdd, Nat.reduceSub, Nat.reduceEqDiff, Nat.reduceBEq, Nat.reduceLT, Nat.reduceLeDiff, reduceCtorEq]) | apply And.intro | (intro hg; (try simp only [push_cast] at hg)))
  all_goals first | exact True.intro | exact rfl | contradiction | omega | with_reducible assumption | (exact getE_dII (by omega)) | skip
  all_goals first | (refine hK9 _ ?_; clear hK9 K9) | (simp only [push_cast]; done)
  all_goals refine seqE_cut 6 fun K9 hK9 => ?_
  all_goals simp only [push_cast, ↓brB_true, ↓brB_false, ↓reduceIte, Nat.reduceMod, Nat.reduceMul, Nat.reduceDiv, Nat.reduceAdd, Nat.reduceSub, Nat.reduceEqDiff, Nat.reduceBEq, Nat.reduceLT, Nat.reduceLeDiff, reduceCtorEq]
  all_goals repeat' (first | (apply brB_mk <;> (intro hg; (try simp only [push_cast] at hg))) | (refine ⟨_, hA, ?_⟩; simp only [push_cast, ↓brB_true, ↓brB_false, ↓reduceIte, Nat.reduceMod, Nat.reduceMul, Nat.reduceDiv, Nat.reduceAdd, Nat.reduceSub, Nat.reduceEqDiff, Nat.reduceBEq, Nat.reduceLT, Nat.reduceLeDiff, reduceCtorEq]) | (refine ⟨_, hM (arenaB_len (by with_reducible assumption)).2.2, ?_⟩; simp only [push_cast, ↓brB_true, ↓brB_false, ↓reduceIte, Nat.reduceMod, Nat.reduceMul, Nat.reduceDiv, Nat.reduceAdd, Nat.reduceSub, Nat.reduceEqDiff, Nat.reduceBEq, Nat.reduceLT, Nat.reduceLeDiff, reduceCtorEq]) | (refine ⟨_, hF (arenaB_len (by with_reducible assumption)).2.2, ?_⟩; simp only [push_cast, ↓brB_true, ↓brB_false, ↓reduceIte, Nat.reduceMod, Nat.reduceMul, Nat.reduceDiv, Nat.reduceAdd, Nat.reduceSub, Nat.reduceEqDiff, Nat.reduceBEq, Nat.reduceLT, Nat.reduceLeDiff, reduceCtorEq]) | (refine ⟨_, hV, ?_⟩; simp only [push_cast, ↓brB_true, ↓brB_false, ↓reduceIte, Nat.reduceMod, Nat.reduceMul, Nat.reduceDiv, Nat.reduceAdd, Nat.reduceSub, Nat.reduceEqDiff, Nat.reduceBEq, Nat.reduceLT, Nat.reduceLeDiff, reduceCtorEq]) | apply And.intro | (intro hg; (try simp only [push_cast] at hg)))
  all_goals first | exact True.intro | exact rfl | contradiction | omega | with_reducible assumption | (exact getE_dII (by omega)) | skip
  all_goals first | (refine hK9 _ ?_; clear hK9 K9) | (simp only [push_cast]; done)
  all_goals refine seqE_cut 6 fun K9 hK9 => ?_
  all_goals simp only [push_cast, ↓brB_true, ↓brB_false, ↓reduceIte, Nat.reduceMod, Nat.reduceMul, Nat.reduceDiv, Nat.reduceAdd, Nat.reduceSub, Nat.reduceEqDiff, Nat.reduceBEq, Nat.reduceLT, Nat.reduceLeDiff, reduceCtorEq]
  all_goals repeat' (first | (apply brB_mk <;> (intro hg; (try simp only [push_cast] at hg))) | (refine ⟨_, hA, ?_⟩; simp only [push_cast, ↓brB_true, ↓brB_false, ↓reduceIte, Nat.reduceMod, Nat.reduceMul, Nat.reduceDiv, Nat.reduceAdd, Nat.reduceSub, Nat.reduceEqDiff, Nat.reduceBEq, Nat.reduceLT, Nat.reduceLeDiff, reduceCtorEq]) | (refine ⟨_, hM (arenaB_len (by with_reducible assumption)).2.2, ?_⟩; simp only [push_cast, ↓brB_true, ↓brB_false, ↓reduceIte, Nat.reduceMod, Nat.reduceMul, Nat.reduceDiv, Nat.reduceAdd, Nat.reduceSub, Nat.reduceEqDiff, Nat.reduceBEq, Nat.reduceLT, Nat.reduceLeDiff, reduceCtorEq]) | (refine ⟨_, hF (arenaB_len (by with_reducible assumption)).2.2, ?_⟩; simp only [push_cast, ↓brB_true, ↓brB_false, ↓reduceIte, Nat.reduceMod, Nat.reduceMul, Nat.reduceDiv, Nat.reduceAdd, Nat.reduceSub, Nat.reduceEqDiff, Nat.reduceBEq, Nat.reduceLT, Nat.reduceLeDiff, reduceCtorEq]) | (refine ⟨_, hV, ?_⟩; simp only [push_cast, ↓brB_true, ↓brB_false, ↓reduceIte, Nat.reduceMod, Nat.reduceMul, Nat.reduceDiv, Nat.reduceAdd, Nat.reduceSub, Nat.reduceEqDiff, Nat.reduceBEq, Nat.reduceLT, Nat.reduceLeDiff, reduceCtorEq]) | apply And.intro | (intro hg; (try simp only [push_cast] at hg)))
  all_goals first | exact True.intro | exact rfl | contradiction | omega | with_reducible assumption | (exact getE_dII (by omega)) | skip
  all_goals first | (refine hK9 _ ?_; clear hK9 K9) | (simp only [push_cast]; done)
  all_goals simp only [push_cast, ↓brB_true, ↓brB_false, ↓reduceIte, Nat.reduceMod, Nat.reduceMul, Nat.reduceDiv, Nat.reduceAdd, Nat.reduceSub, Nat.reduceEqDiff, Nat.reduceBEq, Nat.reduceLT, Nat.reduceLeDiff, reduceCtorEq]
  all_goals repeat' (first | (apply brB_mk <;> (intro hg; (try simp only [push_cast] at hg))) | (refine ⟨_, hA, ?_⟩; simp only [push_cast, ↓brB_true, ↓brB_false, ↓reduceIte, Nat.reduceMod, Nat.reduceMul, Nat.reduceDiv, Nat.reduceAdd, Nat.reduceSub, Nat.reduceEqDiff, Nat.reduceBEq, Nat.reduceLT, Nat.reduceLeDiff, reduceCtorEq]) | (refine ⟨_, hM (arenaB_len (by with_reducible assumption)).2.2, ?_⟩; simp only [push_cast, ↓brB_true, ↓brB_false, ↓reduceIte, Nat.reduceMod, Nat.reduceMul, Nat.reduceDiv, Nat.reduceAdd, Nat.reduceSub, Nat.reduceEqDiff, Nat.reduceBEq, Nat.reduceLT, Nat.reduceLeDiff, reduceCtorEq]) | (refine ⟨_, hF (arenaB_len (by with_reducible assumption)).2.2, ?_⟩; simp only [push_cast, ↓brB_true, ↓brB_false, ↓reduceIte, Nat.reduceMod, Nat.reduceMul, Nat.reduceDiv, Nat.reduceAdd, Nat.reduceSub, Nat.reduceEqDiff, Nat.reduceBEq, Nat.reduceLT, Nat.reduceLeDiff, reduceCtorEq]) | (refine ⟨_, hV, ?_⟩; simp only [push_cast, ↓brB_true, ↓brB_false, ↓reduceIte, Nat.reduceMod, Nat.reduceMul, Nat.reduceDiv, Nat.reduceAdd, Nat.reduceSub, Nat.reduceEqDiff, Nat.reduceBEq, Nat.reduceLT, Nat.reduceLeDiff, reduceCtorEq]) | apply And.intro | (intro hg; (try simp only [push_cast] at hg)))
  all_goals first | exact True.intro | exact rfl | contradiction | omega | with_reducible assumption | (exact getE_dII (by omega)) | skip
  all_goals first | (refine hK _ ?_; clear hK K) | (simp only [push_cast]; done)
  all_goals refine awp_cond rfl (fun hc => ?_) (fun hc => ?_)
  all_goals (first | (cases hc; done) | skip)
  all_goals (try simp only [push_cast] at hc)
  all_goals try (
      refine awp_seq' fun K hK => ?_
      refine awp_region tyOk tyPos [] rfl ?_
      all_goals simp only [push_cast, ↓brB_true, ↓brB_false, ↓reduceIte, Nat.reduceMod, Nat.reduceMul, Nat.reduceDiv, Nat.reduceAdd, Nat.reduceSub, Nat.reduceEqDiff, Nat.reduceBEq, Nat.reduceLT, Nat.reduceLeDiff, reduceCtorEq]
      all_goals repeat' (first | (apply brB_mk <;> (intro hg; (try simp only [push_cast] at hg))) | apply And.intro | (intro hg; (try simp only [push_cast] at hg)))
      all_goals first | exact True.intro | exact rfl | contradiction | omega | with_reducible assumption | (exact getE_dII (by omega)) | skip
      all_goals first | (refine hK _ ?_; clear hK K) | (simp only [push_cast]; done)
      refine awp_ret ?_
      (try simp only [AThen, ABlk])
      refine ⟨Or.inl rfl, ?_⟩
      simp only [RetOk, resVars, resVar, push_cast, ↓brB_true, ↓brB_false, ↓reduceIte, Nat.reduceMod, Nat.reduceMul, Nat.reduceDiv, Nat.reduceAdd, Nat.reduceSub, Nat.reduceEqDiff, Nat.reduceBEq, Nat.reduceLT, Nat.reduceLeDiff, reduceCtorEq]
      have h9 : R = (⟨[], []⟩, false) := by
        rw [← hR]
        first | exact mp_no (Or.inl (by with_reducible assumption)) | exact mp_no (Or.inr (Or.inl (by with_reducible assumption))) | exact mp_no (Or.inr (Or.inr (Or.inl (by with_reducible assumption)))) | exact mp_no (Or.inr (Or.inr (Or.inr (by omega))))
      rw [h9]
      all_goals first | rfl | (simp [dI]; done) | (simp [dI]; omega)
      done)
  refine awp_skip ?_
  (try simp only [AThen, ABlk, reduceIte, Nat.reduceEqDiff]); refine hK1 _ ?_
  have h1 : arenaB a = true := by with_reducible assumption
  have h2 : memI a m = true := by with_reducible assumption
  have h3 : fullB a 1 odd = true := by with_reducible assumption
  have h4 : 0 ≤ start ∧ start < a.owner.length := by omega
  have hal := arenaB_len h1
  have hR0 : runM a m odd 6145 [] [] start 0 = R := by rw [← hR, mp_yes h1 h2 h3 h4]
  obtain ⟨hk1, hk2⟩ := memI_facts h2
  have hop := (planB_at (fullB_facts h3).1).1
  refine awp_seq' fun K hK => ?_
  refine awp_region tyOk tyPos [] rfl ?_
  all_goals simp only [push_cast, ↓brB_true, ↓brB_false, ↓reduceIte, Nat.reduceMod, Nat.reduceMul, Nat.reduceDiv, Nat.reduceAdd, Nat.reduceSub, Nat.reduceEqDiff, Nat.reduceBEq, Nat.reduceLT, Nat.reduceLeDiff, reduceCtorEq]
  all_goals repeat' (first | (apply brB_mk <;> (intro hg; (try simp only [push_cast] at hg))) | apply And.intro | (intro hg; (try simp only [push_cast] at hg)))
  all_goals first | exact True.intro | exact rfl | contradiction | omega | with_reducible assumption | (exact getE_dII (by omega)) | skip
  all_goals first | (refine hK _ ?_; clear hK K) | (simp only [push_cast]; done)
  refine awp_seq' fun K hK => ?_
  refine awp_region tyOk tyPos [] rfl ?_
  all_goals simp only [push_cast, ↓brB_true, ↓brB_false, ↓reduceIte, Nat.reduceMod, Nat.reduceMul, Nat.reduceDiv, Nat.reduceAdd, Nat.reduceSub, Nat.reduceEqDiff, Nat.reduceBEq, Nat.reduceLT, Nat.reduceLeDiff, reduceCtorEq]
  all_goals repeat' (first | (apply brB_mk <;> (intro hg; (try simp only [push_cast] at hg))) | apply And.intro | (intro hg; (try simp only [push_cast] at hg)))
  all_goals first | exact True.intro | exact rfl | contradiction | omega | with_reducible assumption | (exact getE_dII (by omega)) | skip
  all_goals first | (refine hK _ ?_; clear hK K) | (simp only [push_cast]; done)
  refine awp_block ?_
  refine awp_loopU [9,10,11,12,13,14,15,16,17,21,27,33,43,44,45,46,47,48,49,50,51,52,53,54,55,56,57,58,59,60,61,62,63,64,65,66,67,68,69,70,71,72,73,74,75,76,77,78,79,80,81,82,83,84,85,86,87,88,89,90,91,92,93,94,95,96,97,98,99,100,101,102,103,104,105,106,107,108,109,110,111,112,113,114,115,116,117,118,119,120,121,122] [160,176] (fun (p : List Int × List Int × Int × Int × Nat) => [(12, .int .i64 p.2.2.1), (13, .int .i64 p.2.2.2.1), (10, .sl 160 [] 0 p.1.length 2), (11, .sl 176 [] 0 p.2.1.length 2)]) (fun p => []) (fun p => [(160, ⟨.ex, 2, dI p.1, none⟩), (176, ⟨.ex, 2, dI p.2.1, none⟩)]) (fun p => PlayI a m p.1 p.2.1 p.2.2.1 p.2.2.2.1 ∧ runM a m odd p.2.2.2.2 p.1 p.2.1 p.2.2.1 p.2.2.2.1 = R ∧ p.2.2.2.2 + p.1.length = 6145) (fun p => p.2.2.2.2) ([], [], start, 0, 6145) ?_ ⟨⟨rfl, fun j hj => by simp at hj, fun j hj => by simp at hj, h4, by dsimp only; omega⟩, hR0, rfl⟩ ?_
  ·
    rw [show dI ([] : List Int) = [] from rfl]
    refine cov_of rfl ?_ ?_ ?_ <;> simp only [covS, covL, push_cast, ↓brB_true, ↓brB_false, ↓reduceIte, Nat.reduceMod, Nat.reduceMul, Nat.reduceDiv, Nat.reduceAdd, Nat.reduceSub, Nat.reduceEqDiff, Nat.reduceBEq, Nat.reduceLT, Nat.reduceLeDiff, reduceCtorEq]
  · rintro ⟨path, st, v, s, F⟩ ⟨hP, hrun, hF⟩ KL0 hL0
    dsimp only at hP hrun hF
    obtain ⟨F, rfl⟩ : ∃ F9, F = F9 + 1 := ⟨F - 1, by have := hP.le hal.2.1 hk1.2.1; omega⟩
    have hlen := hP.len
    have hvv := hP.hv
    have hss := hP.hs
    have hple := hP.le hal.2.1 hk1.2.1
    obtain ⟨hgu, hgs⟩ := go_rg h1 h2 h3 hP.hv hP.hs
    obtain ⟨hrl, hrp, hrr⟩ := hk2 s.toNat (by omega)
    have hcl := (planB_at hrp).1
    simp only [push_cast, ↓brB_true, ↓brB_false, ↓reduceIte, Nat.reduceMod, Nat.reduceMul, Nat.reduceDiv, Nat.reduceAdd, Nat.reduceSub, Nat.reduceEqDiff, Nat.reduceBEq, Nat.reduceLT, Nat.reduceLeDiff, reduceCtorEq]
    refine awp_block ?_
    refine awp_seq' fun K2 hK2 => ?_
    refine awp_seq' fun K hK => ?_
    refine awp_region tyOk tyPos [] rfl ?_
    all_goals simp only [push_cast, ↓brB_true, ↓brB_false, ↓reduceIte, Nat.reduceMod, Nat.reduceMul, Nat.reduceDiv, Nat.reduceAdd, Nat.reduceSub, Nat.reduceEqDiff, Nat.reduceBEq, Nat.reduceLT, Nat.reduceLeDiff, reduceCtorEq]
    all_goals repeat' (first | (apply brB_mk <;> (intro hg; (try simp only [push_cast] at hg))) | apply And.intro | (intro hg; (try simp only [push_cast] at hg)))
    all_goals first | exact True.intro | exact rfl | contradiction | omega | with_reducible assumption | (exact getE_dII (by omega)) | skip
    all_goals first | (refine hK _ ?_; clear hK K) | (simp only [push_cast]; done)
    refine awp_block ?_
    refine awp_loopU [9,14,15,16,21,27,33,45,46,47,48,49,50,51,52,53,54,55,56,57,58,59,60,61,62,63,64,65,66,67,68,69,70,71,72,73,74,75,76,77,78,79,80,81,82,83,84] [] (fun (k : Nat) => [(45, .int .i64 k)]) (fun k => []) (fun k => []) (fun k => k ≤ path.length ∧ fvN path st v s 0 path.length = fvN path st v s k (path.length - k) ∧ ∀ j, j < k → ¬ (gi path j = v ∧ gi st j = s)) (fun k => path.length - k) 0 ?_ ⟨by omega, by rw [Nat.sub_zero], fun j hj => by omega⟩ ?_
    ·
      refine cov_of rfl ?_ ?_ ?_ <;> simp only [covS, covL, push_cast, ↓brB_true, ↓brB_false, ↓reduceIte, Nat.reduceMod, Nat.reduceMul, Nat.reduceDiv, Nat.reduceAdd, Nat.reduceSub, Nat.reduceEqDiff, Nat.reduceBEq, Nat.reduceLT, Nat.reduceLeDiff, reduceCtorEq]
    · rintro k ⟨hk, hfv, hall⟩ KL1 hL1
      simp only [push_cast, ↓brB_true, ↓brB_false, ↓reduceIte, Nat.reduceMod, Nat.reduceMul, Nat.reduceDiv, Nat.reduceAdd, Nat.reduceSub, Nat.reduceEqDiff, Nat.reduceBEq, Nat.reduceLT, Nat.reduceLeDiff, reduceCtorEq]
      refine awp_seq' fun K hK => ?_
      refine awp_region tyOk tyPos [] rfl ?_
      all_goals simp only [push_cast, ↓brB_true, ↓brB_false, ↓reduceIte, Nat.reduceMod, Nat.reduceMul, Nat.reduceDiv, Nat.reduceAdd, Nat.reduceSub, Nat.reduceEqDiff, Nat.reduceBEq, Nat.reduceLT, Nat.reduceLeDiff, reduceCtorEq]
      all_goals repeat' (first | (apply brB_mk <;> (intro hg; (try simp only [push_cast] at hg))) | apply And.intro | (intro hg; (try simp only [push_cast] at hg)))
      all_goals first | exact True.intro | exact rfl | contradiction | omega | with_reducible assumption | (exact getE_dII (by omega)) | skip
      all_goals first | (refine hK _ ?_; clear hK K) | (simp only [push_cast]; done)
      refine awp_seq' fun K3 hK3 => ?_
      refine awp_cond rfl (fun hc => ?_) (fun hc => ?_) <;> (try simp only [push_cast] at hc)
      ·
        refine awp_skip ?_
        (try simp only [AThen, ABlk, reduceIte, Nat.reduceEqDiff]); refine hK3 _ ?_
        refine awp_seq' fun K4 hK4 => ?_
        refine awp_block ?_
        refine awp_seq' fun K hK => ?_
        refine awp_region tyOk tyPos [] rfl ?_
        all_goals simp only [push_cast, ↓brB_true, ↓brB_false, ↓reduceIte, Nat.reduceMod, Nat.reduceMul, Nat.reduceDiv, Nat.reduceAdd, Nat.reduceSub, Nat.reduceEqDiff, Nat.reduceBEq, Nat.reduceLT, Nat.reduceLeDiff, reduceCtorEq]
        all_goals repeat' (first | (apply brB_mk <;> (intro hg; (try simp only [push_cast] at hg))) | apply And.intro | (intro hg; (try simp only [push_cast] at hg)))
        all_goals first | exact True.intro | exact rfl | contradiction | omega | with_reducible assumption | (exact getE_dII (by omega)) | skip
        all_goals first | (refine hK _ ?_; clear hK K) | (simp only [push_cast]; done)
        refine awp_seq' fun K hK => ?_
        refine awp_regionN false tyOk tyPos ?_ rfl ?_
        · kernel_rfl
        all_goals simp only [push_cast, ↓brB_true, ↓brB_false, ↓reduceIte, Nat.reduceMod, Nat.reduceMul, Nat.reduceDiv, Nat.reduceAdd, Nat.reduceSub, Nat.reduceEqDiff, Nat.reduceBEq, Nat.reduceLT, Nat.reduceLeDiff, reduceCtorEq]
        all_goals repeat' (first | (apply brB_mk <;> (intro hg; (try simp only [push_cast] at hg))) | apply And.intro | (intro hg; (try simp only [push_cast] at hg)))
        all_goals first | exact True.intro | exact rfl | contradiction | omega | with_reducible assumption | (exact getE_dII (by omega)) | skip
        all_goals first | (refine hK _ ?_; clear hK K) | (simp only [push_cast]; done)
        all_goals refine awp_cond rfl (fun hc => ?_) (fun hc => ?_)
        all_goals (first | (cases hc; done) | skip)
        all_goals (try simp only [push_cast] at hc)
        all_goals first
          | (
              refine awp_skip ?_
              (try simp only [AThen, ABlk, reduceIte, Nat.reduceEqDiff]); refine hK4 _ ?_
              refine awp_region tyOk tyPos [] rfl ?_
              all_goals simp only [push_cast, ↓brB_true, ↓brB_false, ↓reduceIte, Nat.reduceMod, Nat.reduceMul, Nat.reduceDiv, Nat.reduceAdd, Nat.reduceSub, Nat.reduceEqDiff, Nat.reduceBEq, Nat.reduceLT, Nat.reduceLeDiff, reduceCtorEq]
              all_goals repeat' (first | (apply brB_mk <;> (intro hg; (try simp only [push_cast] at hg))) | apply And.intro | (intro hg; (try simp only [push_cast] at hg)))
              all_goals first | exact True.intro | exact rfl | contradiction | omega | with_reducible assumption | (exact getE_dII (by omega)) | skip
              refine hL1 _ ⟨k + 1, ⟨by omega, by rw [hfv, fvN_step (by omega), if_neg (by omega)], fun j hj => (by
                  by_cases hjk : j = k
                  · subst hjk; omega
                  · exact hall j (by omega))⟩, by omega, ?_⟩
              refine cov_of rfl ?_ ?_ ?_ <;> simp only [covS, covL, push_cast, ↓brB_true, ↓brB_false, ↓reduceIte, Nat.reduceMod, Nat.reduceMul, Nat.reduceDiv, Nat.reduceAdd, Nat.reduceSub, Nat.reduceEqDiff, Nat.reduceBEq, Nat.reduceLT, Nat.reduceLeDiff, reduceCtorEq]
              done)
          | (
              have hf : fvN path st v s 0 path.length = k := by rw [hfv, fvN_step (by omega), if_pos (by omega)]
              refine awp_seq' fun K hK => ?_
              refine awp_regionD1 false tyOk tyPos tyMix ?_ rfl ?_
              · kernel_rfl
              intro E hE
              all_goals simp only [push_cast, ↓brB_true, ↓brB_false, ↓reduceIte, Nat.reduceMod, Nat.reduceMul, Nat.reduceDiv, Nat.reduceAdd, Nat.reduceSub, Nat.reduceEqDiff, Nat.reduceBEq, Nat.reduceLT, Nat.reduceLeDiff, reduceCtorEq]
              all_goals repeat' (first | (apply brB_mk <;> (intro hg; (try simp only [push_cast] at hg))) | apply And.intro | (intro hg; (try simp only [push_cast] at hg)))
              all_goals first | exact True.intro | exact rfl | contradiction | omega | with_reducible assumption | (refine hE _ _ ?_ ?_; kernel_rfl) | (exact getE_dII (by omega)) | skip
              all_goals clear hE E
              all_goals first | (refine hK _ ?_; clear hK K) | (simp only [push_cast]; done)
              refine awp_seq' fun K5 hK5 => ?_
              refine awp_seq' fun K hK => ?_
              refine awp_regionN false tyOk tyPos ?_ rfl ?_
              · kernel_rfl
              all_goals simp only [push_cast, ↓brB_true, ↓brB_false, ↓reduceIte, Nat.reduceMod, Nat.reduceMul, Nat.reduceDiv, Nat.reduceAdd, Nat.reduceSub, Nat.reduceEqDiff, Nat.reduceBEq, Nat.reduceLT, Nat.reduceLeDiff, reduceCtorEq]
              all_goals repeat' (first | (apply brB_mk <;> (intro hg; (try simp only [push_cast] at hg))) | apply And.intro | (intro hg; (try simp only [push_cast] at hg)))
              all_goals first | exact True.intro | exact rfl | contradiction | omega | with_reducible assumption | (exact getE_dII (by omega)) | skip
              all_goals first | (refine hK _ ?_; clear hK K) | (simp only [push_cast]; done)
              all_goals refine awp_cond rfl (fun hc => ?_) (fun hc => ?_)
              all_goals (first | (cases hc; done) | skip)
              all_goals (try simp only [push_cast] at hc)
              all_goals try (
                  refine awp_seq' fun K hK => ?_
                  refine awp_region tyOk tyPos [] rfl ?_
                  all_goals simp only [push_cast, ↓brB_true, ↓brB_false, ↓reduceIte, Nat.reduceMod, Nat.reduceMul, Nat.reduceDiv, Nat.reduceAdd, Nat.reduceSub, Nat.reduceEqDiff, Nat.reduceBEq, Nat.reduceLT, Nat.reduceLeDiff, reduceCtorEq]
                  all_goals repeat' (first | (apply brB_mk <;> (intro hg; (try simp only [push_cast] at hg))) | apply And.intro | (intro hg; (try simp only [push_cast] at hg)))
                  all_goals first | exact True.intro | exact rfl | contradiction | omega | with_reducible assumption | (exact getE_dII (by omega)) | skip
                  all_goals first | (refine hK _ ?_; clear hK K) | (simp only [push_cast]; done)
                  refine awp_ret ?_
                  (try simp only [AThen, ABlk])
                  refine ⟨Or.inl rfl, ?_⟩
                  simp only [RetOk, resVars, resVar, push_cast, ↓brB_true, ↓brB_false, ↓reduceIte, Nat.reduceMod, Nat.reduceMul, Nat.reduceDiv, Nat.reduceAdd, Nat.reduceSub, Nat.reduceEqDiff, Nat.reduceBEq, Nat.reduceLT, Nat.reduceLeDiff, reduceCtorEq]
                  have h9 : R = (⟨[], []⟩, false) := hrun.symm.trans (runM_far hf (by omega) (by omega))
                  rw [h9]
                  all_goals first | rfl | (simp [dI]; done) | (simp [dI]; omega)
                  done)
              refine awp_skip ?_
              (try simp only [AThen, ABlk, reduceIte, Nat.reduceEqDiff]); refine hK5 _ ?_
              refine awp_seq' fun K hK => ?_
              refine awp_region tyOk tyPos [] rfl ?_
              all_goals simp only [push_cast, ↓brB_true, ↓brB_false, ↓reduceIte, Nat.reduceMod, Nat.reduceMul, Nat.reduceDiv, Nat.reduceAdd, Nat.reduceSub, Nat.reduceEqDiff, Nat.reduceBEq, Nat.reduceLT, Nat.reduceLeDiff, reduceCtorEq]
              all_goals repeat' (first | (apply brB_mk <;> (intro hg; (try simp only [push_cast] at hg))) | apply And.intro | (intro hg; (try simp only [push_cast] at hg)))
              all_goals first | exact True.intro | exact rfl | contradiction | omega | with_reducible assumption | (exact getE_dII (by omega)) | skip
              all_goals first | (refine hK _ ?_; clear hK K) | (simp only [push_cast]; done)
              refine awp_ret ?_
              (try simp only [AThen, ABlk])
              refine ⟨Or.inl rfl, ?_⟩
              simp only [RetOk, resVars, resVar, push_cast, ↓brB_true, ↓brB_false, ↓reduceIte, Nat.reduceMod, Nat.reduceMul, Nat.reduceDiv, Nat.reduceAdd, Nat.reduceSub, Nat.reduceEqDiff, Nat.reduceBEq, Nat.reduceLT, Nat.reduceLeDiff, reduceCtorEq]
              have h9 : R = (⟨path.take k, path.drop k⟩, true) := hrun.symm.trans (runM_hit hf (by omega) (by omega))
              try rw [List.take_of_length_le (l := path.drop k) (by rw [List.length_drop]; omega)]
              rw [h9]
              all_goals first | rfl | (simp [dI]; done) | (simp [dI]; omega)
              done)
      ·
        refine awp_exit ?_
        have hkk : k = path.length := by omega
        subst hkk
        have hf : fvN path st v s 0 path.length = path.length := by rw [hfv, Nat.sub_self]; rfl
        (try simp only [AThen, ABlk, reduceIte, Nat.reduceEqDiff]); refine hK2 _ ?_
        refine awp_seq' fun K hK => ?_
        refine awp_region tyOk tyPos [] rfl ?_
        all_goals simp only [push_cast, ↓brB_true, ↓brB_false, ↓reduceIte, Nat.reduceMod, Nat.reduceMul, Nat.reduceDiv, Nat.reduceAdd, Nat.reduceSub, Nat.reduceEqDiff, Nat.reduceBEq, Nat.reduceLT, Nat.reduceLeDiff, reduceCtorEq]
        all_goals repeat' (first | (apply brB_mk <;> (intro hg; (try simp only [push_cast] at hg))) | apply And.intro | (intro hg; (try simp only [push_cast] at hg)))
        all_goals first | exact True.intro | exact rfl | contradiction | omega | with_reducible assumption | (exact getE_dII (by omega)) | skip
        all_goals first | (refine hK _ ?_; clear hK K) | (simp only [push_cast]; done)
        refine awp_seq' fun K hK => ?_
        refine awp_region tyOk tyPos [] rfl ?_
        all_goals simp only [push_cast, ↓brB_true, ↓brB_false, ↓reduceIte, Nat.reduceMod, Nat.reduceMul, Nat.reduceDiv, Nat.reduceAdd, Nat.reduceSub, Nat.reduceEqDiff, Nat.reduceBEq, Nat.reduceLT, Nat.reduceLeDiff, reduceCtorEq]
        all_goals repeat' (first | (apply brB_mk <;> (intro hg; (try simp only [push_cast] at hg))) | apply And.intro | (intro hg; (try simp only [push_cast] at hg)))
        all_goals first | exact True.intro | exact rfl | contradiction | omega | with_reducible assumption | (exact getE_dII (by omega)) | skip
        all_goals first | (refine hK _ ?_; clear hK K) | (simp only [push_cast]; done)
        refine awp_joinU [17,21,27,33,53,76,97,98,99,100,101,102,103,104,105,106,107,108,109,110] [] (fun (u9 : Unit) => [(17, .int .i64 (goU a m odd v s))]) (fun u9 => []) (fun u9 => []) (fun u9 => True) ?_ ?_
        ·
          intro K6 hK6
          refine awp_seq' fun K hK => ?_
          refine awp_region tyOk tyPos [] rfl ?_
          all_goals simp only [push_cast, ↓brB_true, ↓brB_false, ↓reduceIte, Nat.reduceMod, Nat.reduceMul, Nat.reduceDiv, Nat.reduceAdd, Nat.reduceSub, Nat.reduceEqDiff, Nat.reduceBEq, Nat.reduceLT, Nat.reduceLeDiff, reduceCtorEq]
          all_goals repeat' (first | (apply brB_mk <;> (intro hg; (try simp only [push_cast] at hg))) | apply And.intro | (intro hg; (try simp only [push_cast] at hg)))
          all_goals first | exact True.intro | exact rfl | contradiction | omega | with_reducible assumption | (exact getE_dII (by omega)) | skip
          all_goals first | (refine hK _ ?_; clear hK K) | (simp only [push_cast]; done)
          refine awp_cond rfl (fun hc => ?_) (fun hc => ?_) <;> (try simp only [push_cast] at hc)
          ·
            refine awp_region tyOk tyPos [] rfl ?_
            all_goals simp only [push_cast, ↓brB_true, ↓brB_false, ↓reduceIte, Nat.reduceMod, Nat.reduceMul, Nat.reduceDiv, Nat.reduceAdd, Nat.reduceSub, Nat.reduceEqDiff, Nat.reduceBEq, Nat.reduceLT, Nat.reduceLeDiff, reduceCtorEq]
            all_goals repeat' (first | (apply brB_mk <;> (intro hg; (try simp only [push_cast] at hg))) | apply And.intro | (intro hg; (try simp only [push_cast] at hg)))
            all_goals first | exact True.intro | exact rfl | contradiction | omega | with_reducible assumption | (exact getE_dII (by omega)) | skip
            (try simp only [AThen, ABlk, reduceIte, Nat.reduceEqDiff])
            refine hK6 _ ⟨(), trivial, ?_⟩
            refine cov_of rfl ?_ ?_ ?_ <;> simp only [covS, covL, push_cast, ↓brB_true, ↓brB_false, ↓reduceIte, Nat.reduceMod, Nat.reduceMul, Nat.reduceDiv, Nat.reduceAdd, Nat.reduceSub, Nat.reduceEqDiff, Nat.reduceBEq, Nat.reduceLT, Nat.reduceLeDiff, reduceCtorEq]
            all_goals (refine congrArg (AV.int .i64) ?_; unfold goU; first | rw [if_pos (by omega)] | rw [if_neg (by omega)])
          ·
            refine awp_skip ?_
            (try simp only [AThen, ABlk, reduceIte, Nat.reduceEqDiff])
            refine hK6 _ ⟨(), trivial, ?_⟩
            refine cov_of rfl ?_ ?_ ?_ <;> simp only [covS, covL, push_cast, ↓brB_true, ↓brB_false, ↓reduceIte, Nat.reduceMod, Nat.reduceMul, Nat.reduceDiv, Nat.reduceAdd, Nat.reduceSub, Nat.reduceEqDiff, Nat.reduceBEq, Nat.reduceLT, Nat.reduceLeDiff, reduceCtorEq]
            all_goals (refine congrArg (AV.int .i64) ?_; unfold goU; first | rw [if_pos (by omega)] | rw [if_neg (by omega)])
        ·
          rintro u9 hj6
          simp only [push_cast, ↓brB_true, ↓brB_false, ↓reduceIte, Nat.reduceMod, Nat.reduceMul, Nat.reduceDiv, Nat.reduceAdd, Nat.reduceSub, Nat.reduceEqDiff, Nat.reduceBEq, Nat.reduceLT, Nat.reduceLeDiff, reduceCtorEq]
          refine awp_seq' fun K7 hK7 => ?_
          refine awp_seq' fun K hK => ?_
          refine awp_region tyOk tyPos [] rfl ?_
          all_goals simp only [push_cast, ↓brB_true, ↓brB_false, ↓reduceIte, Nat.reduceMod, Nat.reduceMul, Nat.reduceDiv, Nat.reduceAdd, Nat.reduceSub, Nat.reduceEqDiff, Nat.reduceBEq, Nat.reduceLT, Nat.reduceLeDiff, reduceCtorEq]
          all_goals repeat' (first | (apply brB_mk <;> (intro hg; (try simp only [push_cast] at hg))) | apply And.intro | (intro hg; (try simp only [push_cast] at hg)))
          all_goals first | exact True.intro | exact rfl | contradiction | omega | with_reducible assumption | (exact getE_dII (by omega)) | skip
          all_goals first | (refine hK _ ?_; clear hK K) | (simp only [push_cast]; done)
          refine awp_cond rfl (fun hc => ?_) (fun hc => ?_) <;> (try simp only [push_cast] at hc)
          ·
            refine awp_seq' fun K hK => ?_
            refine awp_region tyOk tyPos [] rfl ?_
            all_goals simp only [push_cast, ↓brB_true, ↓brB_false, ↓reduceIte, Nat.reduceMod, Nat.reduceMul, Nat.reduceDiv, Nat.reduceAdd, Nat.reduceSub, Nat.reduceEqDiff, Nat.reduceBEq, Nat.reduceLT, Nat.reduceLeDiff, reduceCtorEq]
            all_goals repeat' (first | (apply brB_mk <;> (intro hg; (try simp only [push_cast] at hg))) | apply And.intro | (intro hg; (try simp only [push_cast] at hg)))
            all_goals first | exact True.intro | exact rfl | contradiction | omega | with_reducible assumption | (exact getE_dII (by omega)) | skip
            all_goals first | (refine hK _ ?_; clear hK K) | (simp only [push_cast]; done)
            refine awp_ret ?_
            (try simp only [AThen, ABlk])
            refine ⟨Or.inl rfl, ?_⟩
            simp only [RetOk, resVars, resVar, push_cast, ↓brB_true, ↓brB_false, ↓reduceIte, Nat.reduceMod, Nat.reduceMul, Nat.reduceDiv, Nat.reduceAdd, Nat.reduceSub, Nat.reduceEqDiff, Nat.reduceBEq, Nat.reduceLT, Nat.reduceLeDiff, reduceCtorEq]
            have h9 : R = (⟨[], []⟩, false) := hrun.symm.trans (runM_end hf (by omega))
            rw [h9]
            all_goals first | rfl | (simp [dI]; done) | (simp [dI]; omega)
          ·
            refine awp_skip ?_
            (try simp only [AThen, ABlk, reduceIte, Nat.reduceEqDiff]); refine hK7 _ ?_
            refine awp_regionD1 false tyOk tyPos tyMix ?_ rfl ?_
            · kernel_rfl
            intro E hE
            all_goals simp only [push_cast, ↓brB_true, ↓brB_false, ↓reduceIte, Nat.reduceMod, Nat.reduceMul, Nat.reduceDiv, Nat.reduceAdd, Nat.reduceSub, Nat.reduceEqDiff, Nat.reduceBEq, Nat.reduceLT, Nat.reduceLeDiff, reduceCtorEq]
            all_goals repeat' (first | (apply brB_mk <;> (intro hg; (try simp only [push_cast] at hg))) | apply And.intro | (intro hg; (try simp only [push_cast] at hg)))
            all_goals first | exact True.intro | exact rfl | contradiction | omega | with_reducible assumption | (refine hE _ _ ?_ ?_; kernel_rfl) | (exact getE_dII (by omega)) | skip
            all_goals clear hE E
            refine hL0 _ ⟨(path ++ [v], st ++ [s], goU a m odd v s, goS m v s, F), ⟨hP.next hall (by dsimp only; omega) hgs, (runM_go hf (by omega)).symm.trans hrun, by simp only [List.length_append, List.length_cons, List.length_nil]; omega⟩, by dsimp only; omega, ?_⟩
            rw [show goS m v s = gi (gl m.next s.toNat) v.toNat from rfl]
            simp only [List.length_append, List.length_cons, List.length_nil, Nat.zero_add]
            refine cov_of rfl ?_ ?_ ?_ <;> simp only [covS, covL, push_cast, ↓brB_true, ↓brB_false, ↓reduceIte, Nat.reduceMod, Nat.reduceMul, Nat.reduceDiv, Nat.reduceAdd, Nat.reduceSub, Nat.reduceEqDiff, Nat.reduceBEq, Nat.reduceLT, Nat.reduceLeDiff, reduceCtorEq]
set_option maxRecDepth 20000 in
set_option maxHeartbeats 4000000 in
theorem MemoryPlayS_fn (a : Ar) (ha : a.Ln 1048576) (m : Me) (hm : m.Ln 1048576) (odd : List Int) (ho : LnI 1048576 odd) (start : Int) : Fn Try.prog tyT 6 [.agg (dAr a), .agg (dMe m), .c (DI odd), .c (.int .i64 start)] [.agg (dLs (mpRes a m odd start).1), .c (.bool (mpRes a m odd start).2)] := by
  unfold LnI at ho
  have hno := ha.owner
  unfold LnI at hno
  have hmr : ∀ s, (gl m.next s).length ≤ 1048576 := fun s => gl_le hm.next s
  have hmc : ∀ s, (gl m.choice s).length ≤ 1048576 := fun s => gl_le hm.choice s
  have hm1 := hm.next.1
  have hm2 := hm.choice.1
  generalize hR : mpRes a m odd start = R
  have hM := MemoryOkS_fn a ha m hm
  have hF := fun h => FullIn_fn a ha h 1 (by omega) odd ho
  have hV := l1There_fn a start hno
  unfold dAr at hM hF hV
  unfold dMe at hM
  unfold dAr dMe dLs
  refine Fn_ofR (fn := Try.f6) (rs := [.cell 8 31, .tmp 9]) tyOk tyPos Try.func6 (by kernel_rfl) rfl rfl (by rw [Try.ntmps6]; exact Nat.le_of_ble_eq_true rfl) rfl (by simp only [szA, List.mem_cons, List.not_mem_nil, or_false, forall_eq_or_imp, forall_eq, VT.cells, szL]; try decide) ?_
  rw [Try.ntmps6]
  simp only [push_cast, ↓brB_true, ↓brB_false, ↓reduceIte, Nat.reduceMod, Nat.reduceMul, Nat.reduceDiv, Nat.reduceAdd, Nat.reduceSub, Nat.reduceEqDiff, Nat.reduceBEq, Nat.reduceLT, Nat.reduceLeDiff, reduceCtorEq]
  refine awp_seq' fun K hK => ?_
  refine awp_region tyOk tyPos [] rfl ?_
  all_goals simp only [push_cast, ↓brB_true, ↓brB_false, ↓reduceIte, Nat.reduceMod, Nat.reduceMul, Nat.reduceDiv, Nat.reduceAdd, Nat.reduceSub, Nat.reduceEqDiff, Nat.reduceBEq, Nat.reduceLT, Nat.reduceLeDiff, reduceCtorEq]
  all_goals repeat' (first | (apply brB_mk <;> (intro hg; (try simp only [push_cast] at hg))) | apply And.intro | (intro hg; (try simp only [push_cast] at hg)))
  all_goals first | exact True.intro | exact rfl | contradiction | omega | with_reducible assumption | (exact getE_dII (by omega)) | skip
  all_goals first | (refine hK _ ?_; clear hK K) | (simp only [push_cast]; done)
  refine awp_seq' fun K1 hK1 => ?_
  refine awp_seq' fun K hK => ?_
  refine awp_regionN false tyOk tyPos ?_ rfl ?_
  · kernel_rfl
  all_goals refine seqE_cut 3 fun K9 hK9 => ?_
  all_goals simp only [push_cast, ↓brB_true, ↓brB_false, ↓reduceIte, Nat.reduceMod, Nat.reduceMul, Nat.reduceDiv, Nat.reduceAdd, Nat.reduceSub, Nat.reduceEqDiff, Nat.reduceBEq, Nat.reduceLT, Nat.reduceLeDiff, reduceCtorEq]
  all_goals repeat' (first | (apply brB_mk <;> (intro hg; (try simp only [push_cast] at hg))) | (refine ⟨_, hM, ?_⟩; simp only [push_cast, ↓brB_true, ↓brB_false, ↓reduceIte, Nat.reduceMod, Nat.reduceMul, Nat.reduceDiv, Nat.reduceAdd, Nat.reduceSub, Nat.reduceEqDiff, Nat.reduceBEq, Nat.reduceLT, Nat.reduceLeDiff, reduceCtorEq]) | (refine ⟨_, hF (Bool.and_eq_true_iff.1 (show (arenaB a && memI a m) = true by with_reducible assumption)).1, ?_⟩; simp only [push_cast, ↓brB_true, ↓brB_false, ↓reduceIte, Nat.reduceMod, Nat.reduceMul, Nat.reduceDiv, Nat.reduceAdd, Nat.reduceSub, Nat.reduceEqDiff, Nat.reduceBEq, Nat.reduceLT, Nat.reduceLeDiff, reduceCtorEq]) | (refine ⟨_, hV, ?_⟩; simp only [push_cast, ↓brB_true, ↓brB_false, ↓reduceIte, Nat.reduceMod, Nat.reduceMul, Nat.reduceDiv, Nat.reduceAdd, Nat.reduceSub, Nat.reduceEqDiff, Nat.reduceBEq, Nat.reduceLT, Nat.reduceLeDiff, reduceCtorEq]) | apply And.intro | (intro hg; (try simp only [push_cast] at hg)))
  all_goals first | exact True.intro | exact rfl | contradiction | omega | with_reducible assumption | (exact getE_dII (by omega)) | skip
  all_goals first | (refine hK9 _ ?_; clear hK9 K9) | (simp only [push_cast]; done)
  all_goals refine seqE_cut 5 fun K9 hK9 => ?_
  all_goals simp only [push_cast, ↓brB_true, ↓brB_false, ↓reduceIte, Nat.reduceMod, Nat.reduceMul, Nat.reduceDiv, Nat.reduceAdd, Nat.reduceSub, Nat.reduceEqDiff, Nat.reduceBEq, Nat.reduceLT, Nat.reduceLeDiff, reduceCtorEq]
  all_goals repeat' (first | (apply brB_mk <;> (intro hg; (try simp only [push_cast] at hg))) | (refine ⟨_, hM, ?_⟩; simp only [push_cast, ↓brB_true, ↓brB_false, ↓reduceIte, Nat.reduceMod, Nat.reduceMul, Nat.reduceDiv, Nat.reduceAdd, Nat.reduceSub, Nat.reduceEqDiff, Nat.reduceBEq, Nat.reduceLT, Nat.reduceLeDiff, reduceCtorEq]) | (refine ⟨_, hF (Bool.and_eq_true_iff.1 (show (arenaB a && memI a m) = true by with_reducible assumption)).1, ?_⟩; simp only [push_cast, ↓brB_true, ↓brB_false, ↓reduceIte, Nat.reduceMod, Nat.reduceMul, Nat.reduceDiv, Nat.reduceAdd, Nat.reduceSub, Nat.reduceEqDiff, Nat.reduceBEq, Nat.reduceLT, Nat.reduceLeDiff, reduceCtorEq]) | (refine ⟨_, hV, ?_⟩; simp only [push_cast, ↓brB_true, ↓brB_false, ↓reduceIte, Nat.reduceMod, Nat.reduceMul, Nat.reduceDiv, Nat.reduceAdd, Nat.reduceSub, Nat.reduceEqDiff, Nat.reduceBEq, Nat.reduceLT, Nat.reduceLeDiff, reduceCtorEq]) | apply And.intro | (intro hg; (try simp only [push_cast] at hg)))
  all_goals first | exact True.intro | exact rfl | contradiction | omega | with_reducible assumption | (exact getE_dII (by omega)) | skip
  all_goals first | (refine hK9 _ ?_; clear hK9 K9) | (simp only [push_cast]; done)
  all_goals refine seqE_cut 6 fun K9 hK9 => ?_
  all_goals simp only [push_cast, ↓brB_true, ↓brB_false, ↓reduceIte, Nat.reduceMod, Nat.reduceMul, Nat.reduceDiv, Nat.reduceAdd, Nat.reduceSub, Nat.reduceEqDiff, Nat.reduceBEq, Nat.reduceLT, Nat.reduceLeDiff, reduceCtorEq]
  all_goals repeat' (first | (apply brB_mk <;> (intro hg; (try simp only [push_cast] at hg))) | (refine ⟨_, hM, ?_⟩; simp only [push_cast, ↓brB_true, ↓brB_false, ↓reduceIte, Nat.reduceMod, Nat.reduceMul, Nat.reduceDiv, Nat.reduceAdd, Nat.reduceSub, Nat.reduceEqDiff, Nat.reduceBEq, Nat.reduceLT, Nat.reduceLeDiff, reduceCtorEq]) | (refine ⟨_, hF (Bool.and_eq_true_iff.1 (show (arenaB a && memI a m) = true by with_reducible assumption)).1, ?_⟩; simp only [push_cast, ↓brB_true, ↓brB_false, ↓reduceIte, Nat.reduceMod, Nat.reduceMul, Nat.reduceDiv, Nat.reduceAdd, Nat.reduceSub, Nat.reduceEqDiff, Nat.reduceBEq, Nat.reduceLT, Nat.reduceLeDiff, reduceCtorEq]) | (refine ⟨_, hV, ?_⟩; simp only [push_cast, ↓brB_true, ↓brB_false, ↓reduceIte, Nat.reduceMod, Nat.reduceMul, Nat.reduceDiv, Nat.reduceAdd, Nat.reduceSub, Nat.reduceEqDiff, Nat.reduceBEq, Nat.reduceLT, Nat.reduceLeDiff, reduceCtorEq]) | apply And.intro | (intro hg; (try simp only [push_cast] at hg)))
  all_goals first | exact True.intro | exact rfl | contradiction | omega | with_reducible assumption | (exact getE_dII (by omega)) | skip
  all_goals first | (refine hK9 _ ?_; clear hK9 K9) | (simp only [push_cast]; done)
  all_goals simp only [push_cast, ↓brB_true, ↓brB_false, ↓reduceIte, Nat.reduceMod, Nat.reduceMul, Nat.reduceDiv, Nat.reduceAdd, Nat.reduceSub, Nat.reduceEqDiff, Nat.reduceBEq, Nat.reduceLT, Nat.reduceLeDiff, reduceCtorEq]
  all_goals repeat' (first | (apply brB_mk <;> (intro hg; (try simp only [push_cast] at hg))) | (refine ⟨_, hM, ?_⟩; simp only [push_cast, ↓brB_true, ↓brB_false, ↓reduceIte, Nat.reduceMod, Nat.reduceMul, Nat.reduceDiv, Nat.reduceAdd, Nat.reduceSub, Nat.reduceEqDiff, Nat.reduceBEq, Nat.reduceLT, Nat.reduceLeDiff, reduceCtorEq]) | (refine ⟨_, hF (Bool.and_eq_true_iff.1 (show (arenaB a && memI a m) = true by with_reducible assumption)).1, ?_⟩; simp only [push_cast, ↓brB_true, ↓brB_false, ↓reduceIte, Nat.reduceMod, Nat.reduceMul, Nat.reduceDiv, Nat.reduceAdd, Nat.reduceSub, Nat.reduceEqDiff, Nat.reduceBEq, Nat.reduceLT, Nat.reduceLeDiff, reduceCtorEq]) | (refine ⟨_, hV, ?_⟩; simp only [push_cast, ↓brB_true, ↓brB_false, ↓reduceIte, Nat.reduceMod, Nat.reduceMul, Nat.reduceDiv, Nat.reduceAdd, Nat.reduceSub, Nat.reduceEqDiff, Nat.reduceBEq, Nat.reduceLT, Nat.reduceLeDiff, reduceCtorEq]) | apply And.intro | (intro hg; (try simp only [push_cast] at hg)))
  all_goals first | exact True.intro | exact rfl | contradiction | omega | with_reducible assumption | (exact getE_dII (by omega)) | skip
  all_goals first | (refine hK _ ?_; clear hK K) | (simp only [push_cast]; done)
  all_goals refine awp_cond rfl (fun hc => ?_) (fun hc => ?_)
  all_goals (first | (cases hc; done) | skip)
  all_goals (try simp only [push_cast] at hc)
  all_goals try (
      refine awp_seq' fun K hK => ?_
      refine awp_region tyOk tyPos [] rfl ?_
      all_goals simp only [push_cast, ↓brB_true, ↓brB_false, ↓reduceIte, Nat.reduceMod, Nat.reduceMul, Nat.reduceDiv, Nat.reduceAdd, Nat.reduceSub, Nat.reduceEqDiff, Nat.reduceBEq, Nat.reduceLT, Nat.reduceLeDiff, reduceCtorEq]
      all_goals repeat' (first | (apply brB_mk <;> (intro hg; (try simp only [push_cast] at hg))) | apply And.intro | (intro hg; (try simp only [push_cast] at hg)))
      all_goals first | exact True.intro | exact rfl | contradiction | omega | with_reducible assumption | (exact getE_dII (by omega)) | skip
      all_goals first | (refine hK _ ?_; clear hK K) | (simp only [push_cast]; done)
      refine awp_ret ?_
      (try simp only [AThen, ABlk])
      refine ⟨Or.inl rfl, ?_⟩
      simp only [RetOk, resVars, resVar, push_cast, ↓brB_true, ↓brB_false, ↓reduceIte, Nat.reduceMod, Nat.reduceMul, Nat.reduceDiv, Nat.reduceAdd, Nat.reduceSub, Nat.reduceEqDiff, Nat.reduceBEq, Nat.reduceLT, Nat.reduceLeDiff, reduceCtorEq]
      have h9 : R = (⟨[], []⟩, false) := by
        rw [← hR]
        first | exact mp_no' (by with_reducible assumption) | exact mp_no (Or.inr (Or.inr (Or.inl (by with_reducible assumption)))) | exact mp_no (Or.inr (Or.inr (Or.inr (by omega))))
      rw [h9]
      all_goals first | rfl | (simp [dI]; done) | (simp [dI]; omega)
      done)
  refine awp_skip ?_
  (try simp only [AThen, ABlk, reduceIte, Nat.reduceEqDiff]); refine hK1 _ ?_
  have h0 : (arenaB a && memI a m) = true := by with_reducible assumption
  obtain ⟨h1, h2⟩ := Bool.and_eq_true_iff.1 h0
  have h3 : fullB a 1 odd = true := by with_reducible assumption
  have h4 : 0 ≤ start ∧ start < a.owner.length := by omega
  have hal := arenaB_len h1
  have hR0 : runM a m odd 6145 [] [] start 0 = R := by rw [← hR, mp_yes h1 h2 h3 h4]
  obtain ⟨hk1, hk2⟩ := memI_facts h2
  have hop := (planB_at (fullB_facts h3).1).1
  refine awp_seq' fun K hK => ?_
  refine awp_region tyOk tyPos [] rfl ?_
  all_goals simp only [push_cast, ↓brB_true, ↓brB_false, ↓reduceIte, Nat.reduceMod, Nat.reduceMul, Nat.reduceDiv, Nat.reduceAdd, Nat.reduceSub, Nat.reduceEqDiff, Nat.reduceBEq, Nat.reduceLT, Nat.reduceLeDiff, reduceCtorEq]
  all_goals repeat' (first | (apply brB_mk <;> (intro hg; (try simp only [push_cast] at hg))) | apply And.intro | (intro hg; (try simp only [push_cast] at hg)))
  all_goals first | exact True.intro | exact rfl | contradiction | omega | with_reducible assumption | (exact getE_dII (by omega)) | skip
  all_goals first | (refine hK _ ?_; clear hK K) | (simp only [push_cast]; done)
  refine awp_seq' fun K hK => ?_
  refine awp_region tyOk tyPos [] rfl ?_
  all_goals simp only [push_cast, ↓brB_true, ↓brB_false, ↓reduceIte, Nat.reduceMod, Nat.reduceMul, Nat.reduceDiv, Nat.reduceAdd, Nat.reduceSub, Nat.reduceEqDiff, Nat.reduceBEq, Nat.reduceLT, Nat.reduceLeDiff, reduceCtorEq]
  all_goals repeat' (first | (apply brB_mk <;> (intro hg; (try simp only [push_cast] at hg))) | apply And.intro | (intro hg; (try simp only [push_cast] at hg)))
  all_goals first | exact True.intro | exact rfl | contradiction | omega | with_reducible assumption | (exact getE_dII (by omega)) | skip
  all_goals first | (refine hK _ ?_; clear hK K) | (simp only [push_cast]; done)
  refine awp_seq' fun K hK => ?_
  refine awp_region tyOk tyPos [] rfl ?_
  all_goals simp only [push_cast, ↓brB_true, ↓brB_false, ↓reduceIte, Nat.reduceMod, Nat.reduceMul, Nat.reduceDiv, Nat.reduceAdd, Nat.reduceSub, Nat.reduceEqDiff, Nat.reduceBEq, Nat.reduceLT, Nat.reduceLeDiff, reduceCtorEq]
  all_goals repeat' (first | (apply brB_mk <;> (intro hg; (try simp only [push_cast] at hg))) | apply And.intro | (intro hg; (try simp only [push_cast] at hg)))
  all_goals first | exact True.intro | exact rfl | contradiction | omega | with_reducible assumption | (exact getE_dII (by omega)) | skip
  all_goals first | (refine hK _ ?_; clear hK K) | (simp only [push_cast]; done)
  refine awp_seq' fun K hK => ?_
  refine awp_region tyOk tyPos [] rfl ?_
  all_goals simp only [push_cast, ↓brB_true, ↓brB_false, ↓reduceIte, Nat.reduceMod, Nat.reduceMul, Nat.reduceDiv, Nat.reduceAdd, Nat.reduceSub, Nat.reduceEqDiff, Nat.reduceBEq, Nat.reduceLT, Nat.reduceLeDiff, reduceCtorEq]
  all_goals repeat' (first | (apply brB_mk <;> (intro hg; (try simp only [push_cast] at hg))) | apply And.intro | (intro hg; (try simp only [push_cast] at hg)))
  all_goals first | exact True.intro | exact rfl | contradiction | omega | with_reducible assumption | (exact getE_dII (by omega)) | skip
  all_goals first | (refine hK _ ?_; clear hK K) | (simp only [push_cast]; done)
  refine awp_block ?_
  refine awp_loopU [9,10,11,12,13,14,15,16,21,27,37,38,39,40,41,42,43,44,45,46,47,48,49,50,51,52,53,54,55,56,57,58,59,60,61,62,63,64,65,66,67,68,69,70,71,72,73,74,75,76,77,78,79,80,81,82,83,84,85,86,87,88,89,90,91,92,93,94,95,96,97,98,99,100,101,102,103,104,105,106,107,108,109,110,111,112,113,114,115,116,117] [160,176] (fun (p : List Int × List Int × Int × Int × Nat) => [(12, .int .i64 p.2.2.1), (13, .int .i64 p.2.2.2.1), (10, .sl 160 [] 0 p.1.length 2), (11, .sl 176 [] 0 p.2.1.length 2)]) (fun p => []) (fun p => [(160, ⟨.ex, 2, dI p.1, none⟩), (176, ⟨.ex, 2, dI p.2.1, none⟩)]) (fun p => PlayI a m p.1 p.2.1 p.2.2.1 p.2.2.2.1 ∧ runM a m odd p.2.2.2.2 p.1 p.2.1 p.2.2.1 p.2.2.2.1 = R ∧ p.2.2.2.2 + p.1.length = 6145) (fun p => p.2.2.2.2) ([], [], start, 0, 6145) ?_ ⟨⟨rfl, fun j hj => by simp at hj, fun j hj => by simp at hj, h4, by dsimp only; omega⟩, hR0, rfl⟩ ?_
  ·
    rw [show dI ([] : List Int) = [] from rfl]
    refine cov_of rfl ?_ ?_ ?_ <;> simp only [covS, covL, push_cast, ↓brB_true, ↓brB_false, ↓reduceIte, Nat.reduceMod, Nat.reduceMul, Nat.reduceDiv, Nat.reduceAdd, Nat.reduceSub, Nat.reduceEqDiff, Nat.reduceBEq, Nat.reduceLT, Nat.reduceLeDiff, reduceCtorEq]
  · rintro ⟨path, st, v, s, F⟩ ⟨hP, hrun, hF⟩ KL0 hL0
    dsimp only at hP hrun hF
    obtain ⟨F, rfl⟩ : ∃ F9, F = F9 + 1 := ⟨F - 1, by have := hP.le hal.2.1 hk1.2.1; omega⟩
    have hlen := hP.len
    have hvv := hP.hv
    have hss := hP.hs
    have hple := hP.le hal.2.1 hk1.2.1
    obtain ⟨hgu, hgs⟩ := go_rg h1 h2 h3 hP.hv hP.hs
    obtain ⟨hrl, hrp, hrr⟩ := hk2 s.toNat (by omega)
    have hcl := (planB_at hrp).1
    simp only [push_cast, ↓brB_true, ↓brB_false, ↓reduceIte, Nat.reduceMod, Nat.reduceMul, Nat.reduceDiv, Nat.reduceAdd, Nat.reduceSub, Nat.reduceEqDiff, Nat.reduceBEq, Nat.reduceLT, Nat.reduceLeDiff, reduceCtorEq]
    refine awp_block ?_
    refine awp_seq' fun K2 hK2 => ?_
    refine awp_seq' fun K hK => ?_
    refine awp_region tyOk tyPos [] rfl ?_
    all_goals simp only [push_cast, ↓brB_true, ↓brB_false, ↓reduceIte, Nat.reduceMod, Nat.reduceMul, Nat.reduceDiv, Nat.reduceAdd, Nat.reduceSub, Nat.reduceEqDiff, Nat.reduceBEq, Nat.reduceLT, Nat.reduceLeDiff, reduceCtorEq]
    all_goals repeat' (first | (apply brB_mk <;> (intro hg; (try simp only [push_cast] at hg))) | apply And.intro | (intro hg; (try simp only [push_cast] at hg)))
    all_goals first | exact True.intro | exact rfl | contradiction | omega | with_reducible assumption | (exact getE_dII (by omega)) | skip
    all_goals first | (refine hK _ ?_; clear hK K) | (simp only [push_cast]; done)
    refine awp_block ?_
    refine awp_loopU [9,14,15,21,27,37,38,39,40,41,42,43,44,45,46,47,48,49,50,51,52,53,54,55,56,57,58,59,60,61,62,63,64,65,66,67,68,69,70,71,72,73,74,75,76,77,78,79] [] (fun (k : Nat) => [(14, .int .i64 k)]) (fun k => []) (fun k => []) (fun k => k ≤ path.length ∧ fvN path st v s 0 path.length = fvN path st v s k (path.length - k) ∧ ∀ j, j < k → ¬ (gi path j = v ∧ gi st j = s)) (fun k => path.length - k) 0 ?_ ⟨by omega, by rw [Nat.sub_zero], fun j hj => by omega⟩ ?_
    ·
      refine cov_of rfl ?_ ?_ ?_ <;> simp only [covS, covL, push_cast, ↓brB_true, ↓brB_false, ↓reduceIte, Nat.reduceMod, Nat.reduceMul, Nat.reduceDiv, Nat.reduceAdd, Nat.reduceSub, Nat.reduceEqDiff, Nat.reduceBEq, Nat.reduceLT, Nat.reduceLeDiff, reduceCtorEq]
    · rintro k ⟨hk, hfv, hall⟩ KL1 hL1
      simp only [push_cast, ↓brB_true, ↓brB_false, ↓reduceIte, Nat.reduceMod, Nat.reduceMul, Nat.reduceDiv, Nat.reduceAdd, Nat.reduceSub, Nat.reduceEqDiff, Nat.reduceBEq, Nat.reduceLT, Nat.reduceLeDiff, reduceCtorEq]
      refine awp_seq' fun K3 hK3 => ?_
      refine awp_seq' fun K hK => ?_
      refine awp_region tyOk tyPos [] rfl ?_
      all_goals simp only [push_cast, ↓brB_true, ↓brB_false, ↓reduceIte, Nat.reduceMod, Nat.reduceMul, Nat.reduceDiv, Nat.reduceAdd, Nat.reduceSub, Nat.reduceEqDiff, Nat.reduceBEq, Nat.reduceLT, Nat.reduceLeDiff, reduceCtorEq]
      all_goals repeat' (first | (apply brB_mk <;> (intro hg; (try simp only [push_cast] at hg))) | apply And.intro | (intro hg; (try simp only [push_cast] at hg)))
      all_goals first | exact True.intro | exact rfl | contradiction | omega | with_reducible assumption | (exact getE_dII (by omega)) | skip
      all_goals first | (refine hK _ ?_; clear hK K) | (simp only [push_cast]; done)
      refine awp_cond rfl (fun hc => ?_) (fun hc => ?_) <;> (try simp only [push_cast] at hc)
      ·
        refine awp_skip ?_
        (try simp only [AThen, ABlk, reduceIte, Nat.reduceEqDiff]); refine hK3 _ ?_
        refine awp_seq' fun K4 hK4 => ?_
        refine awp_block ?_
        refine awp_seq' fun K hK => ?_
        refine awp_regionN false tyOk tyPos ?_ rfl ?_
        · kernel_rfl
        all_goals simp only [push_cast, ↓brB_true, ↓brB_false, ↓reduceIte, Nat.reduceMod, Nat.reduceMul, Nat.reduceDiv, Nat.reduceAdd, Nat.reduceSub, Nat.reduceEqDiff, Nat.reduceBEq, Nat.reduceLT, Nat.reduceLeDiff, reduceCtorEq]
        all_goals repeat' (first | (apply brB_mk <;> (intro hg; (try simp only [push_cast] at hg))) | apply And.intro | (intro hg; (try simp only [push_cast] at hg)))
        all_goals first | exact True.intro | exact rfl | contradiction | omega | with_reducible assumption | (exact getE_dII (by omega)) | skip
        all_goals first | (refine hK _ ?_; clear hK K) | (simp only [push_cast]; done)
        all_goals refine awp_cond rfl (fun hc => ?_) (fun hc => ?_)
        all_goals (first | (cases hc; done) | skip)
        all_goals (try simp only [push_cast] at hc)
        all_goals first
          | (
              refine awp_skip ?_
              (try simp only [AThen, ABlk, reduceIte, Nat.reduceEqDiff]); refine hK4 _ ?_
              refine awp_region tyOk tyPos [] rfl ?_
              all_goals simp only [push_cast, ↓brB_true, ↓brB_false, ↓reduceIte, Nat.reduceMod, Nat.reduceMul, Nat.reduceDiv, Nat.reduceAdd, Nat.reduceSub, Nat.reduceEqDiff, Nat.reduceBEq, Nat.reduceLT, Nat.reduceLeDiff, reduceCtorEq]
              all_goals repeat' (first | (apply brB_mk <;> (intro hg; (try simp only [push_cast] at hg))) | apply And.intro | (intro hg; (try simp only [push_cast] at hg)))
              all_goals first | exact True.intro | exact rfl | contradiction | omega | with_reducible assumption | (exact getE_dII (by omega)) | skip
              refine hL1 _ ⟨k + 1, ⟨by omega, by rw [hfv, fvN_step (by omega), if_neg (by omega)], fun j hj => (by
                  by_cases hjk : j = k
                  · subst hjk; omega
                  · exact hall j (by omega))⟩, by omega, ?_⟩
              refine cov_of rfl ?_ ?_ ?_ <;> simp only [covS, covL, push_cast, ↓brB_true, ↓brB_false, ↓reduceIte, Nat.reduceMod, Nat.reduceMul, Nat.reduceDiv, Nat.reduceAdd, Nat.reduceSub, Nat.reduceEqDiff, Nat.reduceBEq, Nat.reduceLT, Nat.reduceLeDiff, reduceCtorEq]
              done)
          | (
              have hf : fvN path st v s 0 path.length = k := by rw [hfv, fvN_step (by omega), if_pos (by omega)]
              refine awp_seq' fun K hK => ?_
              refine awp_regionD1 false tyOk tyPos tyMix ?_ rfl ?_
              · kernel_rfl
              intro E hE
              all_goals simp only [push_cast, ↓brB_true, ↓brB_false, ↓reduceIte, Nat.reduceMod, Nat.reduceMul, Nat.reduceDiv, Nat.reduceAdd, Nat.reduceSub, Nat.reduceEqDiff, Nat.reduceBEq, Nat.reduceLT, Nat.reduceLeDiff, reduceCtorEq]
              all_goals repeat' (first | (apply brB_mk <;> (intro hg; (try simp only [push_cast] at hg))) | apply And.intro | (intro hg; (try simp only [push_cast] at hg)))
              all_goals first | exact True.intro | exact rfl | contradiction | omega | with_reducible assumption | (refine hE _ _ ?_ ?_; kernel_rfl) | (exact getE_dII (by omega)) | skip
              all_goals clear hE E
              all_goals first | (refine hK _ ?_; clear hK K) | (simp only [push_cast]; done)
              refine awp_seq' fun K5 hK5 => ?_
              refine awp_seq' fun K hK => ?_
              refine awp_regionN false tyOk tyPos ?_ rfl ?_
              · kernel_rfl
              all_goals simp only [push_cast, ↓brB_true, ↓brB_false, ↓reduceIte, Nat.reduceMod, Nat.reduceMul, Nat.reduceDiv, Nat.reduceAdd, Nat.reduceSub, Nat.reduceEqDiff, Nat.reduceBEq, Nat.reduceLT, Nat.reduceLeDiff, reduceCtorEq]
              all_goals repeat' (first | (apply brB_mk <;> (intro hg; (try simp only [push_cast] at hg))) | apply And.intro | (intro hg; (try simp only [push_cast] at hg)))
              all_goals first | exact True.intro | exact rfl | contradiction | omega | with_reducible assumption | (exact getE_dII (by omega)) | skip
              all_goals first | (refine hK _ ?_; clear hK K) | (simp only [push_cast]; done)
              all_goals refine awp_cond rfl (fun hc => ?_) (fun hc => ?_)
              all_goals (first | (cases hc; done) | skip)
              all_goals (try simp only [push_cast] at hc)
              all_goals try (
                  refine awp_seq' fun K hK => ?_
                  refine awp_region tyOk tyPos [] rfl ?_
                  all_goals simp only [push_cast, ↓brB_true, ↓brB_false, ↓reduceIte, Nat.reduceMod, Nat.reduceMul, Nat.reduceDiv, Nat.reduceAdd, Nat.reduceSub, Nat.reduceEqDiff, Nat.reduceBEq, Nat.reduceLT, Nat.reduceLeDiff, reduceCtorEq]
                  all_goals repeat' (first | (apply brB_mk <;> (intro hg; (try simp only [push_cast] at hg))) | apply And.intro | (intro hg; (try simp only [push_cast] at hg)))
                  all_goals first | exact True.intro | exact rfl | contradiction | omega | with_reducible assumption | (exact getE_dII (by omega)) | skip
                  all_goals first | (refine hK _ ?_; clear hK K) | (simp only [push_cast]; done)
                  refine awp_ret ?_
                  (try simp only [AThen, ABlk])
                  refine ⟨Or.inl rfl, ?_⟩
                  simp only [RetOk, resVars, resVar, push_cast, ↓brB_true, ↓brB_false, ↓reduceIte, Nat.reduceMod, Nat.reduceMul, Nat.reduceDiv, Nat.reduceAdd, Nat.reduceSub, Nat.reduceEqDiff, Nat.reduceBEq, Nat.reduceLT, Nat.reduceLeDiff, reduceCtorEq]
                  have h9 : R = (⟨[], []⟩, false) := hrun.symm.trans (runM_far hf (by omega) (by omega))
                  rw [h9]
                  all_goals first | rfl | (simp [dI]; done) | (simp [dI]; omega)
                  done)
              refine awp_skip ?_
              (try simp only [AThen, ABlk, reduceIte, Nat.reduceEqDiff]); refine hK5 _ ?_
              refine awp_seq' fun K hK => ?_
              refine awp_region tyOk tyPos [] rfl ?_
              all_goals simp only [push_cast, ↓brB_true, ↓brB_false, ↓reduceIte, Nat.reduceMod, Nat.reduceMul, Nat.reduceDiv, Nat.reduceAdd, Nat.reduceSub, Nat.reduceEqDiff, Nat.reduceBEq, Nat.reduceLT, Nat.reduceLeDiff, reduceCtorEq]
              all_goals repeat' (first | (apply brB_mk <;> (intro hg; (try simp only [push_cast] at hg))) | apply And.intro | (intro hg; (try simp only [push_cast] at hg)))
              all_goals first | exact True.intro | exact rfl | contradiction | omega | with_reducible assumption | (exact getE_dII (by omega)) | skip
              all_goals first | (refine hK _ ?_; clear hK K) | (simp only [push_cast]; done)
              refine awp_ret ?_
              (try simp only [AThen, ABlk])
              refine ⟨Or.inl rfl, ?_⟩
              simp only [RetOk, resVars, resVar, push_cast, ↓brB_true, ↓brB_false, ↓reduceIte, Nat.reduceMod, Nat.reduceMul, Nat.reduceDiv, Nat.reduceAdd, Nat.reduceSub, Nat.reduceEqDiff, Nat.reduceBEq, Nat.reduceLT, Nat.reduceLeDiff, reduceCtorEq]
              have h9 : R = (⟨path.take k, path.drop k⟩, true) := hrun.symm.trans (runM_hit hf (by omega) (by omega))
              try rw [List.take_of_length_le (l := path.drop k) (by rw [List.length_drop]; omega)]
              rw [h9]
              all_goals first | rfl | (simp [dI]; done) | (simp [dI]; omega)
              done)
      ·
        refine awp_exit ?_
        have hkk : k = path.length := by omega
        subst hkk
        have hf : fvN path st v s 0 path.length = path.length := by rw [hfv, Nat.sub_self]; rfl
        (try simp only [AThen, ABlk, reduceIte, Nat.reduceEqDiff]); refine hK2 _ ?_
        refine awp_seq' fun K hK => ?_
        refine awp_region tyOk tyPos [] rfl ?_
        all_goals simp only [push_cast, ↓brB_true, ↓brB_false, ↓reduceIte, Nat.reduceMod, Nat.reduceMul, Nat.reduceDiv, Nat.reduceAdd, Nat.reduceSub, Nat.reduceEqDiff, Nat.reduceBEq, Nat.reduceLT, Nat.reduceLeDiff, reduceCtorEq]
        all_goals repeat' (first | (apply brB_mk <;> (intro hg; (try simp only [push_cast] at hg))) | apply And.intro | (intro hg; (try simp only [push_cast] at hg)))
        all_goals first | exact True.intro | exact rfl | contradiction | omega | with_reducible assumption | (exact getE_dII (by omega)) | skip
        all_goals first | (refine hK _ ?_; clear hK K) | (simp only [push_cast]; done)
        refine awp_seq' fun K hK => ?_
        refine awp_region tyOk tyPos [] rfl ?_
        all_goals simp only [push_cast, ↓brB_true, ↓brB_false, ↓reduceIte, Nat.reduceMod, Nat.reduceMul, Nat.reduceDiv, Nat.reduceAdd, Nat.reduceSub, Nat.reduceEqDiff, Nat.reduceBEq, Nat.reduceLT, Nat.reduceLeDiff, reduceCtorEq]
        all_goals repeat' (first | (apply brB_mk <;> (intro hg; (try simp only [push_cast] at hg))) | apply And.intro | (intro hg; (try simp only [push_cast] at hg)))
        all_goals first | exact True.intro | exact rfl | contradiction | omega | with_reducible assumption | (exact getE_dII (by omega)) | skip
        all_goals first | (refine hK _ ?_; clear hK K) | (simp only [push_cast]; done)
        refine awp_seq' fun K hK => ?_
        refine awp_region tyOk tyPos [] rfl ?_
        all_goals simp only [push_cast, ↓brB_true, ↓brB_false, ↓reduceIte, Nat.reduceMod, Nat.reduceMul, Nat.reduceDiv, Nat.reduceAdd, Nat.reduceSub, Nat.reduceEqDiff, Nat.reduceBEq, Nat.reduceLT, Nat.reduceLeDiff, reduceCtorEq]
        all_goals repeat' (first | (apply brB_mk <;> (intro hg; (try simp only [push_cast] at hg))) | apply And.intro | (intro hg; (try simp only [push_cast] at hg)))
        all_goals first | exact True.intro | exact rfl | contradiction | omega | with_reducible assumption | (exact getE_dII (by omega)) | skip
        all_goals first | (refine hK _ ?_; clear hK K) | (simp only [push_cast]; done)
        refine awp_joinU [16,21,27,49,72,92,93,94,95,96,97,98,99,100,101,102,103,104,105] [] (fun (u9 : Unit) => [(16, .int .i64 (goU a m odd v s))]) (fun u9 => []) (fun u9 => []) (fun u9 => True) ?_ ?_
        ·
          intro K6 hK6
          refine awp_seq' fun K hK => ?_
          refine awp_region tyOk tyPos [] rfl ?_
          all_goals simp only [push_cast, ↓brB_true, ↓brB_false, ↓reduceIte, Nat.reduceMod, Nat.reduceMul, Nat.reduceDiv, Nat.reduceAdd, Nat.reduceSub, Nat.reduceEqDiff, Nat.reduceBEq, Nat.reduceLT, Nat.reduceLeDiff, reduceCtorEq]
          all_goals repeat' (first | (apply brB_mk <;> (intro hg; (try simp only [push_cast] at hg))) | apply And.intro | (intro hg; (try simp only [push_cast] at hg)))
          all_goals first | exact True.intro | exact rfl | contradiction | omega | with_reducible assumption | (exact getE_dII (by omega)) | skip
          all_goals first | (refine hK _ ?_; clear hK K) | (simp only [push_cast]; done)
          refine awp_cond rfl (fun hc => ?_) (fun hc => ?_) <;> (try simp only [push_cast] at hc)
          ·
            refine awp_region tyOk tyPos [] rfl ?_
            all_goals simp only [push_cast, ↓brB_true, ↓brB_false, ↓reduceIte, Nat.reduceMod, Nat.reduceMul, Nat.reduceDiv, Nat.reduceAdd, Nat.reduceSub, Nat.reduceEqDiff, Nat.reduceBEq, Nat.reduceLT, Nat.reduceLeDiff, reduceCtorEq]
            all_goals repeat' (first | (apply brB_mk <;> (intro hg; (try simp only [push_cast] at hg))) | apply And.intro | (intro hg; (try simp only [push_cast] at hg)))
            all_goals first | exact True.intro | exact rfl | contradiction | omega | with_reducible assumption | (exact getE_dII (by omega)) | skip
            (try simp only [AThen, ABlk, reduceIte, Nat.reduceEqDiff])
            refine hK6 _ ⟨(), trivial, ?_⟩
            refine cov_of rfl ?_ ?_ ?_ <;> simp only [covS, covL, push_cast, ↓brB_true, ↓brB_false, ↓reduceIte, Nat.reduceMod, Nat.reduceMul, Nat.reduceDiv, Nat.reduceAdd, Nat.reduceSub, Nat.reduceEqDiff, Nat.reduceBEq, Nat.reduceLT, Nat.reduceLeDiff, reduceCtorEq]
            all_goals (refine congrArg (AV.int .i64) ?_; unfold goU; first | rw [if_pos (by omega)] | rw [if_neg (by omega)])
          ·
            refine awp_skip ?_
            (try simp only [AThen, ABlk, reduceIte, Nat.reduceEqDiff])
            refine hK6 _ ⟨(), trivial, ?_⟩
            refine cov_of rfl ?_ ?_ ?_ <;> simp only [covS, covL, push_cast, ↓brB_true, ↓brB_false, ↓reduceIte, Nat.reduceMod, Nat.reduceMul, Nat.reduceDiv, Nat.reduceAdd, Nat.reduceSub, Nat.reduceEqDiff, Nat.reduceBEq, Nat.reduceLT, Nat.reduceLeDiff, reduceCtorEq]
            all_goals (refine congrArg (AV.int .i64) ?_; unfold goU; first | rw [if_pos (by omega)] | rw [if_neg (by omega)])
        ·
          rintro u9 hj6
          simp only [push_cast, ↓brB_true, ↓brB_false, ↓reduceIte, Nat.reduceMod, Nat.reduceMul, Nat.reduceDiv, Nat.reduceAdd, Nat.reduceSub, Nat.reduceEqDiff, Nat.reduceBEq, Nat.reduceLT, Nat.reduceLeDiff, reduceCtorEq]
          refine awp_seq' fun K7 hK7 => ?_
          refine awp_seq' fun K hK => ?_
          refine awp_region tyOk tyPos [] rfl ?_
          all_goals simp only [push_cast, ↓brB_true, ↓brB_false, ↓reduceIte, Nat.reduceMod, Nat.reduceMul, Nat.reduceDiv, Nat.reduceAdd, Nat.reduceSub, Nat.reduceEqDiff, Nat.reduceBEq, Nat.reduceLT, Nat.reduceLeDiff, reduceCtorEq]
          all_goals repeat' (first | (apply brB_mk <;> (intro hg; (try simp only [push_cast] at hg))) | apply And.intro | (intro hg; (try simp only [push_cast] at hg)))
          all_goals first | exact True.intro | exact rfl | contradiction | omega | with_reducible assumption | (exact getE_dII (by omega)) | skip
          all_goals first | (refine hK _ ?_; clear hK K) | (simp only [push_cast]; done)
          refine awp_cond rfl (fun hc => ?_) (fun hc => ?_) <;> (try simp only [push_cast] at hc)
          ·
            refine awp_seq' fun K hK => ?_
            refine awp_region tyOk tyPos [] rfl ?_
            all_goals simp only [push_cast, ↓brB_true, ↓brB_false, ↓reduceIte, Nat.reduceMod, Nat.reduceMul, Nat.reduceDiv, Nat.reduceAdd, Nat.reduceSub, Nat.reduceEqDiff, Nat.reduceBEq, Nat.reduceLT, Nat.reduceLeDiff, reduceCtorEq]
            all_goals repeat' (first | (apply brB_mk <;> (intro hg; (try simp only [push_cast] at hg))) | apply And.intro | (intro hg; (try simp only [push_cast] at hg)))
            all_goals first | exact True.intro | exact rfl | contradiction | omega | with_reducible assumption | (exact getE_dII (by omega)) | skip
            all_goals first | (refine hK _ ?_; clear hK K) | (simp only [push_cast]; done)
            refine awp_ret ?_
            (try simp only [AThen, ABlk])
            refine ⟨Or.inl rfl, ?_⟩
            simp only [RetOk, resVars, resVar, push_cast, ↓brB_true, ↓brB_false, ↓reduceIte, Nat.reduceMod, Nat.reduceMul, Nat.reduceDiv, Nat.reduceAdd, Nat.reduceSub, Nat.reduceEqDiff, Nat.reduceBEq, Nat.reduceLT, Nat.reduceLeDiff, reduceCtorEq]
            have h9 : R = (⟨[], []⟩, false) := hrun.symm.trans (runM_end hf (by omega))
            rw [h9]
            all_goals first | rfl | (simp [dI]; done) | (simp [dI]; omega)
          ·
            refine awp_skip ?_
            (try simp only [AThen, ABlk, reduceIte, Nat.reduceEqDiff]); refine hK7 _ ?_
            refine awp_seq' fun K hK => ?_
            refine awp_region tyOk tyPos [] rfl ?_
            all_goals simp only [push_cast, ↓brB_true, ↓brB_false, ↓reduceIte, Nat.reduceMod, Nat.reduceMul, Nat.reduceDiv, Nat.reduceAdd, Nat.reduceSub, Nat.reduceEqDiff, Nat.reduceBEq, Nat.reduceLT, Nat.reduceLeDiff, reduceCtorEq]
            all_goals repeat' (first | (apply brB_mk <;> (intro hg; (try simp only [push_cast] at hg))) | apply And.intro | (intro hg; (try simp only [push_cast] at hg)))
            all_goals first | exact True.intro | exact rfl | contradiction | omega | with_reducible assumption | (exact getE_dII (by omega)) | skip
            all_goals first | (refine hK _ ?_; clear hK K) | (simp only [push_cast]; done)
            refine awp_region tyOk tyPos [] rfl ?_
            all_goals simp only [push_cast, ↓brB_true, ↓brB_false, ↓reduceIte, Nat.reduceMod, Nat.reduceMul, Nat.reduceDiv, Nat.reduceAdd, Nat.reduceSub, Nat.reduceEqDiff, Nat.reduceBEq, Nat.reduceLT, Nat.reduceLeDiff, reduceCtorEq]
            all_goals repeat' (first | (apply brB_mk <;> (intro hg; (try simp only [push_cast] at hg))) | apply And.intro | (intro hg; (try simp only [push_cast] at hg)))
            all_goals first | exact True.intro | exact rfl | contradiction | omega | with_reducible assumption | (exact getE_dII (by omega)) | skip
            refine hL0 _ ⟨(path ++ [v], st ++ [s], goU a m odd v s, goS m v s, F), ⟨hP.next hall (by dsimp only; omega) hgs, (runM_go hf (by omega)).symm.trans hrun, by simp only [List.length_append, List.length_cons, List.length_nil]; omega⟩, by dsimp only; omega, ?_⟩
            rw [show goS m v s = gi (gl m.next s.toNat) v.toNat from rfl]
            simp only [List.length_append, List.length_cons, List.length_nil, Nat.zero_add]
            refine cov_of rfl ?_ ?_ ?_ <;> simp only [covS, covL, push_cast, ↓brB_true, ↓brB_false, ↓reduceIte, Nat.reduceMod, Nat.reduceMul, Nat.reduceDiv, Nat.reduceAdd, Nat.reduceSub, Nat.reduceEqDiff, Nat.reduceBEq, Nat.reduceLT, Nat.reduceLeDiff, reduceCtorEq]
end Go.Proofs.Ythfajkmbkmlfpaa
