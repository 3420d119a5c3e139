/- lassos, and the costs along them: both sides -/
import Derived.Test.YtfmkomllnojkjaaW5
namespace Go.Proofs.Ytfmkomllnojkjaa
open Go.RowKit
set_option linter.unusedVariables false
set_option linter.unusedSimpArgs false

theorem Bool.eq_of {b : Bool} : b = false → ¬ b = true := fun h => by rw [h]; decide
set_option maxRecDepth 20000 in
set_option maxHeartbeats 4000000 in
theorem LassoOkS_fn (a : Ar) (l : Ls) (ha : a.Ln 1048576) (hl : l.Ln 1048576) : Fn Try.prog tyT 72 [.agg (dAr a), .agg (dLs l)] [.c (.bool (arenaB a && lassoB a l))] := by
  have hr : ∀ v, (gl a.next v).length ≤ 1048576 := fun v => gl_le ha.next v
  have hno := ha.owner
  have hnn := ha.next.1
  have hst := hl.stem
  have hlp := hl.loop
  unfold LnI at hno hst hlp
  have hwl := wayL_len l
  have hw0 : (l.stem ++ l.loop).length = l.stem.length + l.loop.length := List.length_append
  have hA := ArenaOkS_fn a ha
  have hV := fun v => l1There_fn a v hno
  have hS := l1Copy_fn l.stem hst
  unfold dAr at hA hV ⊢
  unfold dLs
  refine Fn_of (fn := Try.f72) (ts := [4]) Try.func72 (by kernel_rfl) rfl rfl (by rw [Try.ntmps72]; exact Nat.le_of_ble_eq_true rfl) rfl (by simp only [szA, List.mem_cons, List.not_mem_nil, or_false, forall_eq_or_imp, forall_eq, VT.cells, szL]; try decide) ?_
  rw [Try.ntmps72]
  simp only [push_cast, ↓brB_true, ↓brB_false, ↓reduceIte, Nat.reduceMod, Nat.reduceMul, Nat.reduceDiv, Nat.reduceAdd, Nat.reduceSub, Nat.reduceEqDiff, Nat.reduceBEq, Nat.reduceLT, Nat.reduceLeDiff, reduceCtorEq]
  refine awp_seq' fun K hK => ?_
  refine awp_region tyOk tyPos [] rfl ?_
  all_goals simp only [push_cast, ↓brB_true, ↓brB_false, ↓reduceIte, Nat.reduceMod, Nat.reduceMul, Nat.reduceDiv, Nat.reduceAdd, Nat.reduceSub, Nat.reduceEqDiff, Nat.reduceBEq, Nat.reduceLT, Nat.reduceLeDiff, reduceCtorEq]
  all_goals repeat' (first | (apply brB_mk <;> (intro hg; (try simp only [push_cast] at hg))) | (refine ⟨_, hA, ?_⟩; simp only [push_cast, ↓brB_true, ↓brB_false, ↓reduceIte, Nat.reduceMod, Nat.reduceMul, Nat.reduceDiv, Nat.reduceAdd, Nat.reduceSub, Nat.reduceEqDiff, Nat.reduceBEq, Nat.reduceLT, Nat.reduceLeDiff, reduceCtorEq]) | (refine ⟨_, hS, ?_⟩; simp only [push_cast, ↓brB_true, ↓brB_false, ↓reduceIte, Nat.reduceMod, Nat.reduceMul, Nat.reduceDiv, Nat.reduceAdd, Nat.reduceSub, Nat.reduceEqDiff, Nat.reduceBEq, Nat.reduceLT, Nat.reduceLeDiff, reduceCtorEq]) | (refine ⟨_, hV _, ?_⟩; simp only [push_cast, ↓brB_true, ↓brB_false, ↓reduceIte, Nat.reduceMod, Nat.reduceMul, Nat.reduceDiv, Nat.reduceAdd, Nat.reduceSub, Nat.reduceEqDiff, Nat.reduceBEq, Nat.reduceLT, Nat.reduceLeDiff, reduceCtorEq]) | (refine ⟨_, l1Has_fn (gl a.next _) _ (hr _), ?_⟩; simp only [push_cast, ↓brB_true, ↓brB_false, ↓reduceIte, Nat.reduceMod, Nat.reduceMul, Nat.reduceDiv, Nat.reduceAdd, Nat.reduceSub, Nat.reduceEqDiff, Nat.reduceBEq, Nat.reduceLT, Nat.reduceLeDiff, reduceCtorEq]) | apply And.intro | (intro hg; (try simp only [push_cast] at hg)))
  all_goals first | exact True.intro | exact rfl | contradiction | omega | with_reducible assumption | (exact getE_dII (by omega)) | skip
  all_goals first | (refine hK _ ?_; clear hK K) | (simp only [push_cast, ↓brB_true, ↓brB_false, ↓reduceIte, Nat.reduceMod, Nat.reduceMul, Nat.reduceDiv, Nat.reduceAdd, Nat.reduceSub, Nat.reduceEqDiff, Nat.reduceBEq, Nat.reduceLT, Nat.reduceLeDiff, reduceCtorEq]; done)
  refine awp_seq' fun K1 hK1 => ?_
  refine awp_seq' fun K hK => ?_
  refine awp_regionN false tyOk tyPos ?_ rfl ?_
  · kernel_rfl
  all_goals refine seqE_cut 2 fun K9 hK9 => ?_
  all_goals simp only [push_cast, ↓brB_true, ↓brB_false, ↓reduceIte, Nat.reduceMod, Nat.reduceMul, Nat.reduceDiv, Nat.reduceAdd, Nat.reduceSub, Nat.reduceEqDiff, Nat.reduceBEq, Nat.reduceLT, Nat.reduceLeDiff, reduceCtorEq]
  all_goals repeat' (first | (apply brB_mk <;> (intro hg; (try simp only [push_cast] at hg))) | (refine ⟨_, hA, ?_⟩; simp only [push_cast, ↓brB_true, ↓brB_false, ↓reduceIte, Nat.reduceMod, Nat.reduceMul, Nat.reduceDiv, Nat.reduceAdd, Nat.reduceSub, Nat.reduceEqDiff, Nat.reduceBEq, Nat.reduceLT, Nat.reduceLeDiff, reduceCtorEq]) | (refine ⟨_, hS, ?_⟩; simp only [push_cast, ↓brB_true, ↓brB_false, ↓reduceIte, Nat.reduceMod, Nat.reduceMul, Nat.reduceDiv, Nat.reduceAdd, Nat.reduceSub, Nat.reduceEqDiff, Nat.reduceBEq, Nat.reduceLT, Nat.reduceLeDiff, reduceCtorEq]) | (refine ⟨_, hV _, ?_⟩; simp only [push_cast, ↓brB_true, ↓brB_false, ↓reduceIte, Nat.reduceMod, Nat.reduceMul, Nat.reduceDiv, Nat.reduceAdd, Nat.reduceSub, Nat.reduceEqDiff, Nat.reduceBEq, Nat.reduceLT, Nat.reduceLeDiff, reduceCtorEq]) | (refine ⟨_, l1Has_fn (gl a.next _) _ (hr _), ?_⟩; simp only [push_cast, ↓brB_true, ↓brB_false, ↓reduceIte, Nat.reduceMod, Nat.reduceMul, Nat.reduceDiv, Nat.reduceAdd, Nat.reduceSub, Nat.reduceEqDiff, Nat.reduceBEq, Nat.reduceLT, Nat.reduceLeDiff, reduceCtorEq]) | apply And.intro | (intro hg; (try simp only [push_cast] at hg)))
  all_goals first | exact True.intro | exact rfl | contradiction | omega | with_reducible assumption | (exact getE_dII (by omega)) | skip
  all_goals first | (refine hK9 _ ?_; clear hK9 K9) | (simp only [push_cast, ↓brB_true, ↓brB_false, ↓reduceIte, Nat.reduceMod, Nat.reduceMul, Nat.reduceDiv, Nat.reduceAdd, Nat.reduceSub, Nat.reduceEqDiff, Nat.reduceBEq, Nat.reduceLT, Nat.reduceLeDiff, reduceCtorEq]; done)
  all_goals simp only [push_cast, ↓brB_true, ↓brB_false, ↓reduceIte, Nat.reduceMod, Nat.reduceMul, Nat.reduceDiv, Nat.reduceAdd, Nat.reduceSub, Nat.reduceEqDiff, Nat.reduceBEq, Nat.reduceLT, Nat.reduceLeDiff, reduceCtorEq]
  all_goals repeat' (first | (apply brB_mk <;> (intro hg; (try simp only [push_cast] at hg))) | (refine ⟨_, hA, ?_⟩; simp only [push_cast, ↓brB_true, ↓brB_false, ↓reduceIte, Nat.reduceMod, Nat.reduceMul, Nat.reduceDiv, Nat.reduceAdd, Nat.reduceSub, Nat.reduceEqDiff, Nat.reduceBEq, Nat.reduceLT, Nat.reduceLeDiff, reduceCtorEq]) | (refine ⟨_, hS, ?_⟩; simp only [push_cast, ↓brB_true, ↓brB_false, ↓reduceIte, Nat.reduceMod, Nat.reduceMul, Nat.reduceDiv, Nat.reduceAdd, Nat.reduceSub, Nat.reduceEqDiff, Nat.reduceBEq, Nat.reduceLT, Nat.reduceLeDiff, reduceCtorEq]) | (refine ⟨_, hV _, ?_⟩; simp only [push_cast, ↓brB_true, ↓brB_false, ↓reduceIte, Nat.reduceMod, Nat.reduceMul, Nat.reduceDiv, Nat.reduceAdd, Nat.reduceSub, Nat.reduceEqDiff, Nat.reduceBEq, Nat.reduceLT, Nat.reduceLeDiff, reduceCtorEq]) | (refine ⟨_, l1Has_fn (gl a.next _) _ (hr _), ?_⟩; simp only [push_cast, ↓brB_true, ↓brB_false, ↓reduceIte, Nat.reduceMod, Nat.reduceMul, Nat.reduceDiv, Nat.reduceAdd, Nat.reduceSub, Nat.reduceEqDiff, Nat.reduceBEq, Nat.reduceLT, Nat.reduceLeDiff, reduceCtorEq]) | apply And.intro | (intro hg; (try simp only [push_cast] at hg)))
  all_goals first | exact True.intro | exact rfl | contradiction | omega | with_reducible assumption | (exact getE_dII (by omega)) | skip
  all_goals first | (refine hK _ ?_; clear hK K) | (simp only [push_cast, ↓brB_true, ↓brB_false, ↓reduceIte, Nat.reduceMod, Nat.reduceMul, Nat.reduceDiv, Nat.reduceAdd, Nat.reduceSub, Nat.reduceEqDiff, Nat.reduceBEq, Nat.reduceLT, Nat.reduceLeDiff, reduceCtorEq]; done)
  all_goals refine awp_cond rfl (fun hc => ?_) (fun hc => ?_)
  all_goals (first | (cases hc; done) | skip)
  all_goals (try simp only [push_cast] at hc)
  all_goals try (
      refine awp_seq' fun K hK => ?_
      refine awp_region tyOk tyPos [] rfl ?_
      all_goals simp only [push_cast, ↓brB_true, ↓brB_false, ↓reduceIte, Nat.reduceMod, Nat.reduceMul, Nat.reduceDiv, Nat.reduceAdd, Nat.reduceSub, Nat.reduceEqDiff, Nat.reduceBEq, Nat.reduceLT, Nat.reduceLeDiff, reduceCtorEq]
      all_goals repeat' (first | (apply brB_mk <;> (intro hg; (try simp only [push_cast] at hg))) | (refine ⟨_, hA, ?_⟩; simp only [push_cast, ↓brB_true, ↓brB_false, ↓reduceIte, Nat.reduceMod, Nat.reduceMul, Nat.reduceDiv, Nat.reduceAdd, Nat.reduceSub, Nat.reduceEqDiff, Nat.reduceBEq, Nat.reduceLT, Nat.reduceLeDiff, reduceCtorEq]) | (refine ⟨_, hS, ?_⟩; simp only [push_cast, ↓brB_true, ↓brB_false, ↓reduceIte, Nat.reduceMod, Nat.reduceMul, Nat.reduceDiv, Nat.reduceAdd, Nat.reduceSub, Nat.reduceEqDiff, Nat.reduceBEq, Nat.reduceLT, Nat.reduceLeDiff, reduceCtorEq]) | (refine ⟨_, hV _, ?_⟩; simp only [push_cast, ↓brB_true, ↓brB_false, ↓reduceIte, Nat.reduceMod, Nat.reduceMul, Nat.reduceDiv, Nat.reduceAdd, Nat.reduceSub, Nat.reduceEqDiff, Nat.reduceBEq, Nat.reduceLT, Nat.reduceLeDiff, reduceCtorEq]) | (refine ⟨_, l1Has_fn (gl a.next _) _ (hr _), ?_⟩; simp only [push_cast, ↓brB_true, ↓brB_false, ↓reduceIte, Nat.reduceMod, Nat.reduceMul, Nat.reduceDiv, Nat.reduceAdd, Nat.reduceSub, Nat.reduceEqDiff, Nat.reduceBEq, Nat.reduceLT, Nat.reduceLeDiff, reduceCtorEq]) | apply And.intro | (intro hg; (try simp only [push_cast] at hg)))
      all_goals first | exact True.intro | exact rfl | contradiction | omega | with_reducible assumption | (exact getE_dII (by omega)) | skip
      all_goals first | (refine hK _ ?_; clear hK K) | (simp only [push_cast, ↓brB_true, ↓brB_false, ↓reduceIte, Nat.reduceMod, Nat.reduceMul, Nat.reduceDiv, Nat.reduceAdd, Nat.reduceSub, Nat.reduceEqDiff, Nat.reduceBEq, Nat.reduceLT, Nat.reduceLeDiff, reduceCtorEq]; done)
      refine awp_ret ?_
      (try simp only [AThen, ABlk])
      refine ⟨Or.inl rfl, ?_⟩
      simp only [RetOk, push_cast, ↓brB_true, ↓brB_false, ↓reduceIte, Nat.reduceMod, Nat.reduceMul, Nat.reduceDiv, Nat.reduceAdd, Nat.reduceSub, Nat.reduceEqDiff, Nat.reduceBEq, Nat.reduceLT, Nat.reduceLeDiff, reduceCtorEq]
      symm
      rw [Bool.eq_false_iff, ne_eq, Bool.and_eq_true, lassoB_iff]
      rintro ⟨h0, h1, h2, h3⟩
      first | omega | exact absurd (h0.symm.trans (show arenaB a = false by assumption)) (by decide)
      done)
  refine awp_skip ?_
  (try simp only [AThen, ABlk, reduceIte, Nat.reduceEqDiff]); refine hK1 _ ?_
  have hok : arenaB a = true := by with_reducible assumption
  have hlen := arenaB_len hok
  refine awp_seq' fun K hK => ?_
  refine awp_regionD1 false tyOk tyPos tyMix ?_ rfl ?_
  · kernel_rfl
  intro E hE
  all_goals refine lexF_cut 3 (by decide) fun K9 hK9 => ?_
  all_goals simp only [push_cast, ↓brB_true, ↓brB_false, ↓reduceIte, Nat.reduceMod, Nat.reduceMul, Nat.reduceDiv, Nat.reduceAdd, Nat.reduceSub, Nat.reduceEqDiff, Nat.reduceBEq, Nat.reduceLT, Nat.reduceLeDiff, reduceCtorEq]
  all_goals repeat' (first | (apply brB_mk <;> (intro hg; (try simp only [push_cast] at hg))) | (refine ⟨_, hA, ?_⟩; simp only [push_cast, ↓brB_true, ↓brB_false, ↓reduceIte, Nat.reduceMod, Nat.reduceMul, Nat.reduceDiv, Nat.reduceAdd, Nat.reduceSub, Nat.reduceEqDiff, Nat.reduceBEq, Nat.reduceLT, Nat.reduceLeDiff, reduceCtorEq]) | (refine ⟨_, hS, ?_⟩; simp only [push_cast, ↓brB_true, ↓brB_false, ↓reduceIte, Nat.reduceMod, Nat.reduceMul, Nat.reduceDiv, Nat.reduceAdd, Nat.reduceSub, Nat.reduceEqDiff, Nat.reduceBEq, Nat.reduceLT, Nat.reduceLeDiff, reduceCtorEq]) | (refine ⟨_, hV _, ?_⟩; simp only [push_cast, ↓brB_true, ↓brB_false, ↓reduceIte, Nat.reduceMod, Nat.reduceMul, Nat.reduceDiv, Nat.reduceAdd, Nat.reduceSub, Nat.reduceEqDiff, Nat.reduceBEq, Nat.reduceLT, Nat.reduceLeDiff, reduceCtorEq]) | (refine ⟨_, l1Has_fn (gl a.next _) _ (hr _), ?_⟩; simp only [push_cast, ↓brB_true, ↓brB_false, ↓reduceIte, Nat.reduceMod, Nat.reduceMul, Nat.reduceDiv, Nat.reduceAdd, Nat.reduceSub, Nat.reduceEqDiff, Nat.reduceBEq, Nat.reduceLT, Nat.reduceLeDiff, reduceCtorEq]) | apply And.intro | (intro hg; (try simp only [push_cast] at hg)))
  all_goals first | exact True.intro | exact rfl | contradiction | omega | with_reducible assumption | (exact getE_dII (by omega)) | skip
  all_goals first | (refine hK9 _ _ ?_; clear hK9 K9) | (simp only [push_cast, ↓brB_true, ↓brB_false, ↓reduceIte, Nat.reduceMod, Nat.reduceMul, Nat.reduceDiv, Nat.reduceAdd, Nat.reduceSub, Nat.reduceEqDiff, Nat.reduceBEq, Nat.reduceLT, Nat.reduceLeDiff, reduceCtorEq]; done)
  all_goals simp only [push_cast, ↓brB_true, ↓brB_false, ↓reduceIte, Nat.reduceMod, Nat.reduceMul, Nat.reduceDiv, Nat.reduceAdd, Nat.reduceSub, Nat.reduceEqDiff, Nat.reduceBEq, Nat.reduceLT, Nat.reduceLeDiff, reduceCtorEq]
  all_goals repeat' (first | (apply brB_mk <;> (intro hg; (try simp only [push_cast] at hg))) | (refine ⟨_, hA, ?_⟩; simp only [push_cast, ↓brB_true, ↓brB_false, ↓reduceIte, Nat.reduceMod, Nat.reduceMul, Nat.reduceDiv, Nat.reduceAdd, Nat.reduceSub, Nat.reduceEqDiff, Nat.reduceBEq, Nat.reduceLT, Nat.reduceLeDiff, reduceCtorEq]) | (refine ⟨_, hS, ?_⟩; simp only [push_cast, ↓brB_true, ↓brB_false, ↓reduceIte, Nat.reduceMod, Nat.reduceMul, Nat.reduceDiv, Nat.reduceAdd, Nat.reduceSub, Nat.reduceEqDiff, Nat.reduceBEq, Nat.reduceLT, Nat.reduceLeDiff, reduceCtorEq]) | (refine ⟨_, hV _, ?_⟩; simp only [push_cast, ↓brB_true, ↓brB_false, ↓reduceIte, Nat.reduceMod, Nat.reduceMul, Nat.reduceDiv, Nat.reduceAdd, Nat.reduceSub, Nat.reduceEqDiff, Nat.reduceBEq, Nat.reduceLT, Nat.reduceLeDiff, reduceCtorEq]) | (refine ⟨_, l1Has_fn (gl a.next _) _ (hr _), ?_⟩; simp only [push_cast, ↓brB_true, ↓brB_false, ↓reduceIte, Nat.reduceMod, Nat.reduceMul, Nat.reduceDiv, Nat.reduceAdd, Nat.reduceSub, Nat.reduceEqDiff, Nat.reduceBEq, Nat.reduceLT, Nat.reduceLeDiff, reduceCtorEq]) | apply And.intro | (intro hg; (try simp only [push_cast] at hg)))
  all_goals first | exact True.intro | exact rfl | contradiction | omega | with_reducible assumption | (refine hE _ _ ?_ ?_; kernel_rfl) | (exact getE_dII (by omega)) | skip
  all_goals clear hE E
  all_goals first | (refine hK _ ?_; clear hK K) | (simp only [push_cast, ↓brB_true, ↓brB_false, ↓reduceIte, Nat.reduceMod, Nat.reduceMul, Nat.reduceDiv, Nat.reduceAdd, Nat.reduceSub, Nat.reduceEqDiff, Nat.reduceBEq, Nat.reduceLT, Nat.reduceLeDiff, reduceCtorEq]; done)
  refine awp_seq' fun K2 hK2 => ?_
  refine awp_seq' fun K hK => ?_
  refine awp_region tyOk tyPos [] rfl ?_
  all_goals simp only [push_cast, ↓brB_true, ↓brB_false, ↓reduceIte, Nat.reduceMod, Nat.reduceMul, Nat.reduceDiv, Nat.reduceAdd, Nat.reduceSub, Nat.reduceEqDiff, Nat.reduceBEq, Nat.reduceLT, Nat.reduceLeDiff, reduceCtorEq]
  all_goals repeat' (first | (apply brB_mk <;> (intro hg; (try simp only [push_cast] at hg))) | (refine ⟨_, hA, ?_⟩; simp only [push_cast, ↓brB_true, ↓brB_false, ↓reduceIte, Nat.reduceMod, Nat.reduceMul, Nat.reduceDiv, Nat.reduceAdd, Nat.reduceSub, Nat.reduceEqDiff, Nat.reduceBEq, Nat.reduceLT, Nat.reduceLeDiff, reduceCtorEq]) | (refine ⟨_, hS, ?_⟩; simp only [push_cast, ↓brB_true, ↓brB_false, ↓reduceIte, Nat.reduceMod, Nat.reduceMul, Nat.reduceDiv, Nat.reduceAdd, Nat.reduceSub, Nat.reduceEqDiff, Nat.reduceBEq, Nat.reduceLT, Nat.reduceLeDiff, reduceCtorEq]) | (refine ⟨_, hV _, ?_⟩; simp only [push_cast, ↓brB_true, ↓brB_false, ↓reduceIte, Nat.reduceMod, Nat.reduceMul, Nat.reduceDiv, Nat.reduceAdd, Nat.reduceSub, Nat.reduceEqDiff, Nat.reduceBEq, Nat.reduceLT, Nat.reduceLeDiff, reduceCtorEq]) | (refine ⟨_, l1Has_fn (gl a.next _) _ (hr _), ?_⟩; simp only [push_cast, ↓brB_true, ↓brB_false, ↓reduceIte, Nat.reduceMod, Nat.reduceMul, Nat.reduceDiv, Nat.reduceAdd, Nat.reduceSub, Nat.reduceEqDiff, Nat.reduceBEq, Nat.reduceLT, Nat.reduceLeDiff, reduceCtorEq]) | apply And.intro | (intro hg; (try simp only [push_cast] at hg)))
  all_goals first | exact True.intro | exact rfl | contradiction | omega | with_reducible assumption | (exact getE_dII (by omega)) | skip
  all_goals first | (refine hK _ ?_; clear hK K) | (simp only [push_cast, ↓brB_true, ↓brB_false, ↓reduceIte, Nat.reduceMod, Nat.reduceMul, Nat.reduceDiv, Nat.reduceAdd, Nat.reduceSub, Nat.reduceEqDiff, Nat.reduceBEq, Nat.reduceLT, Nat.reduceLeDiff, reduceCtorEq]; done)
  refine awp_block ?_
  rw [List.take_of_length_le (by omega), show l.stem ++ l.loop ++ [gi l.loop 0] = wayL l from rfl]
  refine awp_loopU [4,6,10,16,22,40,41,42,43,44,45,46,47,48,49,50,51,52,53,54,55,56,57,58,59,60,61,62,63,64,65,66,67,68,69,70,71,72,73] [] (fun (k : Nat) => [(6, .int .i64 k)]) (fun k => []) (fun k => []) (fun k => k ≤ (wayL l).length ∧ (∀ j, j < k → 0 ≤ gi (wayL l) j ∧ gi (wayL l) j < a.owner.length) ∧ ∀ j, 1 ≤ j → j < k → hasB (gl a.next (gi (wayL l) (j - 1)).toNat) (gi (wayL l) j) = true) (fun k => (wayL l).length - k) 0 ?_ ⟨by omega, fun j hj => by omega, fun j h1 hj => by omega⟩ ?_
  ·
    refine cov_of rfl ?_ ?_ ?_ <;> simp only [covS, covL, push_cast, ↓brB_true, ↓brB_false, ↓reduceIte, Nat.reduceMod, Nat.reduceMul, Nat.reduceDiv, Nat.reduceAdd, Nat.reduceSub, Nat.reduceEqDiff, Nat.reduceBEq, Nat.reduceLT, Nat.reduceLeDiff, reduceCtorEq]
  · rintro k ⟨hk, hall, hall2⟩ KL0 hL0
    have hb1 : 1 ≤ k → _ := fun h => hall (k - 1) (by omega)
    simp only [push_cast, ↓brB_true, ↓brB_false, ↓reduceIte, Nat.reduceMod, Nat.reduceMul, Nat.reduceDiv, Nat.reduceAdd, Nat.reduceSub, Nat.reduceEqDiff, Nat.reduceBEq, Nat.reduceLT, Nat.reduceLeDiff, reduceCtorEq]
    refine awp_seq' fun K3 hK3 => ?_
    refine awp_seq' fun K hK => ?_
    refine awp_region tyOk tyPos [] rfl ?_
    all_goals simp only [push_cast, ↓brB_true, ↓brB_false, ↓reduceIte, Nat.reduceMod, Nat.reduceMul, Nat.reduceDiv, Nat.reduceAdd, Nat.reduceSub, Nat.reduceEqDiff, Nat.reduceBEq, Nat.reduceLT, Nat.reduceLeDiff, reduceCtorEq]
    all_goals repeat' (first | (apply brB_mk <;> (intro hg; (try simp only [push_cast] at hg))) | (refine ⟨_, hA, ?_⟩; simp only [push_cast, ↓brB_true, ↓brB_false, ↓reduceIte, Nat.reduceMod, Nat.reduceMul, Nat.reduceDiv, Nat.reduceAdd, Nat.reduceSub, Nat.reduceEqDiff, Nat.reduceBEq, Nat.reduceLT, Nat.reduceLeDiff, reduceCtorEq]) | (refine ⟨_, hS, ?_⟩; simp only [push_cast, ↓brB_true, ↓brB_false, ↓reduceIte, Nat.reduceMod, Nat.reduceMul, Nat.reduceDiv, Nat.reduceAdd, Nat.reduceSub, Nat.reduceEqDiff, Nat.reduceBEq, Nat.reduceLT, Nat.reduceLeDiff, reduceCtorEq]) | (refine ⟨_, hV _, ?_⟩; simp only [push_cast, ↓brB_true, ↓brB_false, ↓reduceIte, Nat.reduceMod, Nat.reduceMul, Nat.reduceDiv, Nat.reduceAdd, Nat.reduceSub, Nat.reduceEqDiff, Nat.reduceBEq, Nat.reduceLT, Nat.reduceLeDiff, reduceCtorEq]) | (refine ⟨_, l1Has_fn (gl a.next _) _ (hr _), ?_⟩; simp only [push_cast, ↓brB_true, ↓brB_false, ↓reduceIte, Nat.reduceMod, Nat.reduceMul, Nat.reduceDiv, Nat.reduceAdd, Nat.reduceSub, Nat.reduceEqDiff, Nat.reduceBEq, Nat.reduceLT, Nat.reduceLeDiff, reduceCtorEq]) | apply And.intro | (intro hg; (try simp only [push_cast] at hg)))
    all_goals first | exact True.intro | exact rfl | contradiction | omega | with_reducible assumption | (exact getE_dII (by omega)) | skip
    all_goals first | (refine hK _ ?_; clear hK K) | (simp only [push_cast, ↓brB_true, ↓brB_false, ↓reduceIte, Nat.reduceMod, Nat.reduceMul, Nat.reduceDiv, Nat.reduceAdd, Nat.reduceSub, Nat.reduceEqDiff, Nat.reduceBEq, Nat.reduceLT, Nat.reduceLeDiff, reduceCtorEq]; done)
    refine awp_cond rfl (fun hc => ?_) (fun hc => ?_) <;> (try simp only [push_cast] at hc)
    ·
      refine awp_skip ?_
      (try simp only [AThen, ABlk, reduceIte, Nat.reduceEqDiff]); refine hK3 _ ?_
      refine awp_seq' fun K4 hK4 => ?_
      refine awp_block ?_
      refine awp_seq' fun K hK => ?_
      refine awp_regionD1 false tyOk tyPos tyMix ?_ rfl ?_
      · kernel_rfl
      intro E hE
      all_goals refine lexF_cut 6 (by decide) fun K9 hK9 => ?_
      all_goals simp only [push_cast, ↓brB_true, ↓brB_false, ↓reduceIte, Nat.reduceMod, Nat.reduceMul, Nat.reduceDiv, Nat.reduceAdd, Nat.reduceSub, Nat.reduceEqDiff, Nat.reduceBEq, Nat.reduceLT, Nat.reduceLeDiff, reduceCtorEq]
      all_goals repeat' (first | (apply brB_mk <;> (intro hg; (try simp only [push_cast] at hg))) | (refine ⟨_, hA, ?_⟩; simp only [push_cast, ↓brB_true, ↓brB_false, ↓reduceIte, Nat.reduceMod, Nat.reduceMul, Nat.reduceDiv, Nat.reduceAdd, Nat.reduceSub, Nat.reduceEqDiff, Nat.reduceBEq, Nat.reduceLT, Nat.reduceLeDiff, reduceCtorEq]) | (refine ⟨_, hS, ?_⟩; simp only [push_cast, ↓brB_true, ↓brB_false, ↓reduceIte, Nat.reduceMod, Nat.reduceMul, Nat.reduceDiv, Nat.reduceAdd, Nat.reduceSub, Nat.reduceEqDiff, Nat.reduceBEq, Nat.reduceLT, Nat.reduceLeDiff, reduceCtorEq]) | (refine ⟨_, hV _, ?_⟩; simp only [push_cast, ↓brB_true, ↓brB_false, ↓reduceIte, Nat.reduceMod, Nat.reduceMul, Nat.reduceDiv, Nat.reduceAdd, Nat.reduceSub, Nat.reduceEqDiff, Nat.reduceBEq, Nat.reduceLT, Nat.reduceLeDiff, reduceCtorEq]) | (refine ⟨_, l1Has_fn (gl a.next _) _ (hr _), ?_⟩; simp only [push_cast, ↓brB_true, ↓brB_false, ↓reduceIte, Nat.reduceMod, Nat.reduceMul, Nat.reduceDiv, Nat.reduceAdd, Nat.reduceSub, Nat.reduceEqDiff, Nat.reduceBEq, Nat.reduceLT, Nat.reduceLeDiff, reduceCtorEq]) | apply And.intro | (intro hg; (try simp only [push_cast] at hg)))
      all_goals first | exact True.intro | exact rfl | contradiction | omega | with_reducible assumption | (exact getE_dII (by omega)) | skip
      all_goals first | (refine hK9 _ _ ?_; clear hK9 K9) | (simp only [push_cast, ↓brB_true, ↓brB_false, ↓reduceIte, Nat.reduceMod, Nat.reduceMul, Nat.reduceDiv, Nat.reduceAdd, Nat.reduceSub, Nat.reduceEqDiff, Nat.reduceBEq, Nat.reduceLT, Nat.reduceLeDiff, reduceCtorEq]; done)
      all_goals refine lexF_cut 19 (by decide) fun K9 hK9 => ?_
      all_goals simp only [push_cast, ↓brB_true, ↓brB_false, ↓reduceIte, Nat.reduceMod, Nat.reduceMul, Nat.reduceDiv, Nat.reduceAdd, Nat.reduceSub, Nat.reduceEqDiff, Nat.reduceBEq, Nat.reduceLT, Nat.reduceLeDiff, reduceCtorEq]
      all_goals repeat' (first | (apply brB_mk <;> (intro hg; (try simp only [push_cast] at hg))) | (refine ⟨_, hA, ?_⟩; simp only [push_cast, ↓brB_true, ↓brB_false, ↓reduceIte, Nat.reduceMod, Nat.reduceMul, Nat.reduceDiv, Nat.reduceAdd, Nat.reduceSub, Nat.reduceEqDiff, Nat.reduceBEq, Nat.reduceLT, Nat.reduceLeDiff, reduceCtorEq]) | (refine ⟨_, hS, ?_⟩; simp only [push_cast, ↓brB_true, ↓brB_false, ↓reduceIte, Nat.reduceMod, Nat.reduceMul, Nat.reduceDiv, Nat.reduceAdd, Nat.reduceSub, Nat.reduceEqDiff, Nat.reduceBEq, Nat.reduceLT, Nat.reduceLeDiff, reduceCtorEq]) | (refine ⟨_, hV _, ?_⟩; simp only [push_cast, ↓brB_true, ↓brB_false, ↓reduceIte, Nat.reduceMod, Nat.reduceMul, Nat.reduceDiv, Nat.reduceAdd, Nat.reduceSub, Nat.reduceEqDiff, Nat.reduceBEq, Nat.reduceLT, Nat.reduceLeDiff, reduceCtorEq]) | (refine ⟨_, l1Has_fn (gl a.next _) _ (hr _), ?_⟩; simp only [push_cast, ↓brB_true, ↓brB_false, ↓reduceIte, Nat.reduceMod, Nat.reduceMul, Nat.reduceDiv, Nat.reduceAdd, Nat.reduceSub, Nat.reduceEqDiff, Nat.reduceBEq, Nat.reduceLT, Nat.reduceLeDiff, reduceCtorEq]) | apply And.intro | (intro hg; (try simp only [push_cast] at hg)))
      all_goals first | exact True.intro | exact rfl | contradiction | omega | with_reducible assumption | (exact getE_dII (by omega)) | skip
      all_goals first | (refine hK9 _ _ ?_; clear hK9 K9) | (simp only [push_cast, ↓brB_true, ↓brB_false, ↓reduceIte, Nat.reduceMod, Nat.reduceMul, Nat.reduceDiv, Nat.reduceAdd, Nat.reduceSub, Nat.reduceEqDiff, Nat.reduceBEq, Nat.reduceLT, Nat.reduceLeDiff, reduceCtorEq]; done)
      all_goals simp only [push_cast, ↓brB_true, ↓brB_false, ↓reduceIte, Nat.reduceMod, Nat.reduceMul, Nat.reduceDiv, Nat.reduceAdd, Nat.reduceSub, Nat.reduceEqDiff, Nat.reduceBEq, Nat.reduceLT, Nat.reduceLeDiff, reduceCtorEq]
      all_goals repeat' (first | (apply brB_mk <;> (intro hg; (try simp only [push_cast] at hg))) | (refine ⟨_, hA, ?_⟩; simp only [push_cast, ↓brB_true, ↓brB_false, ↓reduceIte, Nat.reduceMod, Nat.reduceMul, Nat.reduceDiv, Nat.reduceAdd, Nat.reduceSub, Nat.reduceEqDiff, Nat.reduceBEq, Nat.reduceLT, Nat.reduceLeDiff, reduceCtorEq]) | (refine ⟨_, hS, ?_⟩; simp only [push_cast, ↓brB_true, ↓brB_false, ↓reduceIte, Nat.reduceMod, Nat.reduceMul, Nat.reduceDiv, Nat.reduceAdd, Nat.reduceSub, Nat.reduceEqDiff, Nat.reduceBEq, Nat.reduceLT, Nat.reduceLeDiff, reduceCtorEq]) | (refine ⟨_, hV _, ?_⟩; simp only [push_cast, ↓brB_true, ↓brB_false, ↓reduceIte, Nat.reduceMod, Nat.reduceMul, Nat.reduceDiv, Nat.reduceAdd, Nat.reduceSub, Nat.reduceEqDiff, Nat.reduceBEq, Nat.reduceLT, Nat.reduceLeDiff, reduceCtorEq]) | (refine ⟨_, l1Has_fn (gl a.next _) _ (hr _), ?_⟩; simp only [push_cast, ↓brB_true, ↓brB_false, ↓reduceIte, Nat.reduceMod, Nat.reduceMul, Nat.reduceDiv, Nat.reduceAdd, Nat.reduceSub, Nat.reduceEqDiff, Nat.reduceBEq, Nat.reduceLT, Nat.reduceLeDiff, reduceCtorEq]) | apply And.intro | (intro hg; (try simp only [push_cast] at hg)))
      all_goals first | exact True.intro | exact rfl | contradiction | omega | with_reducible assumption | (refine hE _ _ ?_ ?_; kernel_rfl) | (exact getE_dII (by omega)) | skip
      all_goals clear hE E
      all_goals first | (refine hK _ ?_; clear hK K) | (simp only [push_cast, ↓brB_true, ↓brB_false, ↓reduceIte, Nat.reduceMod, Nat.reduceMul, Nat.reduceDiv, Nat.reduceAdd, Nat.reduceSub, Nat.reduceEqDiff, Nat.reduceBEq, Nat.reduceLT, Nat.reduceLeDiff, reduceCtorEq]; done)
      all_goals refine awp_cond rfl (fun hc => ?_) (fun hc => ?_)
      all_goals (first | (cases hc; done) | skip)
      all_goals (try simp only [push_cast] at hc)
      all_goals first
        | (
            refine awp_skip ?_
            (try simp only [AThen, ABlk, reduceIte, Nat.reduceEqDiff]); refine hK4 _ ?_
            refine awp_region tyOk tyPos [] rfl ?_
            all_goals simp only [push_cast, ↓brB_true, ↓brB_false, ↓reduceIte, Nat.reduceMod, Nat.reduceMul, Nat.reduceDiv, Nat.reduceAdd, Nat.reduceSub, Nat.reduceEqDiff, Nat.reduceBEq, Nat.reduceLT, Nat.reduceLeDiff, reduceCtorEq]
            all_goals repeat' (first | (apply brB_mk <;> (intro hg; (try simp only [push_cast] at hg))) | (refine ⟨_, hA, ?_⟩; simp only [push_cast, ↓brB_true, ↓brB_false, ↓reduceIte, Nat.reduceMod, Nat.reduceMul, Nat.reduceDiv, Nat.reduceAdd, Nat.reduceSub, Nat.reduceEqDiff, Nat.reduceBEq, Nat.reduceLT, Nat.reduceLeDiff, reduceCtorEq]) | (refine ⟨_, hS, ?_⟩; simp only [push_cast, ↓brB_true, ↓brB_false, ↓reduceIte, Nat.reduceMod, Nat.reduceMul, Nat.reduceDiv, Nat.reduceAdd, Nat.reduceSub, Nat.reduceEqDiff, Nat.reduceBEq, Nat.reduceLT, Nat.reduceLeDiff, reduceCtorEq]) | (refine ⟨_, hV _, ?_⟩; simp only [push_cast, ↓brB_true, ↓brB_false, ↓reduceIte, Nat.reduceMod, Nat.reduceMul, Nat.reduceDiv, Nat.reduceAdd, Nat.reduceSub, Nat.reduceEqDiff, Nat.reduceBEq, Nat.reduceLT, Nat.reduceLeDiff, reduceCtorEq]) | (refine ⟨_, l1Has_fn (gl a.next _) _ (hr _), ?_⟩; simp only [push_cast, ↓brB_true, ↓brB_false, ↓reduceIte, Nat.reduceMod, Nat.reduceMul, Nat.reduceDiv, Nat.reduceAdd, Nat.reduceSub, Nat.reduceEqDiff, Nat.reduceBEq, Nat.reduceLT, Nat.reduceLeDiff, reduceCtorEq]) | apply And.intro | (intro hg; (try simp only [push_cast] at hg)))
            all_goals first | exact True.intro | exact rfl | contradiction | omega | with_reducible assumption | (exact getE_dII (by omega)) | skip
            refine hL0 _ ⟨k + 1, ⟨by omega, fun j hj => (by
                by_cases hjk : j = k
                · subst hjk; omega
                · exact hall j (by omega)), fun j h1 hj => (by
                by_cases hjk : j = k
                · subst hjk; first | assumption | (exfalso; omega)
                · exact hall2 j h1 (by omega))⟩, by omega, ?_⟩
            refine cov_of rfl ?_ ?_ ?_ <;> simp only [covS, covL, push_cast, ↓brB_true, ↓brB_false, ↓reduceIte, Nat.reduceMod, Nat.reduceMul, Nat.reduceDiv, Nat.reduceAdd, Nat.reduceSub, Nat.reduceEqDiff, Nat.reduceBEq, Nat.reduceLT, Nat.reduceLeDiff, reduceCtorEq]
            done)
        | (
            refine awp_seq' fun K hK => ?_
            refine awp_region tyOk tyPos [] rfl ?_
            all_goals simp only [push_cast, ↓brB_true, ↓brB_false, ↓reduceIte, Nat.reduceMod, Nat.reduceMul, Nat.reduceDiv, Nat.reduceAdd, Nat.reduceSub, Nat.reduceEqDiff, Nat.reduceBEq, Nat.reduceLT, Nat.reduceLeDiff, reduceCtorEq]
            all_goals repeat' (first | (apply brB_mk <;> (intro hg; (try simp only [push_cast] at hg))) | (refine ⟨_, hA, ?_⟩; simp only [push_cast, ↓brB_true, ↓brB_false, ↓reduceIte, Nat.reduceMod, Nat.reduceMul, Nat.reduceDiv, Nat.reduceAdd, Nat.reduceSub, Nat.reduceEqDiff, Nat.reduceBEq, Nat.reduceLT, Nat.reduceLeDiff, reduceCtorEq]) | (refine ⟨_, hS, ?_⟩; simp only [push_cast, ↓brB_true, ↓brB_false, ↓reduceIte, Nat.reduceMod, Nat.reduceMul, Nat.reduceDiv, Nat.reduceAdd, Nat.reduceSub, Nat.reduceEqDiff, Nat.reduceBEq, Nat.reduceLT, Nat.reduceLeDiff, reduceCtorEq]) | (refine ⟨_, hV _, ?_⟩; simp only [push_cast, ↓brB_true, ↓brB_false, ↓reduceIte, Nat.reduceMod, Nat.reduceMul, Nat.reduceDiv, Nat.reduceAdd, Nat.reduceSub, Nat.reduceEqDiff, Nat.reduceBEq, Nat.reduceLT, Nat.reduceLeDiff, reduceCtorEq]) | (refine ⟨_, l1Has_fn (gl a.next _) _ (hr _), ?_⟩; simp only [push_cast, ↓brB_true, ↓brB_false, ↓reduceIte, Nat.reduceMod, Nat.reduceMul, Nat.reduceDiv, Nat.reduceAdd, Nat.reduceSub, Nat.reduceEqDiff, Nat.reduceBEq, Nat.reduceLT, Nat.reduceLeDiff, reduceCtorEq]) | apply And.intro | (intro hg; (try simp only [push_cast] at hg)))
            all_goals first | exact True.intro | exact rfl | contradiction | omega | with_reducible assumption | (exact getE_dII (by omega)) | skip
            all_goals first | (refine hK _ ?_; clear hK K) | (simp only [push_cast, ↓brB_true, ↓brB_false, ↓reduceIte, Nat.reduceMod, Nat.reduceMul, Nat.reduceDiv, Nat.reduceAdd, Nat.reduceSub, Nat.reduceEqDiff, Nat.reduceBEq, Nat.reduceLT, Nat.reduceLeDiff, reduceCtorEq]; done)
            refine awp_ret ?_
            (try simp only [AThen, ABlk])
            refine ⟨Or.inl rfl, ?_⟩
            simp only [RetOk, push_cast, ↓brB_true, ↓brB_false, ↓reduceIte, Nat.reduceMod, Nat.reduceMul, Nat.reduceDiv, Nat.reduceAdd, Nat.reduceSub, Nat.reduceEqDiff, Nat.reduceBEq, Nat.reduceLT, Nat.reduceLeDiff, reduceCtorEq]
            symm
            rw [Bool.eq_false_iff, ne_eq, Bool.and_eq_true, lassoB_iff]
            rintro ⟨h0, h1, h2, h3⟩
            first | (have := h2 k (by omega); omega) | (have := h3 k (by omega) (by omega); rw [show hasB _ _ = false from by assumption] at this; cases this)
            done)
    ·
      refine awp_exit ?_
      (try simp only [AThen, ABlk, reduceIte, Nat.reduceEqDiff]); refine hK2 _ ?_
      refine awp_seq' fun K hK => ?_
      refine awp_region tyOk tyPos [] rfl ?_
      all_goals simp only [push_cast, ↓brB_true, ↓brB_false, ↓reduceIte, Nat.reduceMod, Nat.reduceMul, Nat.reduceDiv, Nat.reduceAdd, Nat.reduceSub, Nat.reduceEqDiff, Nat.reduceBEq, Nat.reduceLT, Nat.reduceLeDiff, reduceCtorEq]
      all_goals repeat' (first | (apply brB_mk <;> (intro hg; (try simp only [push_cast] at hg))) | (refine ⟨_, hA, ?_⟩; simp only [push_cast, ↓brB_true, ↓brB_false, ↓reduceIte, Nat.reduceMod, Nat.reduceMul, Nat.reduceDiv, Nat.reduceAdd, Nat.reduceSub, Nat.reduceEqDiff, Nat.reduceBEq, Nat.reduceLT, Nat.reduceLeDiff, reduceCtorEq]) | (refine ⟨_, hS, ?_⟩; simp only [push_cast, ↓brB_true, ↓brB_false, ↓reduceIte, Nat.reduceMod, Nat.reduceMul, Nat.reduceDiv, Nat.reduceAdd, Nat.reduceSub, Nat.reduceEqDiff, Nat.reduceBEq, Nat.reduceLT, Nat.reduceLeDiff, reduceCtorEq]) | (refine ⟨_, hV _, ?_⟩; simp only [push_cast, ↓brB_true, ↓brB_false, ↓reduceIte, Nat.reduceMod, Nat.reduceMul, Nat.reduceDiv, Nat.reduceAdd, Nat.reduceSub, Nat.reduceEqDiff, Nat.reduceBEq, Nat.reduceLT, Nat.reduceLeDiff, reduceCtorEq]) | (refine ⟨_, l1Has_fn (gl a.next _) _ (hr _), ?_⟩; simp only [push_cast, ↓brB_true, ↓brB_false, ↓reduceIte, Nat.reduceMod, Nat.reduceMul, Nat.reduceDiv, Nat.reduceAdd, Nat.reduceSub, Nat.reduceEqDiff, Nat.reduceBEq, Nat.reduceLT, Nat.reduceLeDiff, reduceCtorEq]) | apply And.intro | (intro hg; (try simp only [push_cast] at hg)))
      all_goals first | exact True.intro | exact rfl | contradiction | omega | with_reducible assumption | (exact getE_dII (by omega)) | skip
      all_goals first | (refine hK _ ?_; clear hK K) | (simp only [push_cast, ↓brB_true, ↓brB_false, ↓reduceIte, Nat.reduceMod, Nat.reduceMul, Nat.reduceDiv, Nat.reduceAdd, Nat.reduceSub, Nat.reduceEqDiff, Nat.reduceBEq, Nat.reduceLT, Nat.reduceLeDiff, reduceCtorEq]; done)
      refine awp_ret ?_
      (try simp only [AThen, ABlk])
      refine ⟨Or.inl rfl, ?_⟩
      simp only [RetOk, push_cast, ↓brB_true, ↓brB_false, ↓reduceIte, Nat.reduceMod, Nat.reduceMul, Nat.reduceDiv, Nat.reduceAdd, Nat.reduceSub, Nat.reduceEqDiff, Nat.reduceBEq, Nat.reduceLT, Nat.reduceLeDiff, reduceCtorEq]
      symm
      rw [hok, Bool.true_and]
      exact lassoB_iff.2 ⟨by omega, fun j hj => hall j (by omega), fun j h1 hj => hall2 j h1 (by omega)⟩
end Go.Proofs.Ytfmkomllnojkjaa
