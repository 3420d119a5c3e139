/- the laws' helpers of Frac -/
import Derived.Test.YtfipgnbpkbnalaaGDzUB
namespace Go.Proofs.Ytfipgnbpkbnalaa
open Nat (reduceMod reduceMul reduceDiv reduceAdd reduceSub reduceEqDiff reduceLT reduceLeDiff)
open Go.RowKit
set_option linter.unusedVariables false
set_option linter.unusedSimpArgs false

structure Fr where
  num : Int
  den : Int
  deriving DecidableEq
def dFr (x : Fr) : List D := [.int .i64 x.num, .int .i64 x.den]
set_option maxHeartbeats 1000000 in
theorem eqFr_fn (x : Fr) : Fn Try.prog tyT 48 [.agg (dFr x), .agg (dFr x)] [.c (.bool true)] := by
  unfold dFr
  refine Fn_of (fn := Try.f48) (ts := [4]) Try.func48 (by kernel_rfl) rfl rfl (by rw [Try.ntmps48]; exact Nat.le_of_ble_eq_true rfl) rfl (by simp only [szA, List.mem_cons, List.not_mem_nil, or_false, forall_eq_or_imp, forall_eq, VT.cells, szL]; try decide) ?_
  rw [Try.ntmps48]
  simp only [push_cast, ↓brB_true, ↓brB_false, ↓reduceIte, reduceMod, reduceMul, reduceDiv, reduceAdd, reduceSub, reduceEqDiff, Nat.reduceBEq, reduceLT, reduceLeDiff, reduceCtorEq]
  refine awp_seq' fun K hK => ?_
  refine awp_region tyOk tyPos [] rfl ?_
  simp only [push_cast, ↓brB_true, ↓brB_false, ↓reduceIte, reduceMod, reduceMul, reduceDiv, reduceAdd, reduceSub, reduceEqDiff, Nat.reduceBEq, reduceLT, reduceLeDiff, reduceCtorEq]
  repeat' apply And.intro
  all_goals first | exact True.intro | exact rfl | omega | with_reducible assumption | (simp only [List.length_set, List.length_append, List.length_replicate, List.length_cons, List.length_nil]; omega) | skip
  all_goals first | (refine hK _ ?_; clear hK K) | (simp only [push_cast]; done)
  refine awp_seq' fun K0 hK0 => ?_
  refine awp_seq' fun K hK => ?_
  refine awp_region tyOk tyPos [] rfl ?_
  simp only [push_cast, ↓brB_true, ↓brB_false, ↓reduceIte, reduceMod, reduceMul, reduceDiv, reduceAdd, reduceSub, reduceEqDiff, Nat.reduceBEq, reduceLT, reduceLeDiff, reduceCtorEq]
  repeat' apply And.intro
  all_goals first | exact True.intro | exact rfl | omega | with_reducible assumption | (simp only [List.length_set, List.length_append, List.length_replicate, List.length_cons, List.length_nil]; omega) | skip
  all_goals first | (refine hK _ ?_; clear hK K) | (simp only [push_cast]; done)
  refine awp_cond rfl (fun hc => by simp at hc) (fun _ => ?_)
  refine awp_skip ?_
  (try simp only [AThen, ABlk, reduceIte, reduceEqDiff]); refine hK0 _ ?_
  refine awp_seq' fun K1 hK1 => ?_
  refine awp_seq' fun K hK => ?_
  refine awp_region tyOk tyPos [] rfl ?_
  simp only [push_cast, ↓brB_true, ↓brB_false, ↓reduceIte, reduceMod, reduceMul, reduceDiv, reduceAdd, reduceSub, reduceEqDiff, Nat.reduceBEq, reduceLT, reduceLeDiff, reduceCtorEq]
  repeat' apply And.intro
  all_goals first | exact True.intro | exact rfl | omega | with_reducible assumption | (simp only [List.length_set, List.length_append, List.length_replicate, List.length_cons, List.length_nil]; omega) | skip
  all_goals first | (refine hK _ ?_; clear hK K) | (simp only [push_cast]; done)
  refine awp_cond rfl (fun hc => by simp at hc) (fun _ => ?_)
  refine awp_skip ?_
  (try simp only [AThen, ABlk, reduceIte, reduceEqDiff]); refine hK1 _ ?_
  refine awp_seq' fun K hK => ?_
  refine awp_region tyOk tyPos [] rfl ?_
  simp only [push_cast, ↓brB_true, ↓brB_false, ↓reduceIte, reduceMod, reduceMul, reduceDiv, reduceAdd, reduceSub, reduceEqDiff, Nat.reduceBEq, reduceLT, reduceLeDiff, reduceCtorEq]
  repeat' apply And.intro
  all_goals first | exact True.intro | exact rfl | omega | with_reducible assumption | (simp only [List.length_set, List.length_append, List.length_replicate, List.length_cons, List.length_nil]; omega) | skip
  all_goals first | (refine hK _ ?_; clear hK K) | (simp only [push_cast]; done)
  refine awp_ret ?_
  (try simp only [AThen, ABlk])
  refine ⟨Or.inl rfl, ?_⟩
  simp only [RetOk, push_cast, ↓brB_true, ↓brB_false, ↓reduceIte, reduceMod, reduceMul, reduceDiv, reduceAdd, reduceSub, reduceEqDiff, Nat.reduceBEq, reduceLT, reduceLeDiff, reduceCtorEq]
end Go.Proofs.Ytfipgnbpkbnalaa
