/- fractions: both sides' tests -/
import Derived.Test.YtdbecmmeifdafaaLoopMeanzmb
namespace Go.Proofs.Ytdbecmmeifdafaa
open Nat renaming reduceMod → zA, reduceMul → zB, reduceDiv → zC, reduceAdd → zD, reduceSub → zE, reduceEqDiff → zF, reduceBEq → zG, reduceLT → zH, reduceLeDiff → zI
open Go.RowKit
set_option linter.unusedVariables false
set_option linter.unusedSimpArgs false

def fracB (f : Fr) : Bool := decide ((-1000000 ≤ f.num ∧ f.num ≤ 1000000) ∧ (1 ≤ f.den ∧ f.den ≤ 1000000) ∧ (Int.gcd f.num f.den : Int) = 1)
set_option maxRecDepth 20000 in
set_option maxHeartbeats 4000000 in
theorem isFrac_fn (f : Fr) : Fn Try.prog tyT 76 [.agg (dFr f)] [.c (.bool (fracB f))] := by
  have hC := fun h0 h1 => commonOf_fn (if -f.num > f.num then -f.num else f.num) f.den h0 h1
  rw [show Int.gcd (if -f.num > f.num then -f.num else f.num) f.den = Int.gcd f.num f.den from by rw [natAbs_max]; simp [Int.gcd]] at hC
  unfold dFr
  refine Fn_of (fn := Try.f76) (ts := [2]) Try.func76 (by kernel_rfl) rfl rfl (by rw [Try.ntmps76]; exact Nat.le_of_ble_eq_true rfl) rfl (by simp only [szA, List.mem_cons, List.not_mem_nil, or_false, forall_eq_or_imp, forall_eq, VT.cells, szL]; try decide) ?_
  rw [Try.ntmps76]
  simp only [push_cast, ↓brB_true, ↓brB_false, ↓reduceIte, zA, zB, zC, zD, zE, zF, zG, zH, zI, reduceCtorEq]
  refine awp_seq' fun K hK => ?_
  refine awp_region tyOk tyPos [] rfl ?_
  simp only [push_cast, ↓brB_true, ↓brB_false, ↓reduceIte, zA, zB, zC, zD, zE, zF, zG, zH, zI, reduceCtorEq]
  repeat' apply And.intro
  all_goals first | exact True.intro | exact rfl | omega | with_reducible assumption | (simp only [List.length_set, List.length_append, List.length_replicate, List.length_cons, List.length_nil]; omega) | skip
  all_goals first | (refine hK _ ?_; clear hK K) | (simp only [push_cast]; done)
  refine awp_seq' fun K hK => ?_
  refine awp_regionN false tyOk tyPos ?_ rfl ?_
  · kernel_rfl
  all_goals refine seqE_cut 28 fun K9 hK9 => ?_
  all_goals simp only [push_cast, ↓brB_true, ↓brB_false, ↓reduceIte, zA, zB, zC, zD, zE, zF, zG, zH, zI, reduceCtorEq]
  all_goals repeat' (first | (apply brB_mk <;> (intro hg; (try simp only [push_cast] at hg))) | (refine ⟨_, hC (by rw [natAbs_max]; omega) (by omega), ?_⟩; simp only [push_cast, ↓brB_true, ↓brB_false, ↓reduceIte, zA, zB, zC, zD, zE, zF, zG, zH, zI, reduceCtorEq]) | apply And.intro | (intro hg; (try simp only [push_cast] at hg)))
  all_goals first | exact True.intro | exact rfl | contradiction | omega | with_reducible assumption | skip
  all_goals first | (refine hK9 _ ?_; clear hK9 K9) | (simp only [push_cast]; done)
  all_goals simp only [push_cast, ↓brB_true, ↓brB_false, ↓reduceIte, zA, zB, zC, zD, zE, zF, zG, zH, zI, reduceCtorEq]
  all_goals repeat' (first | (apply brB_mk <;> (intro hg; (try simp only [push_cast] at hg))) | (refine ⟨_, hC (by rw [natAbs_max]; omega) (by omega), ?_⟩; simp only [push_cast, ↓brB_true, ↓brB_false, ↓reduceIte, zA, zB, zC, zD, zE, zF, zG, zH, zI, reduceCtorEq]) | apply And.intro | (intro hg; (try simp only [push_cast] at hg)))
  all_goals first | exact True.intro | exact rfl | contradiction | omega | with_reducible assumption | skip
  all_goals first | (refine hK _ ?_; clear hK K) | (simp only [push_cast]; done)
  all_goals (
      refine awp_ret ?_
      (try simp only [AThen, ABlk])
      refine ⟨Or.inl rfl, ?_⟩
      simp only [RetOk, push_cast, ↓brB_true, ↓brB_false, ↓reduceIte, zA, zB, zC, zD, zE, zF, zG, zH, zI, reduceCtorEq]
      unfold fracB
      first | exact decide_eq_decide.2 (by omega) | exact (decide_eq_true (by omega)).symm | exact (decide_eq_false (by omega)).symm)
end Go.Proofs.Ytdbecmmeifdafaa
