/- The statement on ExactMeanBy: both sides answer alike, for every argument. -/
import Derived.Test.YtfipgnbpkbnalaaGDzUB
import Derived.Test.YtfipgnbpkbnalaaGOzUB
import Derived.Test.YtfipgnbpkbnalaaOWeightedzUB
import Derived.Test.YtfipgnbpkbnalaaMbzUB
namespace Go.Proofs.Ytfipgnbpkbnalaa.lawExactMeanBy
open Nat (reduceMod reduceMul reduceDiv reduceAdd reduceSub reduceEqDiff reduceLT reduceLeDiff)
open Go.ChangeShapes Go.WideShapes Go.ChangeAt Go.RowKit Go.Joins
set_option linter.unusedVariables false
set_option linter.unusedSimpArgs false

theorem iotF_take (k : Int) (n : Nat) : List.take n (iotF k n) = iotF k n := List.take_of_length_le (by rw [iotF_len]; exact Nat.le_refl _)
attribute [push_cast] iotF_take
theorem own_law : ownKnob Try.prog.godebug = none := by kernel_rfl
theorem lay_law : laidOutB Try.prog = true := by kernel_rfl

set_option maxRecDepth 20000 in
set_option maxHeartbeats 4000000 in
theorem law (a0 : Wt) (a1 : List Int) (l0 : a0.Ln 9223372036854775807) (l1 : LnI 9223372036854775807 a1) (r0 : List Fr) (q0 : a0.Ln 1048576 → LnI 1048576 a1 → r0.length ≤ 1048576)
    (hS : a0.Ln 1048576 → LnI 1048576 a1 → Fn Try.prog tyT 22 [.agg (dWt a0), .c (DI a1)] [.c (.lst 43 (dFrs r0))]) (hI : a0.Ln 1048576 → LnI 1048576 a1 → Fn Try.prog tyT 24 [.agg (dWt a0), .c (DI a1)] [.c (.lst 43 (dFrs r0))]) : Fn Try.prog tyT 5 [.agg (dWt a0), .c (DI a1)] [.c (.bool true)] := by
  simp only [dWt] at hS hI ⊢
  refine Fn_of (fn := Try.f5) (ts := [4]) Try.func5 (by kernel_rfl) rfl rfl (by rw [Try.ntmps5]; exact Nat.le_of_ble_eq_true rfl) rfl (by simp only [szA, List.mem_cons, List.not_mem_nil, or_false, forall_eq_or_imp, forall_eq, VT.cells, szL]; try decide) ?_
  rw [Try.ntmps5]
  simp only [push_cast, ↓brB_true, ↓brB_false, ↓reduceIte, reduceMod, reduceMul, reduceDiv, reduceAdd, reduceSub, reduceEqDiff, Nat.reduceBEq, reduceLT, reduceLeDiff, reduceCtorEq]
  refine awp_seq' fun K hK => ?_
  refine awp_region tyOk tyPos [] rfl ?_
  simp only [push_cast, ↓brB_true, ↓brB_false, ↓reduceIte, reduceMod, reduceMul, reduceDiv, reduceAdd, reduceSub, reduceEqDiff, Nat.reduceBEq, reduceLT, reduceLeDiff, reduceCtorEq]
  repeat' apply And.intro
  all_goals first | exact True.intro | exact rfl | omega | with_reducible assumption | (simp only [List.length_set, List.length_append, List.length_replicate, List.length_cons, List.length_nil]; omega) | skip
  all_goals first | (refine hK _ ?_; clear hK K) | (simp only [push_cast]; done)
  refine awp_seq' fun K0 hK0 => ?_
  refine awp_seq' fun K hK => ?_
  refine awp_region tyOk tyPos [] rfl ?_
  simp only [push_cast, ↓brB_true, ↓brB_false, ↓reduceIte, reduceMod, reduceMul, reduceDiv, reduceAdd, reduceSub, reduceEqDiff, Nat.reduceBEq, reduceLT, reduceLeDiff, reduceCtorEq]
  repeat' apply And.intro
  all_goals first | exact True.intro | exact rfl | omega | with_reducible assumption | (simp only [List.length_set, List.length_append, List.length_replicate, List.length_cons, List.length_nil]; omega) | skip
  all_goals first | (refine hK _ ?_; clear hK K) | (simp only [push_cast]; done)
  refine awp_cond rfl (fun hc => ?_) (fun hc => ?_) <;> (try simp only [push_cast] at hc)
  ·
    refine awp_seq' fun K hK => ?_
    refine awp_region tyOk tyPos [] rfl ?_
    simp only [push_cast, ↓brB_true, ↓brB_false, ↓reduceIte, reduceMod, reduceMul, reduceDiv, reduceAdd, reduceSub, reduceEqDiff, Nat.reduceBEq, reduceLT, reduceLeDiff, reduceCtorEq]
    repeat' apply And.intro
    all_goals first | exact True.intro | exact rfl | omega | with_reducible assumption | (simp only [List.length_set, List.length_append, List.length_replicate, List.length_cons, List.length_nil]; omega) | skip
    all_goals first | (refine hK _ ?_; clear hK K) | (simp only [push_cast]; done)
    refine awp_ret ?_
    (try simp only [AThen, ABlk])
    refine ⟨Or.inl rfl, ?_⟩
    simp only [RetOk, push_cast, ↓brB_true, ↓brB_false, ↓reduceIte, reduceMod, reduceMul, reduceDiv, reduceAdd, reduceSub, reduceEqDiff, Nat.reduceBEq, reduceLT, reduceLeDiff, reduceCtorEq]
  refine awp_skip ?_
  (try simp only [AThen, ABlk, reduceIte, reduceEqDiff]); refine hK0 _ ?_
  refine awp_seq' fun K hK => ?_
  refine awp_region tyOk tyPos [] rfl ?_
  simp only [push_cast, ↓brB_true, ↓brB_false, ↓reduceIte, reduceMod, reduceMul, reduceDiv, reduceAdd, reduceSub, reduceEqDiff, Nat.reduceBEq, reduceLT, reduceLeDiff, reduceCtorEq]
  repeat' apply And.intro
  all_goals first | exact True.intro | exact rfl | omega | with_reducible assumption | (simp only [List.length_set, List.length_append, List.length_replicate, List.length_cons, List.length_nil]; omega) | skip
  all_goals first | (refine hK _ ?_; clear hK K) | (simp only [push_cast]; done)
  have hA0 := szWt_fn a0 ((1048576 : Int)) (by omega) (by omega) l0
  simp only [dWt] at hA0
  refine awp_seq' fun K hK => ?_
  refine awp_region tyOk tyPos [] rfl ?_
  simp only [push_cast, ↓brB_true, ↓brB_false, ↓reduceIte, reduceMod, reduceMul, reduceDiv, reduceAdd, reduceSub, reduceEqDiff, Nat.reduceBEq, reduceLT, reduceLeDiff, reduceCtorEq]
  refine ⟨_, hA0, ?_⟩
  simp only [push_cast, ↓brB_true, ↓brB_false, ↓reduceIte, reduceMod, reduceMul, reduceDiv, reduceAdd, reduceSub, reduceEqDiff, Nat.reduceBEq, reduceLT, reduceLeDiff, reduceCtorEq]
  repeat' apply And.intro
  all_goals first | exact True.intro | exact rfl | omega | with_reducible assumption | (simp only [List.length_set, List.length_append, List.length_replicate, List.length_cons, List.length_nil]; omega) | skip
  refine hK _ ?_
  clear hK K
  clear hA0
  refine awp_seq' fun K1 hK1 => ?_
  refine awp_seq' fun K hK => ?_
  refine awp_region tyOk tyPos [] rfl ?_
  simp only [push_cast, ↓brB_true, ↓brB_false, ↓reduceIte, reduceMod, reduceMul, reduceDiv, reduceAdd, reduceSub, reduceEqDiff, Nat.reduceBEq, reduceLT, reduceLeDiff, reduceCtorEq]
  repeat' apply And.intro
  all_goals first | exact True.intro | exact rfl | omega | with_reducible assumption | (simp only [List.length_set, List.length_append, List.length_replicate, List.length_cons, List.length_nil]; omega) | skip
  all_goals first | (refine hK _ ?_; clear hK K) | (simp only [push_cast]; done)
  by_cases hn1 : (1048576 : Int) < (a0.tot : Nat)
  · rw [szl_neg hn1]
    refine awp_cond rfl (fun _ => ?_) (fun hc => absurd hc (by decide))
    refine awp_seq' fun K hK => ?_
    refine awp_region tyOk tyPos [] rfl ?_
    simp only [push_cast, ↓brB_true, ↓brB_false, ↓reduceIte, reduceMod, reduceMul, reduceDiv, reduceAdd, reduceSub, reduceEqDiff, Nat.reduceBEq, reduceLT, reduceLeDiff, reduceCtorEq]
    repeat' apply And.intro
    all_goals first | exact True.intro | exact rfl | omega | with_reducible assumption | (simp only [List.length_set, List.length_append, List.length_replicate, List.length_cons, List.length_nil]; omega) | skip
    all_goals first | (refine hK _ ?_; clear hK K) | (simp only [push_cast]; done)
    refine awp_ret ?_
    (try simp only [AThen, ABlk])
    refine ⟨Or.inl rfl, ?_⟩
    simp only [RetOk, push_cast, ↓brB_true, ↓brB_false, ↓reduceIte, reduceMod, reduceMul, reduceDiv, reduceAdd, reduceSub, reduceEqDiff, Nat.reduceBEq, reduceLT, reduceLeDiff, reduceCtorEq]
  rw [szl_pos hn1]
  refine awp_cond rfl (fun hc => by simp only [decide_eq_true_eq] at hc; omega) (fun _ => ?_)
  refine awp_skip ?_
  (try simp only [AThen, ABlk, reduceIte, reduceEqDiff]); refine hK1 _ ?_
  have L0 : a0.Ln 1048576 := Wt.ln_of (by omega)
  have L1 : LnI 1048576 a1 := LnI_of (by omega)
  have Q0 := q0 L0 L1
  have C0' := Wt.cnt_le L0
  have C0 := C0'
  unfold Wt.cnt at C0
  have C1 := cnt_LI L1
  have D0 := Q0
  replace hS := hS L0 L1
  replace hI := hI L0 L1
  have hA0 := toWt_fn a0 L0
  simp only [dWt] at hA0
  have hA1 := toI_fn a1 L1
  refine awp_seq' fun K hK => ?_
  refine awp_region tyOk tyPos [] rfl ?_
  simp only [push_cast, ↓brB_true, ↓brB_false, ↓reduceIte, reduceMod, reduceMul, reduceDiv, reduceAdd, reduceSub, reduceEqDiff, Nat.reduceBEq, reduceLT, reduceLeDiff, reduceCtorEq]
  refine ⟨_, hA0, ?_⟩
  simp only [push_cast, ↓brB_true, ↓brB_false, ↓reduceIte, reduceMod, reduceMul, reduceDiv, reduceAdd, reduceSub, reduceEqDiff, Nat.reduceBEq, reduceLT, reduceLeDiff, reduceCtorEq]
  refine ⟨_, hA1, ?_⟩
  simp only [push_cast, ↓brB_true, ↓brB_false, ↓reduceIte, reduceMod, reduceMul, reduceDiv, reduceAdd, reduceSub, reduceEqDiff, Nat.reduceBEq, reduceLT, reduceLeDiff, reduceCtorEq]
  refine ⟨_, hS, ?_⟩
  simp only [push_cast, ↓brB_true, ↓brB_false, ↓reduceIte, reduceMod, reduceMul, reduceDiv, reduceAdd, reduceSub, reduceEqDiff, Nat.reduceBEq, reduceLT, reduceLeDiff, reduceCtorEq]
  repeat' apply And.intro
  all_goals first | exact True.intro | exact rfl | omega | with_reducible assumption | (simp only [List.length_set, List.length_append, List.length_replicate, List.length_cons, List.length_nil]; omega) | skip
  refine hK _ ?_
  clear hK K
  clear hA0 hA1
  have hA0 := toWt_fn a0 L0
  simp only [dWt] at hA0
  refine awp_seq' fun K hK => ?_
  refine awp_region tyOk tyPos [] rfl ?_
  simp only [push_cast, ↓brB_true, ↓brB_false, ↓reduceIte, reduceMod, reduceMul, reduceDiv, reduceAdd, reduceSub, reduceEqDiff, Nat.reduceBEq, reduceLT, reduceLeDiff, reduceCtorEq]
  refine ⟨_, hA0, ?_⟩
  simp only [push_cast, ↓brB_true, ↓brB_false, ↓reduceIte, reduceMod, reduceMul, reduceDiv, reduceAdd, reduceSub, reduceEqDiff, Nat.reduceBEq, reduceLT, reduceLeDiff, reduceCtorEq]
  repeat' apply And.intro
  all_goals first | exact True.intro | exact rfl | omega | with_reducible assumption | (simp only [List.length_set, List.length_append, List.length_replicate, List.length_cons, List.length_nil]; omega) | skip
  refine hK _ ?_
  clear hK K
  clear hA0
  have hA0 := toI_fn a1 L1
  refine awp_seq' fun K hK => ?_
  refine awp_region tyOk tyPos [] rfl ?_
  simp only [push_cast, ↓brB_true, ↓brB_false, ↓reduceIte, reduceMod, reduceMul, reduceDiv, reduceAdd, reduceSub, reduceEqDiff, Nat.reduceBEq, reduceLT, reduceLeDiff, reduceCtorEq]
  refine ⟨_, hA0, ?_⟩
  simp only [push_cast, ↓brB_true, ↓brB_false, ↓reduceIte, reduceMod, reduceMul, reduceDiv, reduceAdd, reduceSub, reduceEqDiff, Nat.reduceBEq, reduceLT, reduceLeDiff, reduceCtorEq]
  repeat' apply And.intro
  all_goals first | exact True.intro | exact rfl | omega | with_reducible assumption | (simp only [List.length_set, List.length_append, List.length_replicate, List.length_cons, List.length_nil]; omega) | skip
  refine hK _ ?_
  clear hK K
  clear hA0
  refine awp_seq' fun K hK => ?_
  refine awp_region tyOk tyPos [] rfl ?_
  simp only [push_cast, ↓brB_true, ↓brB_false, ↓reduceIte, reduceMod, reduceMul, reduceDiv, reduceAdd, reduceSub, reduceEqDiff, Nat.reduceBEq, reduceLT, reduceLeDiff, reduceCtorEq]
  refine ⟨_, hI, ?_⟩
  simp only [push_cast, ↓brB_true, ↓brB_false, ↓reduceIte, reduceMod, reduceMul, reduceDiv, reduceAdd, reduceSub, reduceEqDiff, Nat.reduceBEq, reduceLT, reduceLeDiff, reduceCtorEq]
  repeat' apply And.intro
  all_goals first | exact True.intro | exact rfl | omega | with_reducible assumption | (simp only [List.length_set, List.length_append, List.length_replicate, List.length_cons, List.length_nil]; omega) | skip
  refine hK _ ?_
  clear hK K
  refine awp_seq' fun K2 hK2 => ?_
  have hA0 := eqFracS_fn r0 Q0
  refine awp_seq' fun K hK => ?_
  refine awp_region tyOk tyPos [] rfl ?_
  simp only [push_cast, ↓brB_true, ↓brB_false, ↓reduceIte, reduceMod, reduceMul, reduceDiv, reduceAdd, reduceSub, reduceEqDiff, Nat.reduceBEq, reduceLT, reduceLeDiff, reduceCtorEq]
  refine ⟨_, hA0, ?_⟩
  simp only [push_cast, ↓brB_true, ↓brB_false, ↓reduceIte, reduceMod, reduceMul, reduceDiv, reduceAdd, reduceSub, reduceEqDiff, Nat.reduceBEq, reduceLT, reduceLeDiff, reduceCtorEq]
  repeat' apply And.intro
  all_goals first | exact True.intro | exact rfl | omega | with_reducible assumption | (simp only [List.length_set, List.length_append, List.length_replicate, List.length_cons, List.length_nil]; omega) | skip
  refine hK _ ?_
  clear hK K
  clear hA0
  refine awp_cond rfl (fun hc => by first | (cases hc; done) | (simp at hc; done) | (simp only [decide_eq_true_eq] at hc; omega)) (fun _ => ?_)
  refine awp_skip ?_
  (try simp only [AThen, ABlk, reduceIte, reduceEqDiff]); refine hK2 _ ?_
  refine awp_seq' fun K3 hK3 => ?_
  have hA0 := toWt_fn a0 L0
  simp only [dWt] at hA0
  have hA1 := eqWt_fn a0 L0
  simp only [dWt] at hA1
  refine awp_seq' fun K hK => ?_
  refine awp_regionD0 false tyOk tyPos tyMix ?_ rfl ?_
  · kernel_rfl
  intro C hC
  simp only [push_cast, ↓brB_true, ↓brB_false, ↓reduceIte, reduceMod, reduceMul, reduceDiv, reduceAdd, reduceSub, reduceEqDiff, Nat.reduceBEq, reduceLT, reduceLeDiff, reduceCtorEq]
  refine ⟨_, hA0, ?_⟩
  simp only [push_cast, ↓brB_true, ↓brB_false, ↓reduceIte, reduceMod, reduceMul, reduceDiv, reduceAdd, reduceSub, reduceEqDiff, Nat.reduceBEq, reduceLT, reduceLeDiff, reduceCtorEq]
  refine ⟨_, hA1, ?_⟩
  simp only [push_cast, ↓brB_true, ↓brB_false, ↓reduceIte, reduceMod, reduceMul, reduceDiv, reduceAdd, reduceSub, reduceEqDiff, Nat.reduceBEq, reduceLT, reduceLeDiff, reduceCtorEq]
  repeat' apply And.intro
  all_goals first | omega | with_reducible assumption | (refine hC _ ?_; kernel_rfl) | (simp only [List.length_set, List.length_append, List.length_replicate, List.length_cons, List.length_nil]; omega) | skip
  refine hK _ ?_
  clear hK K
  clear hA0 hA1
  refine awp_cond rfl (fun hc => by first | (cases hc; done) | (simp at hc; done) | (simp only [decide_eq_true_eq] at hc; omega)) (fun _ => ?_)
  refine awp_skip ?_
  (try simp only [AThen, ABlk, reduceIte, reduceEqDiff]); refine hK3 _ ?_
  refine awp_seq' fun K4 hK4 => ?_
  have hA0 := toI_fn a1 L1
  have hA1 := eqI2_fn a1 L1
  refine awp_seq' fun K hK => ?_
  refine awp_region tyOk tyPos [] rfl ?_
  simp only [push_cast, ↓brB_true, ↓brB_false, ↓reduceIte, reduceMod, reduceMul, reduceDiv, reduceAdd, reduceSub, reduceEqDiff, Nat.reduceBEq, reduceLT, reduceLeDiff, reduceCtorEq]
  refine ⟨_, hA0, ?_⟩
  simp only [push_cast, ↓brB_true, ↓brB_false, ↓reduceIte, reduceMod, reduceMul, reduceDiv, reduceAdd, reduceSub, reduceEqDiff, Nat.reduceBEq, reduceLT, reduceLeDiff, reduceCtorEq]
  refine ⟨_, hA1, ?_⟩
  simp only [push_cast, ↓brB_true, ↓brB_false, ↓reduceIte, reduceMod, reduceMul, reduceDiv, reduceAdd, reduceSub, reduceEqDiff, Nat.reduceBEq, reduceLT, reduceLeDiff, reduceCtorEq]
  repeat' apply And.intro
  all_goals first | exact True.intro | exact rfl | omega | with_reducible assumption | (simp only [List.length_set, List.length_append, List.length_replicate, List.length_cons, List.length_nil]; omega) | skip
  refine hK _ ?_
  clear hK K
  clear hA0 hA1
  refine awp_cond rfl (fun hc => by first | (cases hc; done) | (simp at hc; done) | (simp only [decide_eq_true_eq] at hc; omega)) (fun _ => ?_)
  refine awp_skip ?_
  (try simp only [AThen, ABlk, reduceIte, reduceEqDiff]); refine hK4 _ ?_
  refine awp_seq' fun K hK => ?_
  refine awp_region tyOk tyPos [] rfl ?_
  simp only [push_cast, ↓brB_true, ↓brB_false, ↓reduceIte, reduceMod, reduceMul, reduceDiv, reduceAdd, reduceSub, reduceEqDiff, Nat.reduceBEq, reduceLT, reduceLeDiff, reduceCtorEq]
  repeat' apply And.intro
  all_goals first | exact True.intro | exact rfl | omega | with_reducible assumption | (simp only [List.length_set, List.length_append, List.length_replicate, List.length_cons, List.length_nil]; omega) | skip
  all_goals first | (refine hK _ ?_; clear hK K) | (simp only [push_cast]; done)
  have hA0 := markWt_fn a0 (1) (by omega) (by omega) (Wt.ln_mono (by decide) L0)
  simp only [dWt, mkWt, Wt.cnt] at hA0
  refine awp_seq' fun K hK => ?_
  refine awp_regionG 50 [0, 1, 2] [(0, 2, dI (iot (1) a0.a.owner.length)), (1, 22, dII (mkR (1 + (a0.a.owner.length : Nat)) a0.a.next)), (2, 22, dII (mkR (1 + (a0.a.owner.length : Nat) + (sumL a0.a.next : Nat)) a0.cost))] tyOk tyPos [] rfl ?_
  simp only [push_cast, ↓brB_true, ↓brB_false, ↓reduceIte, reduceMod, reduceMul, reduceDiv, reduceAdd, reduceSub, reduceEqDiff, Nat.reduceBEq, reduceLT, reduceLeDiff, reduceCtorEq]
  refine ⟨_, hA0, ?_⟩
  simp only [push_cast, ↓brB_true, ↓brB_false, ↓reduceIte, reduceMod, reduceMul, reduceDiv, reduceAdd, reduceSub, reduceEqDiff, Nat.reduceBEq, reduceLT, reduceLeDiff, reduceCtorEq]
  refine hK _ ?_
  clear hK K
  clear hA0
  have hA0 := markInt64S_fn a1 (1 + ((a0.a.owner.length : Nat) + (sumL a0.a.next : Nat) + (sumL a0.cost : Nat) : Nat)) (by omega) (by omega)
  refine awp_seq' fun K hK => ?_
  refine awp_regionG 53 [0] [(0, 2, dI (iot (1 + ((a0.a.owner.length : Nat) + (sumL a0.a.next : Nat) + (sumL a0.cost : Nat) : Nat)) a1.length))] tyOk tyPos [] rfl ?_
  simp only [push_cast, ↓brB_true, ↓brB_false, ↓reduceIte, reduceMod, reduceMul, reduceDiv, reduceAdd, reduceSub, reduceEqDiff, Nat.reduceBEq, reduceLT, reduceLeDiff, reduceCtorEq]
  refine ⟨_, hA0, ?_⟩
  simp only [push_cast, ↓brB_true, ↓brB_false, ↓reduceIte, reduceMod, reduceMul, reduceDiv, reduceAdd, reduceSub, reduceEqDiff, Nat.reduceBEq, reduceLT, reduceLeDiff, reduceCtorEq]
  refine hK _ ?_
  clear hK K
  clear hA0
  refine awp_seq' fun K5 hK5 => ?_
  have hA0 := eqFracS_fn r0 Q0
  refine awp_seq' fun K hK => ?_
  refine awp_regionN false tyOk tyPos ?_ rfl ?_
  · kernel_rfl
  simp only [push_cast, ↓brB_true, ↓brB_false, ↓reduceIte, reduceMod, reduceMul, reduceDiv, reduceAdd, reduceSub, reduceEqDiff, Nat.reduceBEq, reduceLT, reduceLeDiff, reduceCtorEq]
  first | (refine brB_mk (fun hg => by (try simp only [decide_eq_true_eq] at hg); omega) (fun hg => ?_)) | skip
  refine ⟨_, hA0, ?_⟩
  simp only [push_cast, ↓brB_true, ↓brB_false, ↓reduceIte, reduceMod, reduceMul, reduceDiv, reduceAdd, reduceSub, reduceEqDiff, Nat.reduceBEq, reduceLT, reduceLeDiff, reduceCtorEq]
  repeat' apply And.intro
  all_goals first | exact True.intro | exact rfl | omega | with_reducible assumption | (simp only [List.length_set, List.length_append, List.length_replicate, List.length_cons, List.length_nil]; omega) | skip
  refine hK _ ?_
  clear hK K
  clear hA0
  refine awp_cond rfl (fun hc => by first | (cases hc; done) | (simp at hc; done) | (simp only [decide_eq_true_eq] at hc; omega)) (fun _ => ?_)
  refine awp_skip ?_
  (try simp only [AThen, ABlk, reduceIte, reduceEqDiff]); refine hK5 _ ?_
  refine awp_seq' fun K hK => ?_
  refine awp_region tyOk tyPos [] rfl ?_
  simp only [push_cast, ↓brB_true, ↓brB_false, ↓reduceIte, reduceMod, reduceMul, reduceDiv, reduceAdd, reduceSub, reduceEqDiff, Nat.reduceBEq, reduceLT, reduceLeDiff, reduceCtorEq]
  repeat' apply And.intro
  all_goals first | exact True.intro | exact rfl | omega | with_reducible assumption | (simp only [List.length_set, List.length_append, List.length_replicate, List.length_cons, List.length_nil]; omega) | skip
  all_goals first | (refine hK _ ?_; clear hK K) | (simp only [push_cast]; done)
  have hA0 := markFracS_fn r0 (1) (by omega) (by omega)
  refine awp_seq' fun K hK => ?_
  refine awp_regionG 64 [0] [(0, 43, dFrs (iotF (1) r0.length))] tyOk tyPos [] rfl ?_
  simp only [push_cast, ↓brB_true, ↓brB_false, ↓reduceIte, reduceMod, reduceMul, reduceDiv, reduceAdd, reduceSub, reduceEqDiff, Nat.reduceBEq, reduceLT, reduceLeDiff, reduceCtorEq]
  refine ⟨_, hA0, ?_⟩
  simp only [push_cast, ↓brB_true, ↓brB_false, ↓reduceIte, reduceMod, reduceMul, reduceDiv, reduceAdd, reduceSub, reduceEqDiff, Nat.reduceBEq, reduceLT, reduceLeDiff, reduceCtorEq]
  refine hK _ ?_
  clear hK K
  clear hA0
  refine awp_seq' fun K hK => ?_
  refine awp_region tyOk tyPos [] rfl ?_
  simp only [push_cast, ↓brB_true, ↓brB_false, ↓reduceIte, reduceMod, reduceMul, reduceDiv, reduceAdd, reduceSub, reduceEqDiff, Nat.reduceBEq, reduceLT, reduceLeDiff, reduceCtorEq]
  repeat' apply And.intro
  all_goals first | exact True.intro | exact rfl | omega | with_reducible assumption | (simp only [List.length_set, List.length_append, List.length_replicate, List.length_cons, List.length_nil]; omega) | skip
  all_goals first | (refine hK _ ?_; clear hK K) | (simp only [push_cast]; done)
  have hA0 := heldFracS_fn r0.length (1) (by omega) (by omega)
  refine awp_seq' fun K hK => ?_
  refine awp_region tyOk tyPos [] rfl ?_
  simp only [push_cast, ↓brB_true, ↓brB_false, ↓reduceIte, reduceMod, reduceMul, reduceDiv, reduceAdd, reduceSub, reduceEqDiff, Nat.reduceBEq, reduceLT, reduceLeDiff, reduceCtorEq]
  refine ⟨_, hA0, ?_⟩
  simp only [push_cast, ↓brB_true, ↓brB_false, ↓reduceIte, reduceMod, reduceMul, reduceDiv, reduceAdd, reduceSub, reduceEqDiff, Nat.reduceBEq, reduceLT, reduceLeDiff, reduceCtorEq]
  repeat' apply And.intro
  all_goals first | exact True.intro | exact rfl | omega | with_reducible assumption | (simp only [List.length_set, List.length_append, List.length_replicate, List.length_cons, List.length_nil]; omega) | skip
  refine hK _ ?_
  clear hK K
  clear hA0
  refine awp_seq' fun K6 hK6 => ?_
  refine awp_seq' fun K hK => ?_
  refine awp_region tyOk tyPos [] rfl ?_
  simp only [push_cast, ↓brB_true, ↓brB_false, ↓reduceIte, reduceMod, reduceMul, reduceDiv, reduceAdd, reduceSub, reduceEqDiff, Nat.reduceBEq, reduceLT, reduceLeDiff, reduceCtorEq]
  repeat' apply And.intro
  all_goals first | exact True.intro | exact rfl | omega | with_reducible assumption | (simp only [List.length_set, List.length_append, List.length_replicate, List.length_cons, List.length_nil]; omega) | skip
  all_goals first | (refine hK _ ?_; clear hK K) | (simp only [push_cast]; done)
  refine awp_cond rfl (fun hc => by first | (cases hc; done) | (simp at hc; done) | (simp only [decide_eq_true_eq] at hc; omega)) (fun _ => ?_)
  refine awp_skip ?_
  (try simp only [AThen, ABlk, reduceIte, reduceEqDiff]); refine hK6 _ ?_
  refine awp_seq' fun K7 hK7 => ?_
  refine awp_seq' fun K hK => ?_
  refine awp_region tyOk tyPos [] rfl ?_
  simp only [push_cast, ↓brB_true, ↓brB_false, ↓reduceIte, reduceMod, reduceMul, reduceDiv, reduceAdd, reduceSub, reduceEqDiff, Nat.reduceBEq, reduceLT, reduceLeDiff, reduceCtorEq]
  repeat' apply And.intro
  all_goals first | exact True.intro | exact rfl | omega | with_reducible assumption | (simp only [List.length_set, List.length_append, List.length_replicate, List.length_cons, List.length_nil]; omega) | skip
  all_goals first | (refine hK _ ?_; clear hK K) | (simp only [push_cast]; done)
  refine awp_cond rfl (fun hc => by first | (cases hc; done) | (simp at hc; done) | (simp only [decide_eq_true_eq] at hc; omega)) (fun _ => ?_)
  refine awp_skip ?_
  (try simp only [AThen, ABlk, reduceIte, reduceEqDiff]); refine hK7 _ ?_
  have hA0 := toWt_fn a0 L0
  simp only [dWt] at hA0
  have hA1 := toI_fn a1 L1
  refine awp_seq' fun K hK => ?_
  refine awp_region tyOk tyPos [] rfl ?_
  simp only [push_cast, ↓brB_true, ↓brB_false, ↓reduceIte, reduceMod, reduceMul, reduceDiv, reduceAdd, reduceSub, reduceEqDiff, Nat.reduceBEq, reduceLT, reduceLeDiff, reduceCtorEq]
  refine ⟨_, hA0, ?_⟩
  simp only [push_cast, ↓brB_true, ↓brB_false, ↓reduceIte, reduceMod, reduceMul, reduceDiv, reduceAdd, reduceSub, reduceEqDiff, Nat.reduceBEq, reduceLT, reduceLeDiff, reduceCtorEq]
  refine ⟨_, hA1, ?_⟩
  simp only [push_cast, ↓brB_true, ↓brB_false, ↓reduceIte, reduceMod, reduceMul, reduceDiv, reduceAdd, reduceSub, reduceEqDiff, Nat.reduceBEq, reduceLT, reduceLeDiff, reduceCtorEq]
  refine ⟨_, hI, ?_⟩
  simp only [push_cast, ↓brB_true, ↓brB_false, ↓reduceIte, reduceMod, reduceMul, reduceDiv, reduceAdd, reduceSub, reduceEqDiff, Nat.reduceBEq, reduceLT, reduceLeDiff, reduceCtorEq]
  repeat' apply And.intro
  all_goals first | exact True.intro | exact rfl | omega | with_reducible assumption | (simp only [List.length_set, List.length_append, List.length_replicate, List.length_cons, List.length_nil]; omega) | skip
  refine hK _ ?_
  clear hK K
  clear hA0 hA1
  refine awp_seq' fun K8 hK8 => ?_
  have hA0 := eqFracS_fn r0 Q0
  refine awp_seq' fun K hK => ?_
  refine awp_region tyOk tyPos [] rfl ?_
  simp only [push_cast, ↓brB_true, ↓brB_false, ↓reduceIte, reduceMod, reduceMul, reduceDiv, reduceAdd, reduceSub, reduceEqDiff, Nat.reduceBEq, reduceLT, reduceLeDiff, reduceCtorEq]
  refine ⟨_, hA0, ?_⟩
  simp only [push_cast, ↓brB_true, ↓brB_false, ↓reduceIte, reduceMod, reduceMul, reduceDiv, reduceAdd, reduceSub, reduceEqDiff, Nat.reduceBEq, reduceLT, reduceLeDiff, reduceCtorEq]
  repeat' apply And.intro
  all_goals first | exact True.intro | exact rfl | omega | with_reducible assumption | (simp only [List.length_set, List.length_append, List.length_replicate, List.length_cons, List.length_nil]; omega) | skip
  refine hK _ ?_
  clear hK K
  clear hA0
  refine awp_cond rfl (fun hc => by first | (cases hc; done) | (simp at hc; done) | (simp only [decide_eq_true_eq] at hc; omega)) (fun _ => ?_)
  refine awp_skip ?_
  (try simp only [AThen, ABlk, reduceIte, reduceEqDiff]); refine hK8 _ ?_
  refine awp_seq' fun K hK => ?_
  refine awp_region tyOk tyPos [] rfl ?_
  simp only [push_cast, ↓brB_true, ↓brB_false, ↓reduceIte, reduceMod, reduceMul, reduceDiv, reduceAdd, reduceSub, reduceEqDiff, Nat.reduceBEq, reduceLT, reduceLeDiff, reduceCtorEq]
  repeat' apply And.intro
  all_goals first | exact True.intro | exact rfl | omega | with_reducible assumption | (simp only [List.length_set, List.length_append, List.length_replicate, List.length_cons, List.length_nil]; omega) | skip
  all_goals first | (refine hK _ ?_; clear hK K) | (simp only [push_cast]; done)
  have hA0 := heldFracS_fn r0.length (1) (by omega) (by omega)
  refine awp_seq' fun K hK => ?_
  refine awp_region tyOk tyPos [] rfl ?_
  simp only [push_cast, ↓brB_true, ↓brB_false, ↓reduceIte, reduceMod, reduceMul, reduceDiv, reduceAdd, reduceSub, reduceEqDiff, Nat.reduceBEq, reduceLT, reduceLeDiff, reduceCtorEq]
  refine ⟨_, hA0, ?_⟩
  simp only [push_cast, ↓brB_true, ↓brB_false, ↓reduceIte, reduceMod, reduceMul, reduceDiv, reduceAdd, reduceSub, reduceEqDiff, Nat.reduceBEq, reduceLT, reduceLeDiff, reduceCtorEq]
  repeat' apply And.intro
  all_goals first | exact True.intro | exact rfl | omega | with_reducible assumption | (simp only [List.length_set, List.length_append, List.length_replicate, List.length_cons, List.length_nil]; omega) | skip
  refine hK _ ?_
  clear hK K
  clear hA0
  refine awp_seq' fun K9 hK9 => ?_
  refine awp_seq' fun K hK => ?_
  refine awp_region tyOk tyPos [] rfl ?_
  simp only [push_cast, ↓brB_true, ↓brB_false, ↓reduceIte, reduceMod, reduceMul, reduceDiv, reduceAdd, reduceSub, reduceEqDiff, Nat.reduceBEq, reduceLT, reduceLeDiff, reduceCtorEq]
  repeat' apply And.intro
  all_goals first | exact True.intro | exact rfl | omega | with_reducible assumption | (simp only [List.length_set, List.length_append, List.length_replicate, List.length_cons, List.length_nil]; omega) | skip
  all_goals first | (refine hK _ ?_; clear hK K) | (simp only [push_cast]; done)
  refine awp_cond rfl (fun hc => by first | (cases hc; done) | (simp at hc; done) | (simp only [decide_eq_true_eq] at hc; omega)) (fun _ => ?_)
  refine awp_skip ?_
  (try simp only [AThen, ABlk, reduceIte, reduceEqDiff]); refine hK9 _ ?_
  refine awp_seq' fun K10 hK10 => ?_
  refine awp_seq' fun K hK => ?_
  refine awp_region tyOk tyPos [] rfl ?_
  simp only [push_cast, ↓brB_true, ↓brB_false, ↓reduceIte, reduceMod, reduceMul, reduceDiv, reduceAdd, reduceSub, reduceEqDiff, Nat.reduceBEq, reduceLT, reduceLeDiff, reduceCtorEq]
  repeat' apply And.intro
  all_goals first | exact True.intro | exact rfl | omega | with_reducible assumption | (simp only [List.length_set, List.length_append, List.length_replicate, List.length_cons, List.length_nil]; omega) | skip
  all_goals first | (refine hK _ ?_; clear hK K) | (simp only [push_cast]; done)
  refine awp_cond rfl (fun hc => by first | (cases hc; done) | (simp at hc; done) | (simp only [decide_eq_true_eq] at hc; omega)) (fun _ => ?_)
  refine awp_skip ?_
  (try simp only [AThen, ABlk, reduceIte, reduceEqDiff]); refine hK10 _ ?_
  refine awp_seq' fun K hK => ?_
  refine awp_region tyOk tyPos [] rfl ?_
  simp only [push_cast, ↓brB_true, ↓brB_false, ↓reduceIte, reduceMod, reduceMul, reduceDiv, reduceAdd, reduceSub, reduceEqDiff, Nat.reduceBEq, reduceLT, reduceLeDiff, reduceCtorEq]
  repeat' apply And.intro
  all_goals first | exact True.intro | exact rfl | omega | with_reducible assumption | (simp only [List.length_set, List.length_append, List.length_replicate, List.length_cons, List.length_nil]; omega) | skip
  all_goals first | (refine hK _ ?_; clear hK K) | (simp only [push_cast]; done)
  refine awp_ret ?_
  (try simp only [AThen, ABlk])
  refine ⟨Or.inl rfl, ?_⟩
  simp only [RetOk, push_cast, ↓brB_true, ↓brB_false, ↓reduceIte, reduceMod, reduceMul, reduceDiv, reduceAdd, reduceSub, reduceEqDiff, Nat.reduceBEq, reduceLT, reduceLeDiff, reduceCtorEq]

set_option maxRecDepth 100000 in
theorem ExactMeanBy_lifted (os : Os) (started : os.Started) (H : Type) (enc : TypeId × Value → H) :
    ReturnsInHanded {} Try.checked os 5 .any (Rows.fnExactMeanBySpec.pre6 enc Try.prog Try.f5 Rows.fnExactMeanByRow.domain false) (Rows.fnExactMeanBySpec.post enc Try.prog Try.f5 false true false false) := by
  refine returnsInHanded_of_change (C := Try.checked) own_law started (by kernel_rfl) Try.func5
    (ChangeSpec.witness6 (enc := enc) (C := Try.checked) false ⟨#[], #[.agg #[.slice none 0 0, .slice none 0 0, .slice none 0 0], .slice none 0 0], []⟩ 8 (by kernel_rfl) (by kernel_rfl) (by kernel_rfl) (by kernel_rfl)) ?_
  intro W base args ds gs before hval0 hW hcnd _
  have hval : ∀ (j : Nat) t v, Try.f5.params[j]? = some t → args[j]? = some v → Value.okWide Try.prog W .any base t v := hval0
  have hW0 := hW
  obtain ⟨p, q, hA0, hV, rfl, hfz, hnd⟩ := hW
  have hA : DataW.TrodAll enc Try.prog W 0 (fun _ => true) true Try.f5.params.toList args.toList ds p := hA0
  obtain ⟨rfl, rfl⟩ := trodVars_none hV
  have hlt : ∀ x ∈ p, x.block < W.heap.size := fun x hx => hW0.lt x (by simp [hx])
  rw [Try.params5] at hA hval
  clear hA0 hval0 hV
  obtain ⟨v0, vs0, d0, ds0, p0, q0, hargs, rfl, rfl, h0, r0⟩ := trodAll_cons hA
  obtain ⟨v1, vs1, d1, ds1, p1, q1, rfl, rfl, rfl, h1, r1⟩ := trodAll_cons r0
  obtain ⟨rfl, rfl, rfl⟩ := trodAll_nil r1
  obtain rfl : args = #[v0, v1] := by cases args; simp_all
  obtain ⟨a0, w0, g0, m0⟩ := arg_Wt (lo := W.heap.size) (hval 0 _ v0 rfl rfl) h0
  obtain ⟨a1, w1, g1, m1⟩ := arg_I (lo := W.heap.size) (hval 1 _ v1 rfl rfl) h1
  have hL := law a0 a1 m0 m1 (mby a0 a1) (fun _ _ => Nat.le_trans (mby_len a0 a1) (by decide)) (fun h0 h1 => MeanByS_fn a0 h0 a1 h1) (fun h0 h1 => MeanByI_fn a0 h0 a1 h1)
  refine (law_true (cargs := [v0, v1]) hL (by simp only [ArgsR]; exact ⟨v0, _, rfl, w0, v1, _, rfl, w1, rfl⟩)).mono fun e W' he => ?_
  obtain ⟨rfl, hb⟩ := he
  exact ⟨_, rfl, law_post lay_law (by rw [Try.params5]; decide +kernel) (by kernel_rfl) Try.underlying4 rfl hW0 rfl rfl rfl hb (fun W' => okWide_bool_mk Try.underlying4 true)⟩

theorem ExactMeanBy_over : Rows.fnExactMeanByRow.holds Try.pinned (OpenSpec.ofChange Rows.fnExactMeanBySpec) :=
  OpenClaim.holds_of_wide 5 Try.f5 rfl rfl rfl rfl rfl rfl rfl ⟨rfl, rfl, rfl, rfl, rfl⟩ rfl rfl rfl rfl rfl (by kernel_rfl) Try.func5 (by kernel_rfl)
    (of_decide_eq_true (by kernel_rfl)) (by unfold Func.isWrapper; first | (rw [if_pos (by decide +kernel)]; kernel_rfl) | (rw [if_neg (by decide +kernel)]; exact ⟨rfl, rfl⟩))
    (fun os started H enc _ => ExactMeanBy_lifted os started H enc)

/-- The given statement on ExactMeanBy. -/
theorem ExactMeanBy_holds : Rows.FnExactMeanBySaid := ExactMeanBy_over
end Go.Proofs.Ytfipgnbpkbnalaa.lawExactMeanBy
