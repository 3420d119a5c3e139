/- The statement on ExactRecorded: both sides answer alike, for every argument. -/
import Derived.Test.YtklconkoamoabaaGDzrd
import Derived.Test.YtklconkoamoabaaB6zrd
import Derived.Test.YtklconkoamoabaaB7zrd
import Derived.Test.YtklconkoamoabaaB9zrd
import Derived.Test.YtklconkoamoabaaGs2zrd
namespace Go.Proofs.Ytklconkoamoabaa.lawExactRecorded
open Nat renaming reduceMod → zA, reduceMul → zB, reduceDiv → zC, reduceAdd → zD, reduceSub → zE, reduceEqDiff → zF, reduceBEq → zG, reduceLT → zH, reduceLeDiff → zI
open Go.ChangeShapes Go.WideShapes Go.ChangeAt Go.RowKit Go.Joins
set_option linter.unusedVariables false
set_option linter.unusedSimpArgs false

theorem mkQ_take (k : Int) (ps : List Plc) : List.take (ps.length * 2) (dPls (mkQ k ps)) = dPls (mkQ k ps) := List.take_of_length_le (by rw [len_dPls, mkQ_len]; exact Nat.le_refl _)
theorem mkQ_tk (k : Int) (ps : List Plc) : List.take ps.length (mkQ k ps) = mkQ k ps := List.take_of_length_le (by rw [mkQ_len]; exact Nat.le_refl _)
attribute [push_cast] mkQ_take mkQ_tk mkQ_len
theorem own_law : ownKnob Try.prog.godebug = none := by kernel_rfl
theorem lay_law : laidOutB Try.prog = true := by kernel_rfl

set_option maxRecDepth 20000 in
set_option maxHeartbeats 4000000 in
theorem law (a0 : Ar) (a1 : List Pr) (a2 : Int) (l0 : a0.Ln 9223372036854775807) (l1 : PLn 9223372036854775807 a1) (r0 : Pa) (r1 : List Plc) (r2 : Bool) (q0 : a0.Ln 1048576 → PLn 1048576 a1 → r0.Ln 1048576) (q1 : a0.Ln 1048576 → PLn 1048576 a1 → QLn 1048576 r1)
    (hS : a0.Ln 1048576 → PLn 1048576 a1 → Fn Try.prog tyT 34 [.agg (dAr a0), .c (.lst 99 (dII (ilv a1))), .c (.int .i64 a2)] [.agg (dPa r0), .c (.lst 78 (dPls r1)), .c (.bool r2)]) (hI : a0.Ln 1048576 → PLn 1048576 a1 → Fn Try.prog tyT 36 [.agg (dAr a0), .c (.lst 99 (dII (ilv a1))), .c (.int .i64 a2)] [.agg (dPa r0), .c (.lst 78 (dPls r1)), .c (.bool r2)]) : Fn Try.prog tyT 6 [.agg (dAr a0), .c (.lst 95 (dII (ilv a1))), .c (.int .i64 a2)] [.c (.bool true)] := by
  simp only [dAr, dPa] at hS hI ⊢
  refine Fn_of (fn := Try.f6) (ts := [6]) Try.func6 (by kernel_rfl) rfl rfl (by rw [Try.ntmps6]; exact Nat.le_of_ble_eq_true rfl) rfl (by simp only [szA, List.mem_cons, List.not_mem_nil, or_false, forall_eq_or_imp, forall_eq, VT.cells, szL]; try decide) ?_
  rw [Try.ntmps6]
  simp only [push_cast, ↓brB_true, ↓brB_false, ↓reduceIte, zA, zB, zC, zD, zE, zF, zG, zH, zI, reduceCtorEq]
  refine awp_seq' fun K hK => ?_
  refine awp_region tyOk tyPos [] rfl ?_
  simp only [push_cast, ↓brB_true, ↓brB_false, ↓reduceIte, zA, zB, zC, zD, zE, zF, zG, zH, zI, reduceCtorEq]
  repeat' apply And.intro
  all_goals try exact gB
  all_goals first | (refine hK _ ?_; clear hK K) | (simp only [push_cast]; done)
  refine awp_seq' fun K hK => ?_
  refine awp_region tyOk tyPos [] rfl ?_
  simp only [push_cast, ↓brB_true, ↓brB_false, ↓reduceIte, zA, zB, zC, zD, zE, zF, zG, zH, zI, reduceCtorEq]
  repeat' apply And.intro
  all_goals try exact gB
  all_goals first | (refine hK _ ?_; clear hK K) | (simp only [push_cast]; done)
  have hA0 := szAr_fn a0 ((1048576 : Int)) (by omega) (by omega) l0
  simp only [dAr] at hA0
  refine awp_seq' fun K hK => ?_
  refine awp_region tyOk tyPos [] rfl ?_
  simp only [push_cast, ↓brB_true, ↓brB_false, ↓reduceIte, zA, zB, zC, zD, zE, zF, zG, zH, zI, reduceCtorEq]
  refine ⟨_, hA0, ?_⟩
  simp only [push_cast, ↓brB_true, ↓brB_false, ↓reduceIte, zA, zB, zC, zD, zE, zF, zG, zH, zI, reduceCtorEq]
  repeat' apply And.intro
  all_goals try exact gB
  refine hK _ ?_
  clear hK K
  clear hA0
  refine awp_seq' fun K0 hK0 => ?_
  refine awp_seq' fun K hK => ?_
  refine awp_region tyOk tyPos [] rfl ?_
  simp only [push_cast, ↓brB_true, ↓brB_false, ↓reduceIte, zA, zB, zC, zD, zE, zF, zG, zH, zI, reduceCtorEq]
  repeat' apply And.intro
  all_goals try exact gB
  all_goals first | (refine hK _ ?_; clear hK K) | (simp only [push_cast]; done)
  by_cases hn0 : (1048576 : Int) < (a0.tot : Nat)
  · rw [szl_neg hn0]
    refine awp_cond rfl (fun _ => ?_) (fun hc => absurd hc (by decide))
    refine awp_seq' fun K hK => ?_
    refine awp_region tyOk tyPos [] rfl ?_
    simp only [push_cast, ↓brB_true, ↓brB_false, ↓reduceIte, zA, zB, zC, zD, zE, zF, zG, zH, zI, reduceCtorEq]
    repeat' apply And.intro
    all_goals try exact gB
    all_goals first | (refine hK _ ?_; clear hK K) | (simp only [push_cast]; done)
    refine awp_ret ?_
    (try simp only [AThen, ABlk])
    refine ⟨Or.inl rfl, ?_⟩
    simp only [RetOk, push_cast, ↓brB_true, ↓brB_false, ↓reduceIte, zA, zB, zC, zD, zE, zF, zG, zH, zI, reduceCtorEq]
  rw [szl_pos hn0]
  refine awp_cond rfl (fun hc => by simp only [decide_eq_true_eq] at hc; omega) (fun _ => ?_)
  refine awp_skip ?_
  (try simp only [AThen, ABlk, reduceIte, zF]); refine hK0 _ ?_
  have hA0 := szPS_fn a1 ((1048576 : Int) - (a0.tot : Nat)) (by omega) (by omega) l1
  refine awp_seq' fun K hK => ?_
  refine awp_region tyOk tyPos [] rfl ?_
  simp only [push_cast, ↓brB_true, ↓brB_false, ↓reduceIte, zA, zB, zC, zD, zE, zF, zG, zH, zI, reduceCtorEq]
  refine ⟨_, hA0, ?_⟩
  simp only [push_cast, ↓brB_true, ↓brB_false, ↓reduceIte, zA, zB, zC, zD, zE, zF, zG, zH, zI, reduceCtorEq]
  repeat' apply And.intro
  all_goals try exact gB
  refine hK _ ?_
  clear hK K
  clear hA0
  refine awp_seq' fun K1 hK1 => ?_
  refine awp_seq' fun K hK => ?_
  refine awp_region tyOk tyPos [] rfl ?_
  simp only [push_cast, ↓brB_true, ↓brB_false, ↓reduceIte, zA, zB, zC, zD, zE, zF, zG, zH, zI, reduceCtorEq]
  repeat' apply And.intro
  all_goals try exact gB
  all_goals first | (refine hK _ ?_; clear hK K) | (simp only [push_cast]; done)
  by_cases hn1 : (1048576 : Int) - (a0.tot : Nat) < (totP a1 : Nat)
  · rw [szl_neg hn1]
    refine awp_cond rfl (fun _ => ?_) (fun hc => absurd hc (by decide))
    refine awp_seq' fun K hK => ?_
    refine awp_region tyOk tyPos [] rfl ?_
    simp only [push_cast, ↓brB_true, ↓brB_false, ↓reduceIte, zA, zB, zC, zD, zE, zF, zG, zH, zI, reduceCtorEq]
    repeat' apply And.intro
    all_goals try exact gB
    all_goals first | (refine hK _ ?_; clear hK K) | (simp only [push_cast]; done)
    refine awp_ret ?_
    (try simp only [AThen, ABlk])
    refine ⟨Or.inl rfl, ?_⟩
    simp only [RetOk, push_cast, ↓brB_true, ↓brB_false, ↓reduceIte, zA, zB, zC, zD, zE, zF, zG, zH, zI, reduceCtorEq]
  rw [szl_pos hn1]
  refine awp_cond rfl (fun hc => by simp only [decide_eq_true_eq] at hc; omega) (fun _ => ?_)
  refine awp_skip ?_
  (try simp only [AThen, ABlk, reduceIte, zF]); refine hK1 _ ?_
  have L0 : a0.Ln 1048576 := Ar.ln_of (by omega)
  have L1 : PLn 1048576 a1 := PLn_of (by omega)
  have Q0 := q0 L0 L1
  have Q1 := q1 L0 L1
  have C0' := Ar.cnt_le L0
  have C0 := C0'
  unfold Ar.cnt at C0
  have C1 := cnt_PS L1
  have D0' := Pa.cnt_le Q0
  have D0 := D0'
  unfold Pa.cnt at D0
  have D1 := cnt_QS Q1
  replace hS := hS L0 L1
  replace hI := hI L0 L1
  have hA0 := toAr_fn a0 L0
  simp only [dAr] at hA0
  have hA1 := toPS_fn a1 L1
  refine awp_seq' fun K hK => ?_
  refine awp_region tyOk tyPos [] rfl ?_
  simp only [push_cast, ↓brB_true, ↓brB_false, ↓reduceIte, zA, zB, zC, zD, zE, zF, zG, zH, zI, reduceCtorEq]
  refine ⟨_, hA0, ?_⟩
  simp only [push_cast, ↓brB_true, ↓brB_false, ↓reduceIte, zA, zB, zC, zD, zE, zF, zG, zH, zI, reduceCtorEq]
  refine ⟨_, hA1, ?_⟩
  simp only [push_cast, ↓brB_true, ↓brB_false, ↓reduceIte, zA, zB, zC, zD, zE, zF, zG, zH, zI, reduceCtorEq]
  refine ⟨_, hS, ?_⟩
  simp only [push_cast, ↓brB_true, ↓brB_false, ↓reduceIte, zA, zB, zC, zD, zE, zF, zG, zH, zI, reduceCtorEq]
  repeat' apply And.intro
  all_goals try exact gB
  refine hK _ ?_
  clear hK K
  clear hA0 hA1
  have hA0 := toAr_fn a0 L0
  simp only [dAr] at hA0
  refine awp_seq' fun K hK => ?_
  refine awp_region tyOk tyPos [] rfl ?_
  simp only [push_cast, ↓brB_true, ↓brB_false, ↓reduceIte, zA, zB, zC, zD, zE, zF, zG, zH, zI, reduceCtorEq]
  refine ⟨_, hA0, ?_⟩
  simp only [push_cast, ↓brB_true, ↓brB_false, ↓reduceIte, zA, zB, zC, zD, zE, zF, zG, zH, zI, reduceCtorEq]
  repeat' apply And.intro
  all_goals try exact gB
  refine hK _ ?_
  clear hK K
  clear hA0
  have hA0 := toPS_fn a1 L1
  refine awp_seq' fun K hK => ?_
  refine awp_region tyOk tyPos [] rfl ?_
  simp only [push_cast, ↓brB_true, ↓brB_false, ↓reduceIte, zA, zB, zC, zD, zE, zF, zG, zH, zI, reduceCtorEq]
  refine ⟨_, hA0, ?_⟩
  simp only [push_cast, ↓brB_true, ↓brB_false, ↓reduceIte, zA, zB, zC, zD, zE, zF, zG, zH, zI, reduceCtorEq]
  repeat' apply And.intro
  all_goals try exact gB
  refine hK _ ?_
  clear hK K
  clear hA0
  refine awp_seq' fun K hK => ?_
  refine awp_region tyOk tyPos [] rfl ?_
  simp only [push_cast, ↓brB_true, ↓brB_false, ↓reduceIte, zA, zB, zC, zD, zE, zF, zG, zH, zI, reduceCtorEq]
  refine ⟨_, hI, ?_⟩
  simp only [push_cast, ↓brB_true, ↓brB_false, ↓reduceIte, zA, zB, zC, zD, zE, zF, zG, zH, zI, reduceCtorEq]
  repeat' apply And.intro
  all_goals try exact gB
  refine hK _ ?_
  clear hK K
  refine awp_seq' fun K2 hK2 => ?_
  have hA0 := eqPa_fn r0 Q0
  simp only [dPa] at hA0
  have hA1 := eqQS_fn r1 Q1
  refine awp_seq' fun K hK => ?_
  refine awp_regionN false tyOk tyPos ?_ rfl ?_
  · kernel_rfl
  simp only [push_cast, ↓brB_true, ↓brB_false, ↓reduceIte, zA, zB, zC, zD, zE, zF, zG, zH, zI, reduceCtorEq]
  first | (refine brB_mk (fun hg => by (try simp only [decide_eq_true_eq] at hg); omega) (fun hg => ?_)) | skip
  refine ⟨_, hA0, ?_⟩
  simp only [push_cast, ↓brB_true, ↓brB_false, ↓reduceIte, zA, zB, zC, zD, zE, zF, zG, zH, zI, reduceCtorEq]
  refine ⟨_, hA1, ?_⟩
  simp only [push_cast, ↓brB_true, ↓brB_false, ↓reduceIte, zA, zB, zC, zD, zE, zF, zG, zH, zI, reduceCtorEq]
  repeat' apply And.intro
  all_goals try exact gB
  refine hK _ ?_
  clear hK K
  clear hA0 hA1
  refine awp_cond rfl (fun hc => by first | (cases hc; done) | (simp at hc; done) | (simp only [decide_eq_true_eq] at hc; omega)) (fun _ => ?_)
  refine awp_skip ?_
  (try simp only [AThen, ABlk, reduceIte, zF]); refine hK2 _ ?_
  refine awp_seq' fun K3 hK3 => ?_
  have hA0 := toAr_fn a0 L0
  simp only [dAr] at hA0
  have hA1 := eqAr_fn a0 L0
  simp only [dAr] at hA1
  refine awp_seq' fun K hK => ?_
  refine awp_regionD0 false tyOk tyPos tyMix ?_ rfl ?_
  · kernel_rfl
  intro C hC
  simp only [push_cast, ↓brB_true, ↓brB_false, ↓reduceIte, zA, zB, zC, zD, zE, zF, zG, zH, zI, reduceCtorEq]
  refine ⟨_, hA0, ?_⟩
  simp only [push_cast, ↓brB_true, ↓brB_false, ↓reduceIte, zA, zB, zC, zD, zE, zF, zG, zH, zI, reduceCtorEq]
  refine ⟨_, hA1, ?_⟩
  simp only [push_cast, ↓brB_true, ↓brB_false, ↓reduceIte, zA, zB, zC, zD, zE, zF, zG, zH, zI, reduceCtorEq]
  repeat' apply And.intro
  all_goals first | omega | with_reducible assumption | (refine hC _ ?_; kernel_rfl) | (simp only [List.length_set, List.length_append, List.length_replicate, List.length_cons, List.length_nil]; omega) | skip
  refine hK _ ?_
  clear hK K
  clear hA0 hA1
  refine awp_cond rfl (fun hc => by first | (cases hc; done) | (simp at hc; done) | (simp only [decide_eq_true_eq] at hc; omega)) (fun _ => ?_)
  refine awp_skip ?_
  (try simp only [AThen, ABlk, reduceIte, zF]); refine hK3 _ ?_
  refine awp_seq' fun K4 hK4 => ?_
  have hA0 := toPS_fn a1 L1
  have hA1 := eqPS_fn a1 L1
  refine awp_seq' fun K hK => ?_
  refine awp_region tyOk tyPos [] rfl ?_
  simp only [push_cast, ↓brB_true, ↓brB_false, ↓reduceIte, zA, zB, zC, zD, zE, zF, zG, zH, zI, reduceCtorEq]
  refine ⟨_, hA0, ?_⟩
  simp only [push_cast, ↓brB_true, ↓brB_false, ↓reduceIte, zA, zB, zC, zD, zE, zF, zG, zH, zI, reduceCtorEq]
  refine ⟨_, hA1, ?_⟩
  simp only [push_cast, ↓brB_true, ↓brB_false, ↓reduceIte, zA, zB, zC, zD, zE, zF, zG, zH, zI, reduceCtorEq]
  repeat' apply And.intro
  all_goals try exact gB
  refine hK _ ?_
  clear hK K
  clear hA0 hA1
  refine awp_cond rfl (fun hc => by first | (cases hc; done) | (simp at hc; done) | (simp only [decide_eq_true_eq] at hc; omega)) (fun _ => ?_)
  refine awp_skip ?_
  (try simp only [AThen, ABlk, reduceIte, zF]); refine hK4 _ ?_
  refine awp_seq' fun K hK => ?_
  refine awp_region tyOk tyPos [] rfl ?_
  simp only [push_cast, ↓brB_true, ↓brB_false, ↓reduceIte, zA, zB, zC, zD, zE, zF, zG, zH, zI, reduceCtorEq]
  repeat' apply And.intro
  all_goals try exact gB
  all_goals first | (refine hK _ ?_; clear hK K) | (simp only [push_cast]; done)
  have hA0 := markAr_fn a0 (1) (by omega) (by omega) (Ar.ln_mono (by decide) L0)
  simp only [dAr, mkAr, Ar.cnt] at hA0
  refine awp_seq' fun K hK => ?_
  refine awp_regionG 81 [0, 1] [(0, 2, dI (iot (1) a0.owner.length)), (1, 22, dII (mkR (1 + (a0.owner.length : Nat)) a0.next))] tyOk tyPos [] rfl ?_
  simp only [push_cast, ↓brB_true, ↓brB_false, ↓reduceIte, zA, zB, zC, zD, zE, zF, zG, zH, zI, reduceCtorEq]
  refine ⟨_, hA0, ?_⟩
  simp only [push_cast, ↓brB_true, ↓brB_false, ↓reduceIte, zA, zB, zC, zD, zE, zF, zG, zH, zI, reduceCtorEq]
  refine hK _ ?_
  clear hK K
  clear hA0
  have hA0 := markPS_fn a1 (1 + ((a0.owner.length : Nat) + (sumL a0.next : Nat) : Nat)) (by omega) (by omega) (by omega)
  refine awp_seq' fun K hK => ?_
  refine awp_regionG 84 [0] [(0, 99, dII (mkR (1 + ((a0.owner.length : Nat) + (sumL a0.next : Nat) : Nat)) (ilv a1)))] tyOk tyPos [] rfl ?_
  simp only [push_cast, ↓brB_true, ↓brB_false, ↓reduceIte, zA, zB, zC, zD, zE, zF, zG, zH, zI, reduceCtorEq]
  refine ⟨_, hA0, ?_⟩
  simp only [push_cast, ↓brB_true, ↓brB_false, ↓reduceIte, zA, zB, zC, zD, zE, zF, zG, zH, zI, reduceCtorEq]
  refine hK _ ?_
  clear hK K
  clear hA0
  refine awp_seq' fun K5 hK5 => ?_
  have hA0 := eqPa_fn r0 Q0
  simp only [dPa] at hA0
  have hA1 := eqQS_fn r1 Q1
  refine awp_seq' fun K hK => ?_
  refine awp_regionN false tyOk tyPos ?_ rfl ?_
  · kernel_rfl
  simp only [push_cast, ↓brB_true, ↓brB_false, ↓reduceIte, zA, zB, zC, zD, zE, zF, zG, zH, zI, reduceCtorEq]
  first | (refine brB_mk (fun hg => by (try simp only [decide_eq_true_eq] at hg); omega) (fun hg => ?_)) | skip
  refine ⟨_, hA0, ?_⟩
  simp only [push_cast, ↓brB_true, ↓brB_false, ↓reduceIte, zA, zB, zC, zD, zE, zF, zG, zH, zI, reduceCtorEq]
  refine ⟨_, hA1, ?_⟩
  simp only [push_cast, ↓brB_true, ↓brB_false, ↓reduceIte, zA, zB, zC, zD, zE, zF, zG, zH, zI, reduceCtorEq]
  repeat' apply And.intro
  all_goals try exact gB
  refine hK _ ?_
  clear hK K
  clear hA0 hA1
  refine awp_cond rfl (fun hc => by first | (cases hc; done) | (simp at hc; done) | (simp only [decide_eq_true_eq] at hc; omega)) (fun _ => ?_)
  refine awp_skip ?_
  (try simp only [AThen, ABlk, reduceIte, zF]); refine hK5 _ ?_
  refine awp_seq' fun K hK => ?_
  refine awp_region tyOk tyPos [] rfl ?_
  simp only [push_cast, ↓brB_true, ↓brB_false, ↓reduceIte, zA, zB, zC, zD, zE, zF, zG, zH, zI, reduceCtorEq]
  repeat' apply And.intro
  all_goals try exact gB
  all_goals first | (refine hK _ ?_; clear hK K) | (simp only [push_cast]; done)
  have hA0 := markPa_fn r0 (1) (by omega) (by omega) (Pa.ln_mono (by decide) Q0)
  simp only [dPa, mkPa, Pa.cnt] at hA0
  refine awp_seq' fun K hK => ?_
  refine awp_regionG 106 [0, 1, 2] [(0, 2, dI (iot (1) r0.a.owner.length)), (1, 22, dII (mkR (1 + (r0.a.owner.length : Nat)) r0.a.next)), (2, 2, dI (iot (1 + (r0.a.owner.length : Nat) + (sumL r0.a.next : Nat)) r0.prio.length))] tyOk tyPos [] rfl ?_
  simp only [push_cast, ↓brB_true, ↓brB_false, ↓reduceIte, zA, zB, zC, zD, zE, zF, zG, zH, zI, reduceCtorEq]
  refine ⟨_, hA0, ?_⟩
  simp only [push_cast, ↓brB_true, ↓brB_false, ↓reduceIte, zA, zB, zC, zD, zE, zF, zG, zH, zI, reduceCtorEq]
  refine hK _ ?_
  clear hK K
  clear hA0
  have hA0 := markQS_fn r1 (1 + ((r0.a.owner.length : Nat) + (sumL r0.a.next : Nat) + (r0.prio.length : Nat) : Nat)) (by omega) (by omega) (by omega)
  refine awp_seq' fun K hK => ?_
  refine awp_regionG 109 [0] [(0, 78, dPls (mkQ (1 + ((r0.a.owner.length : Nat) + (sumL r0.a.next : Nat) + (r0.prio.length : Nat) : Nat)) r1))] tyOk tyPos [] rfl ?_
  simp only [push_cast, ↓brB_true, ↓brB_false, ↓reduceIte, zA, zB, zC, zD, zE, zF, zG, zH, zI, reduceCtorEq]
  refine ⟨_, hA0, ?_⟩
  simp only [push_cast, ↓brB_true, ↓brB_false, ↓reduceIte, zA, zB, zC, zD, zE, zF, zG, zH, zI, reduceCtorEq]
  refine hK _ ?_
  clear hK K
  clear hA0
  refine awp_seq' fun K hK => ?_
  refine awp_region tyOk tyPos [] rfl ?_
  simp only [push_cast, ↓brB_true, ↓brB_false, ↓reduceIte, zA, zB, zC, zD, zE, zF, zG, zH, zI, reduceCtorEq]
  repeat' apply And.intro
  all_goals try exact gB
  all_goals first | (refine hK _ ?_; clear hK K) | (simp only [push_cast]; done)
  have hA0 := heldPa_fn r0 (1) (by omega) (by omega) (Pa.ln_mono (by decide) Q0)
  simp only [dPa, mkPa, Pa.cnt] at hA0
  refine awp_seq' fun K hK => ?_
  refine awp_region tyOk tyPos [] rfl ?_
  simp only [push_cast, ↓brB_true, ↓brB_false, ↓reduceIte, zA, zB, zC, zD, zE, zF, zG, zH, zI, reduceCtorEq]
  refine ⟨_, hA0, ?_⟩
  simp only [push_cast, ↓brB_true, ↓brB_false, ↓reduceIte, zA, zB, zC, zD, zE, zF, zG, zH, zI, reduceCtorEq]
  repeat' apply And.intro
  all_goals try exact gB
  refine hK _ ?_
  clear hK K
  clear hA0
  refine awp_seq' fun K6 hK6 => ?_
  refine awp_seq' fun K hK => ?_
  refine awp_region tyOk tyPos [] rfl ?_
  simp only [push_cast, ↓brB_true, ↓brB_false, ↓reduceIte, zA, zB, zC, zD, zE, zF, zG, zH, zI, reduceCtorEq]
  repeat' apply And.intro
  all_goals try exact gB
  all_goals first | (refine hK _ ?_; clear hK K) | (simp only [push_cast]; done)
  refine awp_cond rfl (fun hc => by first | (cases hc; done) | (simp at hc; done) | (simp only [decide_eq_true_eq] at hc; omega)) (fun _ => ?_)
  refine awp_skip ?_
  (try simp only [AThen, ABlk, reduceIte, zF]); refine hK6 _ ?_
  have hA0 := heldQS_fn r1 (1 + ((r0.a.owner.length : Nat) + (sumL r0.a.next : Nat) + (r0.prio.length : Nat) : Nat)) (by omega) (by omega) (by omega)
  refine awp_seq' fun K hK => ?_
  refine awp_region tyOk tyPos [] rfl ?_
  simp only [push_cast, ↓brB_true, ↓brB_false, ↓reduceIte, zA, zB, zC, zD, zE, zF, zG, zH, zI, reduceCtorEq]
  refine ⟨_, hA0, ?_⟩
  simp only [push_cast, ↓brB_true, ↓brB_false, ↓reduceIte, zA, zB, zC, zD, zE, zF, zG, zH, zI, reduceCtorEq]
  repeat' apply And.intro
  all_goals try exact gB
  refine hK _ ?_
  clear hK K
  clear hA0
  refine awp_seq' fun K7 hK7 => ?_
  refine awp_seq' fun K hK => ?_
  refine awp_region tyOk tyPos [] rfl ?_
  simp only [push_cast, ↓brB_true, ↓brB_false, ↓reduceIte, zA, zB, zC, zD, zE, zF, zG, zH, zI, reduceCtorEq]
  repeat' apply And.intro
  all_goals try exact gB
  all_goals first | (refine hK _ ?_; clear hK K) | (simp only [push_cast]; done)
  refine awp_cond rfl (fun hc => by first | (cases hc; done) | (simp at hc; done) | (simp only [decide_eq_true_eq] at hc; omega)) (fun _ => ?_)
  refine awp_skip ?_
  (try simp only [AThen, ABlk, reduceIte, zF]); refine hK7 _ ?_
  refine awp_seq' fun K8 hK8 => ?_
  refine awp_seq' fun K hK => ?_
  refine awp_region tyOk tyPos [] rfl ?_
  simp only [push_cast, ↓brB_true, ↓brB_false, ↓reduceIte, zA, zB, zC, zD, zE, zF, zG, zH, zI, reduceCtorEq]
  repeat' apply And.intro
  all_goals try exact gB
  all_goals first | (refine hK _ ?_; clear hK K) | (simp only [push_cast]; done)
  refine awp_cond rfl (fun hc => by first | (cases hc; done) | (simp at hc; done) | (simp only [decide_eq_true_eq] at hc; omega)) (fun _ => ?_)
  refine awp_skip ?_
  (try simp only [AThen, ABlk, reduceIte, zF]); refine hK8 _ ?_
  have hA0 := toAr_fn a0 L0
  simp only [dAr] at hA0
  have hA1 := toPS_fn a1 L1
  refine awp_seq' fun K hK => ?_
  refine awp_region tyOk tyPos [] rfl ?_
  simp only [push_cast, ↓brB_true, ↓brB_false, ↓reduceIte, zA, zB, zC, zD, zE, zF, zG, zH, zI, reduceCtorEq]
  refine ⟨_, hA0, ?_⟩
  simp only [push_cast, ↓brB_true, ↓brB_false, ↓reduceIte, zA, zB, zC, zD, zE, zF, zG, zH, zI, reduceCtorEq]
  refine ⟨_, hA1, ?_⟩
  simp only [push_cast, ↓brB_true, ↓brB_false, ↓reduceIte, zA, zB, zC, zD, zE, zF, zG, zH, zI, reduceCtorEq]
  refine ⟨_, hI, ?_⟩
  simp only [push_cast, ↓brB_true, ↓brB_false, ↓reduceIte, zA, zB, zC, zD, zE, zF, zG, zH, zI, reduceCtorEq]
  repeat' apply And.intro
  all_goals try exact gB
  refine hK _ ?_
  clear hK K
  clear hA0 hA1
  refine awp_seq' fun K9 hK9 => ?_
  have hA0 := eqPa_fn r0 Q0
  simp only [dPa] at hA0
  have hA1 := eqQS_fn r1 Q1
  refine awp_seq' fun K hK => ?_
  refine awp_regionN false tyOk tyPos ?_ rfl ?_
  · kernel_rfl
  simp only [push_cast, ↓brB_true, ↓brB_false, ↓reduceIte, zA, zB, zC, zD, zE, zF, zG, zH, zI, reduceCtorEq]
  first | (refine brB_mk (fun hg => by (try simp only [decide_eq_true_eq] at hg); omega) (fun hg => ?_)) | skip
  refine ⟨_, hA0, ?_⟩
  simp only [push_cast, ↓brB_true, ↓brB_false, ↓reduceIte, zA, zB, zC, zD, zE, zF, zG, zH, zI, reduceCtorEq]
  refine ⟨_, hA1, ?_⟩
  simp only [push_cast, ↓brB_true, ↓brB_false, ↓reduceIte, zA, zB, zC, zD, zE, zF, zG, zH, zI, reduceCtorEq]
  repeat' apply And.intro
  all_goals try exact gB
  refine hK _ ?_
  clear hK K
  clear hA0 hA1
  refine awp_cond rfl (fun hc => by first | (cases hc; done) | (simp at hc; done) | (simp only [decide_eq_true_eq] at hc; omega)) (fun _ => ?_)
  refine awp_skip ?_
  (try simp only [AThen, ABlk, reduceIte, zF]); refine hK9 _ ?_
  refine awp_seq' fun K hK => ?_
  refine awp_region tyOk tyPos [] rfl ?_
  simp only [push_cast, ↓brB_true, ↓brB_false, ↓reduceIte, zA, zB, zC, zD, zE, zF, zG, zH, zI, reduceCtorEq]
  repeat' apply And.intro
  all_goals try exact gB
  all_goals first | (refine hK _ ?_; clear hK K) | (simp only [push_cast]; done)
  have hA0 := heldPa_fn r0 (1) (by omega) (by omega) (Pa.ln_mono (by decide) Q0)
  simp only [dPa, mkPa, Pa.cnt] at hA0
  refine awp_seq' fun K hK => ?_
  refine awp_region tyOk tyPos [] rfl ?_
  simp only [push_cast, ↓brB_true, ↓brB_false, ↓reduceIte, zA, zB, zC, zD, zE, zF, zG, zH, zI, reduceCtorEq]
  refine ⟨_, hA0, ?_⟩
  simp only [push_cast, ↓brB_true, ↓brB_false, ↓reduceIte, zA, zB, zC, zD, zE, zF, zG, zH, zI, reduceCtorEq]
  repeat' apply And.intro
  all_goals try exact gB
  refine hK _ ?_
  clear hK K
  clear hA0
  refine awp_seq' fun K10 hK10 => ?_
  refine awp_seq' fun K hK => ?_
  refine awp_region tyOk tyPos [] rfl ?_
  simp only [push_cast, ↓brB_true, ↓brB_false, ↓reduceIte, zA, zB, zC, zD, zE, zF, zG, zH, zI, reduceCtorEq]
  repeat' apply And.intro
  all_goals try exact gB
  all_goals first | (refine hK _ ?_; clear hK K) | (simp only [push_cast]; done)
  refine awp_cond rfl (fun hc => by first | (cases hc; done) | (simp at hc; done) | (simp only [decide_eq_true_eq] at hc; omega)) (fun _ => ?_)
  refine awp_skip ?_
  (try simp only [AThen, ABlk, reduceIte, zF]); refine hK10 _ ?_
  have hA0 := heldQS_fn r1 (1 + ((r0.a.owner.length : Nat) + (sumL r0.a.next : Nat) + (r0.prio.length : Nat) : Nat)) (by omega) (by omega) (by omega)
  refine awp_seq' fun K hK => ?_
  refine awp_region tyOk tyPos [] rfl ?_
  simp only [push_cast, ↓brB_true, ↓brB_false, ↓reduceIte, zA, zB, zC, zD, zE, zF, zG, zH, zI, reduceCtorEq]
  refine ⟨_, hA0, ?_⟩
  simp only [push_cast, ↓brB_true, ↓brB_false, ↓reduceIte, zA, zB, zC, zD, zE, zF, zG, zH, zI, reduceCtorEq]
  repeat' apply And.intro
  all_goals try exact gB
  refine hK _ ?_
  clear hK K
  clear hA0
  refine awp_seq' fun K11 hK11 => ?_
  refine awp_seq' fun K hK => ?_
  refine awp_region tyOk tyPos [] rfl ?_
  simp only [push_cast, ↓brB_true, ↓brB_false, ↓reduceIte, zA, zB, zC, zD, zE, zF, zG, zH, zI, reduceCtorEq]
  repeat' apply And.intro
  all_goals try exact gB
  all_goals first | (refine hK _ ?_; clear hK K) | (simp only [push_cast]; done)
  refine awp_cond rfl (fun hc => by first | (cases hc; done) | (simp at hc; done) | (simp only [decide_eq_true_eq] at hc; omega)) (fun _ => ?_)
  refine awp_skip ?_
  (try simp only [AThen, ABlk, reduceIte, zF]); refine hK11 _ ?_
  refine awp_seq' fun K12 hK12 => ?_
  refine awp_seq' fun K hK => ?_
  refine awp_region tyOk tyPos [] rfl ?_
  simp only [push_cast, ↓brB_true, ↓brB_false, ↓reduceIte, zA, zB, zC, zD, zE, zF, zG, zH, zI, reduceCtorEq]
  repeat' apply And.intro
  all_goals try exact gB
  all_goals first | (refine hK _ ?_; clear hK K) | (simp only [push_cast]; done)
  refine awp_cond rfl (fun hc => by first | (cases hc; done) | (simp at hc; done) | (simp only [decide_eq_true_eq] at hc; omega)) (fun _ => ?_)
  refine awp_skip ?_
  (try simp only [AThen, ABlk, reduceIte, zF]); refine hK12 _ ?_
  refine awp_seq' fun K hK => ?_
  refine awp_region tyOk tyPos [] rfl ?_
  simp only [push_cast, ↓brB_true, ↓brB_false, ↓reduceIte, zA, zB, zC, zD, zE, zF, zG, zH, zI, reduceCtorEq]
  repeat' apply And.intro
  all_goals try exact gB
  all_goals first | (refine hK _ ?_; clear hK K) | (simp only [push_cast]; done)
  refine awp_ret ?_
  (try simp only [AThen, ABlk])
  refine ⟨Or.inl rfl, ?_⟩
  simp only [RetOk, push_cast, ↓brB_true, ↓brB_false, ↓reduceIte, zA, zB, zC, zD, zE, zF, zG, zH, zI, reduceCtorEq]

set_option maxRecDepth 100000 in
theorem ExactRecorded_lifted (os : Os) (started : os.Started) (H : Type) (enc : TypeId × Value → H) :
    ReturnsInHanded {} Try.checked os 6 .any (Rows.fnExactRecordedSpec.pre6 enc Try.prog Try.f6 Rows.fnExactRecordedRow.domain false) (Rows.fnExactRecordedSpec.post enc Try.prog Try.f6 false true false false) := by
  refine returnsInHanded_of_change (C := Try.checked) own_law started (by kernel_rfl) Try.func6
    (ChangeSpec.witness6 (enc := enc) (C := Try.checked) false ⟨#[], #[.agg #[.slice none 0 0, .slice none 0 0], .slice none 0 0, .int .i64 0], []⟩ 8 (by kernel_rfl) (by kernel_rfl) (by kernel_rfl) (by kernel_rfl)) ?_
  intro W base args ds gs before hval0 hW hcnd _
  have hval : ∀ (j : Nat) t v, Try.f6.params[j]? = some t → args[j]? = some v → Value.okWide Try.prog W .any base t v := hval0
  have hW0 := hW
  obtain ⟨p, q, hA0, hV, rfl, hfz, hnd⟩ := hW
  have hA : DataW.TrodAll enc Try.prog W 0 (fun _ => true) true Try.f6.params.toList args.toList ds p := hA0
  obtain ⟨rfl, rfl⟩ := trodVars_none hV
  have hlt : ∀ x ∈ p, x.block < W.heap.size := fun x hx => hW0.lt x (by simp [hx])
  rw [Try.params6] at hA hval
  clear hA0 hval0 hV
  obtain ⟨v0, vs0, d0, ds0, p0, q0, hargs, rfl, rfl, h0, r0⟩ := trodAll_cons hA
  obtain ⟨v1, vs1, d1, ds1, p1, q1, rfl, rfl, rfl, h1, r1⟩ := trodAll_cons r0
  obtain ⟨v2, vs2, d2, ds2, p2, q2, rfl, rfl, rfl, h2, r2⟩ := trodAll_cons r1
  obtain ⟨rfl, rfl, rfl⟩ := trodAll_nil r2
  obtain rfl : args = #[v0, v1, v2] := by cases args; simp_all
  obtain ⟨a0, w0, g0, m0⟩ := arg_Ar (lo := W.heap.size) (hval 0 _ v0 rfl rfl) h0
  obtain ⟨a1, w1, g1, m1⟩ := arg_PS (lo := W.heap.size) (hval 1 _ v1 rfl rfl) h1
  obtain ⟨a2, w2, g2⟩ := arg_n (lo := W.heap.size) (hval 2 _ v2 rfl rfl) h2
  have hL := law a0 a1 a2 m0 m1 (rgG a0 a1 a2) (rgP a0 a1 a2) (rgB a0 a1 a2) (fun _ _ => rgG_len) (fun _ _ => rgP_len) (fun h0 h1 => RecordedS_fn a0 h0 a1 h1 a2) (fun h0 h1 => RecordedI_fn a0 h0 a1 h1 a2)
  refine (law_true (cargs := [v0, v1, v2]) hL (by simp only [ArgsR]; exact ⟨v0, _, rfl, w0, v1, _, rfl, w1, v2, _, rfl, w2, rfl⟩)).mono fun e W' he => ?_
  obtain ⟨rfl, hb⟩ := he
  exact ⟨_, rfl, law_post lay_law (by rw [Try.params6]; decide +kernel) (by kernel_rfl) Try.underlying4 rfl hW0 rfl rfl rfl hb (fun W' => okWide_bool_mk Try.underlying4 true)⟩

theorem ExactRecorded_over : Rows.fnExactRecordedRow.holds Try.pinned (OpenSpec.ofChange Rows.fnExactRecordedSpec) :=
  OpenClaim.holds_of_wide 6 Try.f6 rfl rfl rfl rfl rfl rfl rfl ⟨rfl, rfl, rfl, rfl, rfl⟩ rfl rfl rfl rfl rfl (by kernel_rfl) Try.func6 (by kernel_rfl)
    (of_decide_eq_true (by kernel_rfl)) (by unfold Func.isWrapper; first | (rw [if_pos (by decide +kernel)]; kernel_rfl) | (rw [if_neg (by decide +kernel)]; exact ⟨rfl, rfl⟩))
    (fun os started H enc _ => ExactRecorded_lifted os started H enc)

theorem ExactRecorded_holds : Rows.FnExactRecordedSaid := ExactRecorded_over
end Go.Proofs.Ytklconkoamoabaa.lawExactRecorded
