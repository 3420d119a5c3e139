/- the laws' helpers of Parity -/
import Derived.Test.YtklconkoamoabaaGDzfg
import Derived.Test.YtklconkoamoabaaB6zfg
namespace Go.Proofs.Ytklconkoamoabaa
open Nat renaming reduceMod → zA, reduceMul → zB, reduceDiv → zC, reduceAdd → zD, reduceSub → zE, reduceEqDiff → zF, reduceBEq → zG, reduceLT → zH, reduceLeDiff → zI
open Go.RowKit
set_option linter.unusedVariables false
set_option linter.unusedSimpArgs false

structure Pa where
  a : Ar
  prio : List Int
  deriving DecidableEq
def dPa (x : Pa) : List D := [DI x.a.owner, DII x.a.next, DI x.prio]
def Pa.tot (x : Pa) : Nat := x.a.owner.length + totII x.a.next + x.prio.length
structure Pa.Ln (B : Nat) (x : Pa) : Prop where
  a : x.a.Ln B
  prio : LnI B x.prio
theorem Pa.ln_of {B : Nat} {x : Pa} (h : x.tot ≤ B) : x.Ln B := by
  unfold Pa.tot at h
  exact ⟨Ar.ln_of (by unfold Ar.tot; omega), LnI_of (by omega)⟩
set_option maxHeartbeats 1000000 in
theorem eqPa_fn (x : Pa) (ha : x.Ln 1048576) : Fn Try.prog tyT 28 [.agg (dPa x), .agg (dPa x)] [.c (.bool true)] := by
  unfold dPa
  refine Fn_of (fn := Try.f28) (ts := [4]) Try.func28 (by kernel_rfl) rfl rfl (by rw [Try.ntmps28]; exact Nat.le_of_ble_eq_true rfl) rfl (by simp only [szA, List.mem_cons, List.not_mem_nil, or_false, forall_eq_or_imp, forall_eq, VT.cells, szL]; try decide) ?_
  rw [Try.ntmps28]
  simp only [push_cast, ↓brB_true, ↓brB_false, ↓reduceIte, zA, zB, zC, zD, zE, zF, zG, zH, zI, reduceCtorEq]
  refine awp_seq' fun K hK => ?_
  refine awp_region tyOk tyPos [] rfl ?_
  simp only [push_cast, ↓brB_true, ↓brB_false, ↓reduceIte, zA, zB, zC, zD, zE, zF, zG, zH, zI, reduceCtorEq]
  repeat' apply And.intro
  all_goals try exact gB
  all_goals first | (refine hK _ ?_; clear hK K) | (simp only [push_cast]; done)
  refine awp_seq' fun K0 hK0 => ?_
  have hA := eqAr_fn x.a ha.a
  unfold dAr at hA
  refine awp_seq' fun K hK => ?_
  refine awp_region tyOk tyPos [] rfl ?_
  simp only [push_cast, ↓brB_true, ↓brB_false, ↓reduceIte, zA, zB, zC, zD, zE, zF, zG, zH, zI, reduceCtorEq]
  refine ⟨_, hA, ?_⟩
  simp only [push_cast, ↓brB_true, ↓brB_false, ↓reduceIte, zA, zB, zC, zD, zE, zF, zG, zH, zI, reduceCtorEq]
  repeat' apply And.intro
  all_goals try exact gB
  refine hK _ ?_
  clear hK K hA
  refine awp_cond rfl (fun hc => by cases hc) (fun _ => ?_)
  refine awp_skip ?_
  (try simp only [AThen, ABlk, reduceIte, zF]); refine hK0 _ ?_
  refine awp_seq' fun K1 hK1 => ?_
  have hA := eqI2_fn x.prio ha.prio
  refine awp_seq' fun K hK => ?_
  refine awp_region tyOk tyPos [] rfl ?_
  simp only [push_cast, ↓brB_true, ↓brB_false, ↓reduceIte, zA, zB, zC, zD, zE, zF, zG, zH, zI, reduceCtorEq]
  refine ⟨_, hA, ?_⟩
  simp only [push_cast, ↓brB_true, ↓brB_false, ↓reduceIte, zA, zB, zC, zD, zE, zF, zG, zH, zI, reduceCtorEq]
  repeat' apply And.intro
  all_goals try exact gB
  refine hK _ ?_
  clear hK K hA
  refine awp_cond rfl (fun hc => by cases hc) (fun _ => ?_)
  refine awp_skip ?_
  (try simp only [AThen, ABlk, reduceIte, zF]); refine hK1 _ ?_
  refine awp_seq' fun K hK => ?_
  refine awp_region tyOk tyPos [] rfl ?_
  simp only [push_cast, ↓brB_true, ↓brB_false, ↓reduceIte, zA, zB, zC, zD, zE, zF, zG, zH, zI, reduceCtorEq]
  repeat' apply And.intro
  all_goals try exact gB
  all_goals first | (refine hK _ ?_; clear hK K) | (simp only [push_cast]; done)
  refine awp_ret ?_
  (try simp only [AThen, ABlk])
  refine ⟨Or.inl rfl, ?_⟩
  simp only [RetOk, push_cast, ↓brB_true, ↓brB_false, ↓reduceIte, zA, zB, zC, zD, zE, zF, zG, zH, zI, reduceCtorEq]
def Pa.cnt (x : Pa) : Nat := x.a.owner.length + sumL x.a.next + x.prio.length
theorem Pa.ln_mono {B C : Nat} (hB : B ≤ C) {x : Pa} (h : x.Ln B) : x.Ln C := ⟨Ar.ln_mono hB h.a, LnI.mono hB h.prio⟩
theorem Pa.cnt_le {x : Pa} (h : x.Ln 1048576) : x.cnt ≤ 3298534883328 := by
  have h0 := Ar.cnt_le h.a
  have h1 := cnt_LI h.prio
  unfold Pa.cnt
  try unfold Ar.cnt at *
  omega
def mkPa (k : Int) (x : Pa) : Pa :=
  ⟨⟨iot (k) x.a.owner.length, mkR (k + (x.a.owner.length : Nat)) x.a.next⟩, iot (k + (x.a.owner.length : Nat) + (sumL x.a.next : Nat)) x.prio.length⟩
set_option maxHeartbeats 1000000 in
theorem markPa_fn (x : Pa) (k : Int) (h0 : 0 ≤ k) (h1 : k + x.cnt ≤ 4611686018427387904) (ha : x.Ln 4611686018427387904) : FnG Try.prog tyT 31 [.agg (dPa x), .c (.int .i64 k)] [0, 1, 2] [(0, 2, dI (iot (k) x.a.owner.length)), (1, 22, dII (mkR (k + (x.a.owner.length : Nat)) x.a.next)), (2, 2, dI (iot (k + (x.a.owner.length : Nat) + (sumL x.a.next : Nat)) x.prio.length))] [.c (.int .i64 (k + x.cnt))] := by
  have ht : x.cnt = x.a.cnt + x.prio.length := by unfold Pa.cnt; try unfold Ar.cnt; omega
  have hta : x.a.cnt = x.a.owner.length + sumL x.a.next := by unfold Ar.cnt; omega
  unfold dPa
  refine FnG_of (fn := Try.f31) (rs := [.tmp 4]) (own := [0, 1, 2]) (outs := [(0, 2, dI (iot (k) x.a.owner.length)), (1, 22, dII (mkR (k + (x.a.owner.length : Nat)) x.a.next)), (2, 2, dI (iot (k + (x.a.owner.length : Nat) + (sumL x.a.next : Nat)) x.prio.length))]) tyOk tyPos Try.func31 (by kernel_rfl) rfl rfl (by rw [Try.ntmps31]; exact Nat.le_of_ble_eq_true rfl) rfl (by simp only [szA, List.mem_cons, List.not_mem_nil, or_false, forall_eq_or_imp, forall_eq, VT.cells, szL]; try decide) ?_
  rw [Try.ntmps31]
  simp only [push_cast, ↓brB_true, ↓brB_false, ↓reduceIte, zA, zB, zC, zD, zE, zF, zG, zH, zI, reduceCtorEq]
  refine awp_seq' fun K hK => ?_
  refine awp_region tyOk tyPos [] rfl ?_
  simp only [push_cast, ↓brB_true, ↓brB_false, ↓reduceIte, zA, zB, zC, zD, zE, zF, zG, zH, zI, reduceCtorEq]
  repeat' apply And.intro
  all_goals try exact gB
  all_goals first | (refine hK _ ?_; clear hK K) | (simp only [push_cast]; done)
  have hA := markAr_fn x.a (k) (by omega) (by omega) ha.a
  unfold dAr Ar.cnt at hA
  refine awp_seq' fun K hK => ?_
  refine awp_regionG 8 [0, 1] [(0, 2, dI (iot (k) x.a.owner.length)), (1, 22, dII (mkR (k + (x.a.owner.length : Nat)) x.a.next))] tyOk tyPos [] rfl ?_
  simp only [push_cast, ↓brB_true, ↓brB_false, ↓reduceIte, zA, zB, zC, zD, zE, zF, zG, zH, zI, reduceCtorEq]
  refine ⟨_, hA, ?_⟩
  simp only [push_cast, ↓brB_true, ↓brB_false, ↓reduceIte, zA, zB, zC, zD, zE, zF, zG, zH, zI, reduceCtorEq]
  refine hK _ ?_
  clear hK K hA
  rw [show (k : Int) + (((x.a.owner.length : Nat) : Int) + ((sumL x.a.next : Nat) : Int)) = k + (x.a.owner.length : Nat) + (sumL x.a.next : Nat) from by omega]
  have hA := markInt64S_fn x.prio (k + (x.a.owner.length : Nat) + (sumL x.a.next : Nat)) (by omega) (by omega)
  refine awp_seq' fun K hK => ?_
  refine awp_regionG 12 [0] [(0, 2, dI (iot (k + (x.a.owner.length : Nat) + (sumL x.a.next : Nat)) x.prio.length))] tyOk tyPos [] rfl ?_
  simp only [push_cast, ↓brB_true, ↓brB_false, ↓reduceIte, zA, zB, zC, zD, zE, zF, zG, zH, zI, reduceCtorEq]
  refine ⟨_, hA, ?_⟩
  simp only [push_cast, ↓brB_true, ↓brB_false, ↓reduceIte, zA, zB, zC, zD, zE, zF, zG, zH, zI, reduceCtorEq]
  refine hK _ ?_
  clear hK K hA
  refine awp_seq' fun K hK => ?_
  refine awp_region tyOk tyPos [] rfl ?_
  simp only [push_cast, ↓brB_true, ↓brB_false, ↓reduceIte, zA, zB, zC, zD, zE, zF, zG, zH, zI, reduceCtorEq]
  repeat' apply And.intro
  all_goals try exact gB
  all_goals first | (refine hK _ ?_; clear hK K) | (simp only [push_cast]; done)
  refine awp_ret ?_
  (try simp only [AThen, ABlk])
  refine ⟨Or.inl rfl, ?_⟩
  simp only [RetOkG, outsOk, resVars, resVar, push_cast, ↓brB_true, ↓brB_false, ↓reduceIte, zA, zB, zC, zD, zE, zF, zG, zH, zI, reduceCtorEq]
  try (unfold Pa.cnt; omega)
set_option maxHeartbeats 1000000 in
theorem heldPa_fn (x : Pa) (k : Int) (h0 : 0 ≤ k) (h1 : k + x.cnt ≤ 4611686018427387904) (ha : x.Ln 4611686018427387904) : Fn Try.prog tyT 32 [.agg (dPa (mkPa k x)), .c (.int .i64 k)] [.c (.int .i64 (k + x.cnt))] := by
  have ht : x.cnt = x.a.cnt + x.prio.length := by unfold Pa.cnt; try unfold Ar.cnt; omega
  have hta : x.a.cnt = x.a.owner.length + sumL x.a.next := by unfold Ar.cnt; omega
  unfold dPa mkPa
  refine Fn_of (fn := Try.f32) (ts := [4]) Try.func32 (by kernel_rfl) rfl rfl (by rw [Try.ntmps32]; exact Nat.le_of_ble_eq_true rfl) rfl (by simp only [szA, List.mem_cons, List.not_mem_nil, or_false, forall_eq_or_imp, forall_eq, VT.cells, szL]; try decide) ?_
  rw [Try.ntmps32]
  simp only [push_cast, ↓brB_true, ↓brB_false, ↓reduceIte, zA, zB, zC, zD, zE, zF, zG, zH, zI, reduceCtorEq]
  refine awp_seq' fun K hK => ?_
  refine awp_region tyOk tyPos [] rfl ?_
  simp only [push_cast, ↓brB_true, ↓brB_false, ↓reduceIte, zA, zB, zC, zD, zE, zF, zG, zH, zI, reduceCtorEq]
  repeat' apply And.intro
  all_goals try exact gB
  all_goals first | (refine hK _ ?_; clear hK K) | (simp only [push_cast]; done)
  have hA := heldAr_fn x.a (k) (by omega) (by omega) ha.a
  unfold dAr mkAr Ar.cnt at hA
  refine awp_seq' fun K hK => ?_
  refine awp_region tyOk tyPos [] rfl ?_
  simp only [push_cast, ↓brB_true, ↓brB_false, ↓reduceIte, zA, zB, zC, zD, zE, zF, zG, zH, zI, reduceCtorEq]
  refine ⟨_, hA, ?_⟩
  simp only [push_cast, ↓brB_true, ↓brB_false, ↓reduceIte, zA, zB, zC, zD, zE, zF, zG, zH, zI, reduceCtorEq]
  repeat' apply And.intro
  all_goals try exact gB
  refine hK _ ?_
  clear hK K hA
  rw [show (k : Int) + (((x.a.owner.length : Nat) : Int) + ((sumL x.a.next : Nat) : Int)) = k + (x.a.owner.length : Nat) + (sumL x.a.next : Nat) from by omega]
  refine awp_seq' fun K0 hK0 => ?_
  refine awp_seq' fun K hK => ?_
  refine awp_region tyOk tyPos [] rfl ?_
  simp only [push_cast, ↓brB_true, ↓brB_false, ↓reduceIte, zA, zB, zC, zD, zE, zF, zG, zH, zI, reduceCtorEq]
  repeat' apply And.intro
  all_goals try exact gB
  all_goals first | (refine hK _ ?_; clear hK K) | (simp only [push_cast]; done)
  refine awp_cond rfl (fun hc => by simp only [decide_eq_true_eq] at hc; omega) (fun _ => ?_)
  refine awp_skip ?_
  (try simp only [AThen, ABlk, reduceIte, zF]); refine hK0 _ ?_
  have hA := heldInt64S_fn x.prio.length (k + (x.a.owner.length : Nat) + (sumL x.a.next : Nat)) (by omega) (by omega)
  refine awp_seq' fun K hK => ?_
  refine awp_region tyOk tyPos [] rfl ?_
  simp only [push_cast, ↓brB_true, ↓brB_false, ↓reduceIte, zA, zB, zC, zD, zE, zF, zG, zH, zI, reduceCtorEq]
  refine ⟨_, hA, ?_⟩
  simp only [push_cast, ↓brB_true, ↓brB_false, ↓reduceIte, zA, zB, zC, zD, zE, zF, zG, zH, zI, reduceCtorEq]
  repeat' apply And.intro
  all_goals try exact gB
  refine hK _ ?_
  clear hK K hA
  refine awp_seq' fun K1 hK1 => ?_
  refine awp_seq' fun K hK => ?_
  refine awp_region tyOk tyPos [] rfl ?_
  simp only [push_cast, ↓brB_true, ↓brB_false, ↓reduceIte, zA, zB, zC, zD, zE, zF, zG, zH, zI, reduceCtorEq]
  repeat' apply And.intro
  all_goals try exact gB
  all_goals first | (refine hK _ ?_; clear hK K) | (simp only [push_cast]; done)
  refine awp_cond rfl (fun hc => by simp only [decide_eq_true_eq] at hc; omega) (fun _ => ?_)
  refine awp_skip ?_
  (try simp only [AThen, ABlk, reduceIte, zF]); refine hK1 _ ?_
  refine awp_seq' fun K hK => ?_
  refine awp_region tyOk tyPos [] rfl ?_
  simp only [push_cast, ↓brB_true, ↓brB_false, ↓reduceIte, zA, zB, zC, zD, zE, zF, zG, zH, zI, reduceCtorEq]
  repeat' apply And.intro
  all_goals try exact gB
  all_goals first | (refine hK _ ?_; clear hK K) | (simp only [push_cast]; done)
  refine awp_ret ?_
  (try simp only [AThen, ABlk])
  refine ⟨Or.inl rfl, ?_⟩
  simp only [RetOk, push_cast, ↓brB_true, ↓brB_false, ↓reduceIte, zA, zB, zC, zD, zE, zF, zG, zH, zI, reduceCtorEq]
  try (unfold Pa.cnt; omega)
end Go.Proofs.Ytklconkoamoabaa

namespace Go.Proofs.Ytklconkoamoabaa
open Nat renaming reduceMod → zA, reduceMul → zB, reduceDiv → zC, reduceAdd → zD, reduceSub → zE, reduceEqDiff → zF, reduceBEq → zG, reduceLT → zH, reduceLeDiff → zI
open Go.RowKit
set_option linter.unusedVariables false
set_option linter.unusedSimpArgs false

structure Plc where
  at_ : Int
  record : List Int
  deriving DecidableEq
def dPlc (x : Plc) : List D := [.int .i64 x.at_, DI x.record]
def Plc.tot (x : Plc) : Nat := x.record.length
structure Plc.Ln (B : Nat) (x : Plc) : Prop where
  record : LnI B x.record
theorem Plc.ln_of {B : Nat} {x : Plc} (h : x.tot ≤ B) : x.Ln B := by
  unfold Plc.tot at h
  exact ⟨LnI_of (by omega)⟩
set_option maxHeartbeats 1000000 in
theorem eqPlc_fn (x : Plc) (ha : x.Ln 1048576) : Fn Try.prog tyT 52 [.agg (dPlc x), .agg (dPlc x)] [.c (.bool true)] := by
  unfold dPlc
  refine Fn_of (fn := Try.f52) (ts := [4]) Try.func52 (by kernel_rfl) rfl rfl (by rw [Try.ntmps52]; exact Nat.le_of_ble_eq_true rfl) rfl (by simp only [szA, List.mem_cons, List.not_mem_nil, or_false, forall_eq_or_imp, forall_eq, VT.cells, szL]; try decide) ?_
  rw [Try.ntmps52]
  simp only [push_cast, ↓brB_true, ↓brB_false, ↓reduceIte, zA, zB, zC, zD, zE, zF, zG, zH, zI, reduceCtorEq]
  refine awp_seq' fun K hK => ?_
  refine awp_region tyOk tyPos [] rfl ?_
  simp only [push_cast, ↓brB_true, ↓brB_false, ↓reduceIte, zA, zB, zC, zD, zE, zF, zG, zH, zI, reduceCtorEq]
  repeat' apply And.intro
  all_goals try exact gB
  all_goals first | (refine hK _ ?_; clear hK K) | (simp only [push_cast]; done)
  refine awp_seq' fun K0 hK0 => ?_
  refine awp_seq' fun K hK => ?_
  refine awp_region tyOk tyPos [] rfl ?_
  simp only [push_cast, ↓brB_true, ↓brB_false, ↓reduceIte, zA, zB, zC, zD, zE, zF, zG, zH, zI, reduceCtorEq]
  repeat' apply And.intro
  all_goals try exact gB
  all_goals first | (refine hK _ ?_; clear hK K) | (simp only [push_cast]; done)
  refine awp_cond rfl (fun hc => by simp at hc) (fun _ => ?_)
  refine awp_skip ?_
  (try simp only [AThen, ABlk, reduceIte, zF]); refine hK0 _ ?_
  refine awp_seq' fun K1 hK1 => ?_
  have hA := eqI2_fn x.record ha.record
  refine awp_seq' fun K hK => ?_
  refine awp_region tyOk tyPos [] rfl ?_
  simp only [push_cast, ↓brB_true, ↓brB_false, ↓reduceIte, zA, zB, zC, zD, zE, zF, zG, zH, zI, reduceCtorEq]
  refine ⟨_, hA, ?_⟩
  simp only [push_cast, ↓brB_true, ↓brB_false, ↓reduceIte, zA, zB, zC, zD, zE, zF, zG, zH, zI, reduceCtorEq]
  repeat' apply And.intro
  all_goals try exact gB
  refine hK _ ?_
  clear hK K hA
  refine awp_cond rfl (fun hc => by cases hc) (fun _ => ?_)
  refine awp_skip ?_
  (try simp only [AThen, ABlk, reduceIte, zF]); refine hK1 _ ?_
  refine awp_seq' fun K hK => ?_
  refine awp_region tyOk tyPos [] rfl ?_
  simp only [push_cast, ↓brB_true, ↓brB_false, ↓reduceIte, zA, zB, zC, zD, zE, zF, zG, zH, zI, reduceCtorEq]
  repeat' apply And.intro
  all_goals try exact gB
  all_goals first | (refine hK _ ?_; clear hK K) | (simp only [push_cast]; done)
  refine awp_ret ?_
  (try simp only [AThen, ABlk])
  refine ⟨Or.inl rfl, ?_⟩
  simp only [RetOk, push_cast, ↓brB_true, ↓brB_false, ↓reduceIte, zA, zB, zC, zD, zE, zF, zG, zH, zI, reduceCtorEq]
end Go.Proofs.Ytklconkoamoabaa

namespace Go.Proofs.Ytklconkoamoabaa
open Nat renaming reduceMod → zA, reduceMul → zB, reduceDiv → zC, reduceAdd → zD, reduceSub → zE, reduceEqDiff → zF, reduceBEq → zG, reduceLT → zH, reduceLeDiff → zI
open Go.RowKit
set_option linter.unusedVariables false
set_option linter.unusedSimpArgs false

def dPls (ps : List Plc) : List D := ps.flatMap dPlc
def gq (ps : List Plc) (k : Nat) : Plc := ps.getD k ⟨0, []⟩
theorem dPls_cons (p : Plc) (ps : List Plc) : dPls (p :: ps) = .int .i64 p.at_ :: DI p.record :: dPls ps := rfl
theorem m2q (n : Nat) : n * 2 / 2 = n := by omega
theorem len_dPls (ps : List Plc) : (dPls ps).length = ps.length * 2 := by
  induction ps with
  | nil => rfl
  | cons p ps ih => rw [dPls_cons, List.length_cons, List.length_cons, ih, List.length_cons]; omega
theorem app_dPls (ps qs : List Plc) : dPls (ps ++ qs) = dPls ps ++ dPls qs := List.flatMap_append ..
theorem app1_dPls (ps : List Plc) (x : Int) (r : List Int) : dPls ps ++ [D.int .i64 x, D.lst 2 (dI r)] = dPls (ps ++ [⟨x, r⟩]) := by rw [app_dPls]; rfl
theorem take_dPlsA (ps : List Plc) : (dPls ps).take (ps.length * 2) = dPls ps := List.take_of_length_le (by rw [len_dPls]; exact Nat.le_refl _)
theorem gq_lt {ps : List Plc} {k : Nat} (h : k < ps.length) : ps[k]? = some (gq ps k) := by
  unfold gq
  rw [List.getD_eq_getElem?_getD, List.getElem?_eq_getElem h]
  rfl
theorem gq_ge {ps : List Plc} {k : Nat} (h : ps.length ≤ k) : gq ps k = ⟨0, []⟩ := by
  unfold gq
  rw [List.getD_eq_getElem?_getD, List.getElem?_eq_none h]
  rfl
theorem gq_mem {ps : List Plc} {k : Nat} (h : k < ps.length) : gq ps k ∈ ps := List.mem_of_getElem? (gq_lt h)
theorem tk_snocQ {ps : List Plc} {k : Nat} (h : k < ps.length) : ps.take (k + 1) = ps.take k ++ [gq ps k] := by rw [List.take_add_one, gq_lt h]; rfl
theorem dPls_at0 (ps : List Plc) (k : Nat) : (dPls ps)[k * 2]? = if k < ps.length then some (.int .i64 (gq ps k).at_) else none := by
  induction ps generalizing k with
  | nil => rfl
  | cons p ps ih =>
    cases k with
    | zero => rfl
    | succ k =>
      rw [show (k + 1) * 2 = k * 2 + 1 + 1 from by omega, dPls_cons, List.getElem?_cons_succ, List.getElem?_cons_succ, ih, List.length_cons]
      simp only [gq, List.getD_cons_succ]
      split <;> split <;> first | rfl | omega
theorem dPls_at1 (ps : List Plc) (k : Nat) : (dPls ps)[k * 2 + 1]? = if k < ps.length then some (DI (gq ps k).record) else none := by
  induction ps generalizing k with
  | nil => rfl
  | cons p ps ih =>
    cases k with
    | zero => rfl
    | succ k =>
      rw [show (k + 1) * 2 + 1 = k * 2 + 1 + 1 + 1 from by omega, dPls_cons, List.getElem?_cons_succ, List.getElem?_cons_succ, ih, List.length_cons]
      simp only [gq, List.getD_cons_succ]
      split <;> split <;> first | rfl | omega
theorem getI_dPls (ps : List Plc) (k : Nat) : getI (dPls ps) (k * 2) = (gq ps k).at_ := by
  unfold getI
  rw [dPls_at0]
  by_cases h : k < ps.length
  · rw [if_pos h]
  · rw [if_neg h, gq_ge (by omega)]
theorem getL_dPls (ps : List Plc) (k : Nat) : getL (dPls ps) (k * 2 + 1) = dI (gq ps k).record := by
  unfold getL
  rw [dPls_at1]
  by_cases h : k < ps.length
  · rw [if_pos h]
  · rw [if_neg h, gq_ge (by omega)]; rfl
theorem getE_dPls {ps : List Plc} {k : Nat} (h : k < ps.length) : getE (dPls ps) (k * 2 + 1) = 2 := by
  unfold getE
  rw [dPls_at1, if_pos h]
theorem HasC_dPls0 (ps : List Plc) (k : Nat) : HasC (.int .i64) (dPls ps) (k * 2) = (k < ps.length) := by
  unfold HasC
  rw [dPls_at0]
  apply propext
  constructor
  · rintro ⟨n, h⟩; split at h; assumption; cases h
  · intro h; rw [if_pos h]; exact ⟨_, rfl⟩
theorem HasC_dPls1 (ps : List Plc) (k : Nat) : HasC (.sl 2) (dPls ps) (k * 2 + 1) = (k < ps.length) := by
  unfold HasC
  rw [dPls_at1]
  apply propext
  constructor
  · rintro ⟨n, h⟩; split at h; assumption; cases h
  · intro h; rw [if_pos h]; exact ⟨_, rfl⟩
theorem okPath_dPls (ps : List Plc) (k : Nat) : okPath (dPls ps) [k * 2 + 1] = (k < ps.length) := by
  unfold okPath
  rw [dPls_at1]
  apply propext
  constructor
  · rintro ⟨e, ys, h, -⟩; split at h; assumption; cases h
  · intro h; rw [if_pos h]; exact ⟨_, _, rfl, trivial⟩
theorem set_dPls0 (ps : List Plc) (k : Nat) (n : Int) : (dPls ps).set (k * 2) (.int .i64 n) = dPls (ps.set k ⟨n, (gq ps k).record⟩) := by
  induction ps generalizing k with
  | nil => simp [dPls]
  | cons p ps ih =>
    cases k with
    | zero => rfl
    | succ k => rw [show (k + 1) * 2 = k * 2 + 1 + 1 from by omega, dPls_cons, List.set_cons_succ, List.set_cons_succ, ih, List.set_cons_succ, dPls_cons]; rfl
theorem set_dPls1 (ps : List Plc) (k : Nat) (r : List Int) : (dPls ps).set (k * 2 + 1) (.lst 2 (dI r)) = dPls (ps.set k ⟨(gq ps k).at_, r⟩) := by
  induction ps generalizing k with
  | nil => simp [dPls]
  | cons p ps ih =>
    cases k with
    | zero => rfl
    | succ k => rw [show (k + 1) * 2 + 1 = k * 2 + 1 + 1 + 1 from by omega, dPls_cons, List.set_cons_succ, List.set_cons_succ, ih, List.set_cons_succ, dPls_cons]; rfl
attribute [push_cast] m2q len_dPls take_dPlsA app1_dPls getI_dPls getL_dPls HasC_dPls0 HasC_dPls1 okPath_dPls set_dPls0 set_dPls1
def cQ (ps : List Plc) : Nat := (ps.map fun p => 1 + p.record.length).sum
theorem cQ_snoc (ps : List Plc) (p : Plc) : cQ (ps ++ [p]) = cQ ps + (1 + p.record.length) := by simp [cQ]
theorem cQ_take {ps : List Plc} {k : Nat} (h : k < ps.length) : cQ (ps.take (k + 1)) = cQ (ps.take k) + 1 + (gq ps k).record.length := by rw [tk_snocQ h, cQ_snoc]; omega
theorem cQ_app (a b : List Plc) : cQ (a ++ b) = cQ a + cQ b := by simp [cQ]
theorem cQ_take_le (ps : List Plc) (k : Nat) : cQ (ps.take k) ≤ cQ ps := by
  have h := List.take_append_drop k ps
  have h2 := cQ_app (ps.take k) (ps.drop k)
  rw [h] at h2
  omega
def mkQ : Int → List Plc → List Plc
  | _, [] => []
  | k, p :: ps => ⟨k, iot (k + 1) p.record.length⟩ :: mkQ (k + 1 + p.record.length) ps
theorem mkQ_len : ∀ (k : Int) (ps : List Plc), (mkQ k ps).length = ps.length
  | _, [] => rfl
  | k, p :: ps => by rw [mkQ, List.length_cons, mkQ_len, List.length_cons]
theorem mkQ_snoc : ∀ (k : Int) (ps : List Plc) (p : Plc), mkQ k (ps ++ [p]) = mkQ k ps ++ [⟨k + cQ ps, iot (k + cQ ps + 1) p.record.length⟩]
  | k, [], p => by simp [mkQ, cQ]
  | k, q :: ps, p => by
    rw [List.cons_append, mkQ, mkQ_snoc, mkQ, List.cons_append]
    have e : k + 1 + (q.record.length : Int) + (cQ ps : Int) = k + cQ (q :: ps) := by simp [cQ]; omega
    rw [e]
def mq (k : Int) (ps : List Plc) (j : Nat) : List Plc := mkQ k (ps.take j) ++ ps.drop j
theorem mq_0 (k : Int) (ps : List Plc) : mq k ps 0 = ps := rfl
theorem mq_all (k : Int) (ps : List Plc) : mq k ps ps.length = mkQ k ps := by simp [mq]
theorem mq_len {k : Int} {ps : List Plc} {j : Nat} (h : j ≤ ps.length) : (mq k ps j).length = ps.length := by simp [mq, mkQ_len]; omega
theorem mq_at {k : Int} {ps : List Plc} {j : Nat} (h : j < ps.length) : gq (mq k ps j) j = gq ps j := by
  have hl : (mkQ k (ps.take j)).length = j := by rw [mkQ_len, List.length_take]; omega
  unfold gq mq
  rw [List.getD_eq_getElem?_getD, List.getD_eq_getElem?_getD, List.getElem?_append_right (by omega), hl, Nat.sub_self, List.getElem?_drop]
  rfl
theorem gq_set {ps : List Plc} {j : Nat} {p : Plc} (h : j < ps.length) : gq (ps.set j p) j = p := by
  unfold gq
  rw [List.getD_eq_getElem?_getD, List.getElem?_set_self h]
  rfl
theorem mq_set {k : Int} {ps : List Plc} {j : Nat} (h : j < ps.length) : (mq k ps j).set j ⟨k + cQ (ps.take j), iot (k + cQ (ps.take j) + 1) (gq ps j).record.length⟩ = mq k ps (j + 1) := by
  have hl : (mkQ k (ps.take j)).length = j := by rw [mkQ_len, List.length_take]; omega
  have hd : ps.drop j = gq ps j :: ps.drop (j + 1) := by
    rw [List.drop_eq_getElem_cons h]
    have := gq_lt h
    rw [List.getElem?_eq_getElem h] at this
    rw [Option.some.inj this]
  unfold mq
  rw [List.set_append_right _ _ (by omega), hl, Nat.sub_self, hd, List.set_cons_zero, tk_snocQ h, mkQ_snoc, List.append_assoc]
  rfl
theorem mkQ_at {k : Int} {ps : List Plc} {j : Nat} (h : j < ps.length) : gq (mkQ k ps) j = ⟨k + cQ (ps.take j), iot (k + cQ (ps.take j) + 1) (gq ps j).record.length⟩ := by
  induction ps generalizing k j with
  | nil => simp at h
  | cons p ps ih =>
    cases j with
    | zero => simp [mkQ, gq, cQ]
    | succ j =>
      have h1 := ih (k := k + 1 + p.record.length) (j := j) (by simpa using h)
      rw [mkQ, show gq (⟨k, iot (k + 1) p.record.length⟩ :: mkQ (k + 1 + p.record.length) ps) (j + 1) = gq (mkQ (k + 1 + p.record.length) ps) j from rfl, h1, show gq (p :: ps) (j + 1) = gq ps j from rfl, List.take_succ_cons]
      have e : k + 1 + (p.record.length : Int) + (cQ (ps.take j) : Int) = k + cQ (p :: ps.take j) := by simp [cQ]; omega
      rw [e]
def QLn (B : Nat) (ps : List Plc) : Prop := ps.length ≤ B ∧ ∀ p ∈ ps, p.record.length ≤ B
theorem gq_le {B : Nat} {ps : List Plc} (h : QLn B ps) (k : Nat) : (gq ps k).record.length ≤ B := by
  rcases Nat.lt_or_ge k ps.length with hk | hk
  · exact h.2 _ (gq_mem hk)
  · rw [gq_ge hk]; exact Nat.zero_le _
theorem cQ_le {B : Nat} {ps : List Plc} (h : ∀ p ∈ ps, p.record.length ≤ B) : cQ ps ≤ ps.length * (B + 1) := by
  induction ps with
  | nil => exact Nat.zero_le _
  | cons p ps ih =>
    have h1 := ih fun q hq => h q (List.mem_cons_of_mem _ hq)
    have h2 := h p List.mem_cons_self
    have e : cQ (p :: ps) = 1 + p.record.length + cQ ps := by simp [cQ]
    rw [e, List.length_cons, Nat.add_mul]
    omega
theorem cnt_QS {ps : List Plc} (h : QLn 1048576 ps) : cQ ps ≤ 2199023255552 ∧ ps.length ≤ 1048576 := by
  have h1 := cQ_le h.2
  have h2 : ps.length * (1048576 + 1) ≤ 1048576 * (1048576 + 1) := Nat.mul_le_mul_right _ h.1
  exact ⟨by omega, h.1⟩
set_option maxRecDepth 20000 in
set_option maxHeartbeats 4000000 in
theorem eqQS_fn (ps : List Plc) (ha : QLn 1048576 ps) : Fn Try.prog tyT 14 [.c (.lst 78 (dPls ps)), .c (.lst 78 (dPls ps))] [.c (.bool true)] := by
  have hl := ha.1
  have hQ := fun k => eqPlc_fn (gq ps k) ⟨gq_le ha k⟩
  unfold dPlc at hQ
  refine Fn_of (fn := Try.f14) (ts := [4]) Try.func14 (by kernel_rfl) rfl rfl (by rw [Try.ntmps14]; exact Nat.le_of_ble_eq_true rfl) rfl (by simp only [szA, List.mem_cons, List.not_mem_nil, or_false, forall_eq_or_imp, forall_eq, VT.cells, szL]; try decide) ?_
  rw [Try.ntmps14]
  simp only [push_cast, ↓brB_true, ↓brB_false, ↓reduceIte, zA, zB, zC, zD, zE, zF, zG, zH, zI, reduceCtorEq]
  refine awp_seq' fun K hK => ?_
  refine awp_region tyOk tyPos [] rfl ?_
  all_goals simp only [push_cast, ↓brB_true, ↓brB_false, ↓reduceIte, zA, zB, zC, zD, zE, zF, zG, zH, zI, reduceCtorEq]
  all_goals repeat' (first | (apply brB_mk <;> (intro hg; (try simp only [push_cast] at hg))) | apply And.intro | (intro hg; (try simp only [push_cast] at hg)))
  all_goals first | exact gA | (exact getE_dPls (by omega)) | skip
  all_goals first | (refine hK _ ?_; clear hK K) | (simp only [push_cast]; done)
  refine awp_seq' fun K1 hK1 => ?_
  refine awp_seq' fun K hK => ?_
  refine awp_region tyOk tyPos [] rfl ?_
  all_goals simp only [push_cast, ↓brB_true, ↓brB_false, ↓reduceIte, zA, zB, zC, zD, zE, zF, zG, zH, zI, reduceCtorEq]
  all_goals repeat' (first | (apply brB_mk <;> (intro hg; (try simp only [push_cast] at hg))) | apply And.intro | (intro hg; (try simp only [push_cast] at hg)))
  all_goals first | exact gA | (exact getE_dPls (by omega)) | skip
  all_goals first | (refine hK _ ?_; clear hK K) | (simp only [push_cast]; done)
  refine awp_cond rfl (fun hc => ?_) (fun hc => ?_)
  skip
  · exfalso; first | (cases hc; done) | (simp only [push_cast] at hc; done) | (simp only [push_cast] at hc; omega) | omega
  refine awp_skip ?_
  (try simp only [AThen, ABlk, reduceIte, zF]); refine hK1 _ ?_
  refine awp_seq' fun K2 hK2 => ?_
  refine awp_seq' fun K hK => ?_
  refine awp_region tyOk tyPos [] rfl ?_
  all_goals simp only [push_cast, ↓brB_true, ↓brB_false, ↓reduceIte, zA, zB, zC, zD, zE, zF, zG, zH, zI, reduceCtorEq]
  all_goals repeat' (first | (apply brB_mk <;> (intro hg; (try simp only [push_cast] at hg))) | apply And.intro | (intro hg; (try simp only [push_cast] at hg)))
  all_goals first | exact gA | (exact getE_dPls (by omega)) | skip
  all_goals first | (refine hK _ ?_; clear hK K) | (simp only [push_cast]; done)
  refine awp_block ?_
  refine awp_loopU [4,5,11,12,13,14,15,16,17,18,19,20,21,22,23,24,25,26] [] (fun (k : Nat) => [(5, .int .i64 k)]) (fun k => []) (fun k => []) (fun k => k ≤ ps.length) (fun k => ps.length - k) 0 ?_ (by omega) ?_
  ·
    refine cov_of rfl ?_ ?_ ?_ <;> simp only [covS, covL, push_cast, ↓brB_true, ↓brB_false, ↓reduceIte, zA, zB, zC, zD, zE, zF, zG, zH, zI, reduceCtorEq]
  · rintro k hk KL0 hL0
    simp only [push_cast, ↓brB_true, ↓brB_false, ↓reduceIte, zA, zB, zC, zD, zE, zF, zG, zH, zI, reduceCtorEq]
    refine awp_seq' fun K3 hK3 => ?_
    refine awp_seq' fun K hK => ?_
    refine awp_region tyOk tyPos [] rfl ?_
    all_goals simp only [push_cast, ↓brB_true, ↓brB_false, ↓reduceIte, zA, zB, zC, zD, zE, zF, zG, zH, zI, reduceCtorEq]
    all_goals repeat' (first | (apply brB_mk <;> (intro hg; (try simp only [push_cast] at hg))) | apply And.intro | (intro hg; (try simp only [push_cast] at hg)))
    all_goals first | exact gA | (exact getE_dPls (by omega)) | skip
    all_goals first | (refine hK _ ?_; clear hK K) | (simp only [push_cast]; done)
    refine awp_cond rfl (fun hc => ?_) (fun hc => ?_) <;> (try simp only [push_cast] at hc)
    ·
      refine awp_skip ?_
      (try simp only [AThen, ABlk, reduceIte, zF]); refine hK3 _ ?_
      refine awp_seq' fun K4 hK4 => ?_
      refine awp_block ?_
      refine awp_seq' fun K hK => ?_
      refine awp_regionD1 false tyOk tyPos tyMix ?_ rfl ?_
      · kernel_rfl
      intro E hE
      all_goals refine lexF_cut 9 (by decide) fun K9 hK9 => ?_
      all_goals simp only [push_cast, ↓brB_true, ↓brB_false, ↓reduceIte, zA, zB, zC, zD, zE, zF, zG, zH, zI, reduceCtorEq]
      all_goals repeat' (first | (apply brB_mk <;> (intro hg; (try simp only [push_cast] at hg))) | (refine ⟨_, hQ k, ?_⟩; simp only [push_cast, ↓brB_true, ↓brB_false, ↓reduceIte, zA, zB, zC, zD, zE, zF, zG, zH, zI, reduceCtorEq]) | apply And.intro | (intro hg; (try simp only [push_cast] at hg)))
      all_goals first | exact gA | (exact getE_dPls (by omega)) | skip
      all_goals first | (refine hK9 _ _ ?_; clear hK9 K9) | (simp only [push_cast]; done)
      all_goals simp only [push_cast, ↓brB_true, ↓brB_false, ↓reduceIte, zA, zB, zC, zD, zE, zF, zG, zH, zI, reduceCtorEq]
      all_goals repeat' (first | (apply brB_mk <;> (intro hg; (try simp only [push_cast] at hg))) | (refine ⟨_, hQ k, ?_⟩; simp only [push_cast, ↓brB_true, ↓brB_false, ↓reduceIte, zA, zB, zC, zD, zE, zF, zG, zH, zI, reduceCtorEq]) | apply And.intro | (intro hg; (try simp only [push_cast] at hg)))
      all_goals first | exact gA | (refine hE _ _ ?_ ?_; kernel_rfl) | (exact getE_dPls (by omega)) | skip
      all_goals clear hE E
      all_goals first | (refine hK _ ?_; clear hK K) | (simp only [push_cast]; done)
      refine awp_cond rfl (fun hc => ?_) (fun hc => ?_)
      skip
      · exfalso; first | (cases hc; done) | (simp only [push_cast] at hc; done) | (simp only [push_cast] at hc; omega) | omega
      refine awp_skip ?_
      (try simp only [AThen, ABlk, reduceIte, zF]); refine hK4 _ ?_
      refine awp_region tyOk tyPos [] rfl ?_
      all_goals simp only [push_cast, ↓brB_true, ↓brB_false, ↓reduceIte, zA, zB, zC, zD, zE, zF, zG, zH, zI, reduceCtorEq]
      all_goals repeat' (first | (apply brB_mk <;> (intro hg; (try simp only [push_cast] at hg))) | apply And.intro | (intro hg; (try simp only [push_cast] at hg)))
      all_goals first | exact gA | (exact getE_dPls (by omega)) | skip
      refine hL0 _ ⟨k + 1, by omega, by omega, ?_⟩
      refine cov_of rfl ?_ ?_ ?_ <;> simp only [covS, covL, push_cast, ↓brB_true, ↓brB_false, ↓reduceIte, zA, zB, zC, zD, zE, zF, zG, zH, zI, reduceCtorEq]
    ·
      refine awp_exit ?_
      (try simp only [AThen, ABlk, reduceIte, zF]); refine hK2 _ ?_
      refine awp_seq' fun K hK => ?_
      refine awp_region tyOk tyPos [] rfl ?_
      all_goals simp only [push_cast, ↓brB_true, ↓brB_false, ↓reduceIte, zA, zB, zC, zD, zE, zF, zG, zH, zI, reduceCtorEq]
      all_goals repeat' (first | (apply brB_mk <;> (intro hg; (try simp only [push_cast] at hg))) | apply And.intro | (intro hg; (try simp only [push_cast] at hg)))
      all_goals first | exact gA | (exact getE_dPls (by omega)) | skip
      all_goals first | (refine hK _ ?_; clear hK K) | (simp only [push_cast]; done)
      refine awp_ret ?_
      (try simp only [AThen, ABlk])
      refine ⟨Or.inl rfl, ?_⟩
      simp only [RetOk, push_cast, ↓brB_true, ↓brB_false, ↓reduceIte, zA, zB, zC, zD, zE, zF, zG, zH, zI, reduceCtorEq]
set_option maxRecDepth 20000 in
set_option maxHeartbeats 4000000 in
theorem markQS_fn (ps : List Plc) (k : Int) (h0 : 0 ≤ k) (h1 : k + cQ ps ≤ 4611686018427387904) (h2 : ps.length ≤ 1048576) : FnG Try.prog tyT 19 [.c (.lst 78 (dPls ps)), .c (.int .i64 k)] [0] [(0, 78, dPls (mkQ k ps))] [.c (.int .i64 (k + cQ ps))] := by
  have hM := fun r (m : Int) g0 g1 => markInt64S_fn r m g0 g1
  refine FnG_of (fn := Try.f19) (rs := [.tmp 4]) (own := [0]) (outs := [(0, 78, dPls (mkQ k ps))]) tyOk tyPos Try.func19 (by kernel_rfl) rfl rfl (by rw [Try.ntmps19]; exact Nat.le_of_ble_eq_true rfl) rfl (by simp only [szA, List.mem_cons, List.not_mem_nil, or_false, forall_eq_or_imp, forall_eq, VT.cells, szL]; try decide) ?_
  rw [Try.ntmps19]
  simp only [push_cast, ↓brB_true, ↓brB_false, ↓reduceIte, zA, zB, zC, zD, zE, zF, zG, zH, zI, reduceCtorEq]
  refine awp_seq' fun K hK => ?_
  refine awp_region tyOk tyPos [] rfl ?_
  all_goals simp only [push_cast, ↓brB_true, ↓brB_false, ↓reduceIte, zA, zB, zC, zD, zE, zF, zG, zH, zI, reduceCtorEq]
  all_goals repeat' (first | (apply brB_mk <;> (intro hg; (try simp only [push_cast] at hg))) | apply And.intro | (intro hg; (try simp only [push_cast] at hg)))
  all_goals first | exact gA | (exact getE_dPls (by omega)) | skip
  all_goals first | (refine hK _ ?_; clear hK K) | (simp only [push_cast]; done)
  refine awp_seq' fun K1 hK1 => ?_
  refine awp_seq' fun K hK => ?_
  refine awp_region tyOk tyPos [] rfl ?_
  all_goals simp only [push_cast, ↓brB_true, ↓brB_false, ↓reduceIte, zA, zB, zC, zD, zE, zF, zG, zH, zI, reduceCtorEq]
  all_goals repeat' (first | (apply brB_mk <;> (intro hg; (try simp only [push_cast] at hg))) | apply And.intro | (intro hg; (try simp only [push_cast] at hg)))
  all_goals first | exact gA | (exact getE_dPls (by omega)) | skip
  all_goals first | (refine hK _ ?_; clear hK K) | (simp only [push_cast]; done)
  refine awp_block ?_
  refine awp_loopU [1,5,6,7,8,9,10,11,12,13,14,15,16,17,18,19,20,21,22,23,24,25] [0] (fun (j : Nat) => [(5, .int .i64 j), (1, .int .i64 (k + cQ (ps.take j)))]) (fun j => []) (fun j => [(0, ⟨.ex, 78, dPls (mq k ps j), some 0⟩)]) (fun j => j ≤ ps.length) (fun j => ps.length - j) 0 ?_ (by omega) ?_
  ·
    rw [mq_0, List.take_zero, show ((cQ [] : Nat) : Int) = 0 from rfl, Int.add_zero]
    refine cov_of rfl ?_ ?_ ?_ <;> simp only [covS, covL, push_cast, ↓brB_true, ↓brB_false, ↓reduceIte, zA, zB, zC, zD, zE, zF, zG, zH, zI, reduceCtorEq]
  · rintro j hj KL0 hL0
    have hl := mq_len (k := k) hj
    have hs := cQ_take_le ps j
    have hs1 := cQ_take_le ps (j + 1)
    simp only [push_cast, ↓brB_true, ↓brB_false, ↓reduceIte, zA, zB, zC, zD, zE, zF, zG, zH, zI, reduceCtorEq]
    refine awp_seq' fun K2 hK2 => ?_
    refine awp_seq' fun K hK => ?_
    refine awp_region tyOk tyPos [] rfl ?_
    all_goals simp only [push_cast, ↓brB_true, ↓brB_false, ↓reduceIte, zA, zB, zC, zD, zE, zF, zG, zH, zI, reduceCtorEq]
    all_goals repeat' (first | (apply brB_mk <;> (intro hg; (try simp only [push_cast] at hg))) | apply And.intro | (intro hg; (try simp only [push_cast] at hg)))
    all_goals first | exact gA | (exact getE_dPls (by omega)) | skip
    all_goals first | (refine hK _ ?_; clear hK K) | (simp only [push_cast]; done)
    refine awp_cond rfl (fun hc => ?_) (fun hc => ?_) <;> (try simp only [push_cast] at hc)
    ·
      refine awp_skip ?_
      (try simp only [AThen, ABlk, reduceIte, zF]); refine hK2 _ ?_
      refine awp_seq' fun K3 hK3 => ?_
      refine awp_block ?_
      have hst := cQ_take (ps := ps) (k := j) (by omega)
      have hM0 := hM (gq ps j).record (k + cQ (ps.take j) + 1) (by omega) (by omega)
      refine awp_seq' fun K hK => ?_
      refine awp_region tyOk tyPos [] rfl ?_
      all_goals simp only [push_cast, ↓brB_true, ↓brB_false, ↓reduceIte, zA, zB, zC, zD, zE, zF, zG, zH, zI, reduceCtorEq]
      all_goals repeat' (first | (apply brB_mk <;> (intro hg; (try simp only [push_cast] at hg))) | apply And.intro | (intro hg; (try simp only [push_cast] at hg)))
      all_goals first | exact gA | (exact getE_dPls (by omega)) | skip
      all_goals first | (refine hK _ ?_; clear hK K) | (simp only [push_cast]; done)
      refine awp_seq' fun K hK => ?_
      refine awp_region tyOk tyPos [] rfl ?_
      all_goals simp only [push_cast, ↓brB_true, ↓brB_false, ↓reduceIte, zA, zB, zC, zD, zE, zF, zG, zH, zI, reduceCtorEq]
      all_goals repeat' (first | (apply brB_mk <;> (intro hg; (try simp only [push_cast] at hg))) | apply And.intro | (intro hg; (try simp only [push_cast] at hg)))
      all_goals first | exact gA | (exact getE_dPls (by omega)) | skip
      all_goals first | (refine hK _ ?_; clear hK K) | (simp only [push_cast]; done)
      have hmq := mq_at (k := k) (ps := ps) (j := j) (by omega)
      rw [hmq]
      have hql : ((mq k ps j).set j ⟨k + cQ (ps.take j), (gq ps j).record⟩).length = ps.length := by rw [List.length_set]; exact hl
      have hqg := gq_set (ps := mq k ps j) (j := j) (p := ⟨k + cQ (ps.take j), (gq ps j).record⟩) (by omega)
      generalize hqs : (mq k ps j).set j ⟨k + cQ (ps.take j), (gq ps j).record⟩ = qs at hql hqg ⊢
      rw [show DI (gq ps j).record = DI (gq qs j).record from by rw [hqg]] at hM0
      refine awp_regionG 25 [0] [(0, 2, dI (iot (k + cQ (ps.take j) + 1) (gq ps j).record.length))] tyOk tyPos [] rfl ?_
      simp only [push_cast, ↓brB_true, ↓brB_false, ↓reduceIte, zA, zB, zC, zD, zE, zF, zG, zH, zI, reduceCtorEq]
      all_goals repeat' (first | (apply brB_mk <;> (intro hg; (try simp only [push_cast] at hg))) | (refine ⟨_, hM0, ?_⟩; simp only [push_cast, ↓brB_true, ↓brB_false, ↓reduceIte, zA, zB, zC, zD, zE, zF, zG, zH, zI, reduceCtorEq]) | apply And.intro | (intro hg; (try simp only [push_cast] at hg)))
      all_goals first | exact gA | (exact getE_dPls (by omega)) | skip
      (try simp only [AThen, ABlk, reduceIte, zF]); refine hK3 _ ?_
      refine awp_region tyOk tyPos [] rfl ?_
      all_goals simp only [push_cast, ↓brB_true, ↓brB_false, ↓reduceIte, zA, zB, zC, zD, zE, zF, zG, zH, zI, reduceCtorEq]
      all_goals repeat' (first | (apply brB_mk <;> (intro hg; (try simp only [push_cast] at hg))) | apply And.intro | (intro hg; (try simp only [push_cast] at hg)))
      all_goals first | exact gA | (exact getE_dPls (by omega)) | skip
      refine hL0 _ ⟨j + 1, by omega, by omega, ?_⟩
      rw [hqg]
      subst hqs
      rw [List.set_set, mq_set (by omega)]
      refine cov_of rfl ?_ ?_ ?_ <;> simp only [covS, covL, push_cast, ↓brB_true, ↓brB_false, ↓reduceIte, zA, zB, zC, zD, zE, zF, zG, zH, zI, reduceCtorEq]
      all_goals (try (refine congrArg (AV.int .i64) ?_; omega))
    ·
      refine awp_exit ?_
      have hjj : j = ps.length := by omega
      subst hjj
      rw [mq_all, List.take_length]
      (try simp only [AThen, ABlk, reduceIte, zF]); refine hK1 _ ?_
      refine awp_seq' fun K hK => ?_
      refine awp_region tyOk tyPos [] rfl ?_
      all_goals simp only [push_cast, ↓brB_true, ↓brB_false, ↓reduceIte, zA, zB, zC, zD, zE, zF, zG, zH, zI, reduceCtorEq]
      all_goals repeat' (first | (apply brB_mk <;> (intro hg; (try simp only [push_cast] at hg))) | apply And.intro | (intro hg; (try simp only [push_cast] at hg)))
      all_goals first | exact gA | (exact getE_dPls (by omega)) | skip
      all_goals first | (refine hK _ ?_; clear hK K) | (simp only [push_cast]; done)
      refine awp_ret ?_
      (try simp only [AThen, ABlk])
      refine ⟨Or.inl rfl, ?_⟩
      simp only [RetOkG, outsOk, resVars, resVar, push_cast, ↓brB_true, ↓brB_false, ↓reduceIte, zA, zB, zC, zD, zE, zF, zG, zH, zI, reduceCtorEq]
set_option maxRecDepth 20000 in
set_option maxHeartbeats 4000000 in
theorem heldQS_fn (ps : List Plc) (k : Int) (h0 : 0 ≤ k) (h1 : k + cQ ps ≤ 4611686018427387904) (h2 : ps.length ≤ 1048576) : Fn Try.prog tyT 20 [.c (.lst 78 (dPls (mkQ k ps))), .c (.int .i64 k)] [.c (.int .i64 (k + cQ ps))] := by
  have hn := mkQ_len k ps
  have hM := fun n (m : Int) g0 g1 => heldInt64S_fn n m g0 g1
  refine Fn_of (fn := Try.f20) (ts := [4]) Try.func20 (by kernel_rfl) rfl rfl (by rw [Try.ntmps20]; exact Nat.le_of_ble_eq_true rfl) rfl (by simp only [szA, List.mem_cons, List.not_mem_nil, or_false, forall_eq_or_imp, forall_eq, VT.cells, szL]; try decide) ?_
  rw [Try.ntmps20]
  simp only [push_cast, ↓brB_true, ↓brB_false, ↓reduceIte, zA, zB, zC, zD, zE, zF, zG, zH, zI, reduceCtorEq]
  refine awp_seq' fun K hK => ?_
  refine awp_region tyOk tyPos [] rfl ?_
  all_goals simp only [push_cast, ↓brB_true, ↓brB_false, ↓reduceIte, zA, zB, zC, zD, zE, zF, zG, zH, zI, reduceCtorEq]
  all_goals repeat' (first | (apply brB_mk <;> (intro hg; (try simp only [push_cast] at hg))) | apply And.intro | (intro hg; (try simp only [push_cast] at hg)))
  all_goals first | exact gA | (exact getE_dPls (by omega)) | skip
  all_goals first | (refine hK _ ?_; clear hK K) | (simp only [push_cast]; done)
  refine awp_seq' fun K1 hK1 => ?_
  refine awp_seq' fun K hK => ?_
  refine awp_region tyOk tyPos [] rfl ?_
  all_goals simp only [push_cast, ↓brB_true, ↓brB_false, ↓reduceIte, zA, zB, zC, zD, zE, zF, zG, zH, zI, reduceCtorEq]
  all_goals repeat' (first | (apply brB_mk <;> (intro hg; (try simp only [push_cast] at hg))) | apply And.intro | (intro hg; (try simp only [push_cast] at hg)))
  all_goals first | exact gA | (exact getE_dPls (by omega)) | skip
  all_goals first | (refine hK _ ?_; clear hK K) | (simp only [push_cast]; done)
  refine awp_block ?_
  refine awp_loopU [1,4,5,6,7,8,9,10,11,12,13,14,15,16,17,18,19,20,21,22,23,24,25,26,27,28,29] [] (fun (j : Nat) => [(5, .int .i64 j), (1, .int .i64 (k + cQ (ps.take j)))]) (fun j => []) (fun j => []) (fun j => j ≤ ps.length) (fun j => ps.length - j) 0 ?_ (by omega) ?_
  ·
    rw [List.take_zero, show ((cQ [] : Nat) : Int) = 0 from rfl, Int.add_zero]
    refine cov_of rfl ?_ ?_ ?_ <;> simp only [covS, covL, push_cast, ↓brB_true, ↓brB_false, ↓reduceIte, zA, zB, zC, zD, zE, zF, zG, zH, zI, reduceCtorEq]
  · rintro j hj KL0 hL0
    have hs := cQ_take_le ps j
    have hs1 := cQ_take_le ps (j + 1)
    simp only [push_cast, ↓brB_true, ↓brB_false, ↓reduceIte, zA, zB, zC, zD, zE, zF, zG, zH, zI, reduceCtorEq]
    refine awp_seq' fun K2 hK2 => ?_
    refine awp_seq' fun K hK => ?_
    refine awp_region tyOk tyPos [] rfl ?_
    all_goals simp only [push_cast, ↓brB_true, ↓brB_false, ↓reduceIte, zA, zB, zC, zD, zE, zF, zG, zH, zI, reduceCtorEq]
    all_goals repeat' (first | (apply brB_mk <;> (intro hg; (try simp only [push_cast] at hg))) | apply And.intro | (intro hg; (try simp only [push_cast] at hg)))
    all_goals first | exact gA | (exact getE_dPls (by omega)) | skip
    all_goals first | (refine hK _ ?_; clear hK K) | (simp only [push_cast]; done)
    refine awp_cond rfl (fun hc => ?_) (fun hc => ?_) <;> (try simp only [push_cast] at hc)
    ·
      refine awp_skip ?_
      (try simp only [AThen, ABlk, reduceIte, zF]); refine hK2 _ ?_
      refine awp_seq' fun K3 hK3 => ?_
      refine awp_block ?_
      refine awp_seq' fun K4 hK4 => ?_
      have hst := cQ_take (ps := ps) (k := j) (by omega)
      have hM0 := hM (gq ps j).record.length (k + cQ (ps.take j) + 1) (by omega) (by omega)
      have hmk := mkQ_at (k := k) (ps := ps) (j := j) (by omega)
      rw [show DI (iot (k + cQ (ps.take j) + 1) (gq ps j).record.length) = DI (gq (mkQ k ps) j).record from by rw [hmk]] at hM0
      refine awp_seq' fun K hK => ?_
      refine awp_region tyOk tyPos [] rfl ?_
      all_goals simp only [push_cast, ↓brB_true, ↓brB_false, ↓reduceIte, zA, zB, zC, zD, zE, zF, zG, zH, zI, reduceCtorEq]
      all_goals repeat' (first | (apply brB_mk <;> (intro hg; (try simp only [push_cast] at hg))) | apply And.intro | (intro hg; (try simp only [push_cast] at hg)))
      all_goals first | exact gA | (exact getE_dPls (by omega)) | skip
      all_goals first | (refine hK _ ?_; clear hK K) | (simp only [push_cast]; done)
      refine awp_cond rfl (fun hc => ?_) (fun hc => ?_)
      skip
      · exfalso; (rw [mkQ_at (by omega)] at hc; simp at hc)
      refine awp_skip ?_
      (try simp only [AThen, ABlk, reduceIte, zF]); refine hK4 _ ?_
      refine awp_seq' fun K hK => ?_
      refine awp_region tyOk tyPos [] rfl ?_
      all_goals simp only [push_cast, ↓brB_true, ↓brB_false, ↓reduceIte, zA, zB, zC, zD, zE, zF, zG, zH, zI, reduceCtorEq]
      all_goals repeat' (first | (apply brB_mk <;> (intro hg; (try simp only [push_cast] at hg))) | apply And.intro | (intro hg; (try simp only [push_cast] at hg)))
      all_goals first | exact gA | (exact getE_dPls (by omega)) | skip
      all_goals first | (refine hK _ ?_; clear hK K) | (simp only [push_cast]; done)
      refine awp_seq' fun K hK => ?_
      refine awp_region tyOk tyPos [] rfl ?_
      all_goals refine aops_cut 7 fun K9 hK9 => ?_
      all_goals simp only [push_cast, ↓brB_true, ↓brB_false, ↓reduceIte, zA, zB, zC, zD, zE, zF, zG, zH, zI, reduceCtorEq]
      all_goals repeat' (first | (apply brB_mk <;> (intro hg; (try simp only [push_cast] at hg))) | (refine ⟨_, hM0, ?_⟩; simp only [push_cast, ↓brB_true, ↓brB_false, ↓reduceIte, zA, zB, zC, zD, zE, zF, zG, zH, zI, reduceCtorEq]) | apply And.intro | (intro hg; (try simp only [push_cast] at hg)))
      all_goals first | exact gA | (exact getE_dPls (by omega)) | skip
      all_goals first | (refine hK9 _ ?_; clear hK9 K9) | (simp only [push_cast]; done)
      all_goals simp only [push_cast, ↓brB_true, ↓brB_false, ↓reduceIte, zA, zB, zC, zD, zE, zF, zG, zH, zI, reduceCtorEq]
      all_goals repeat' (first | (apply brB_mk <;> (intro hg; (try simp only [push_cast] at hg))) | (refine ⟨_, hM0, ?_⟩; simp only [push_cast, ↓brB_true, ↓brB_false, ↓reduceIte, zA, zB, zC, zD, zE, zF, zG, zH, zI, reduceCtorEq]) | apply And.intro | (intro hg; (try simp only [push_cast] at hg)))
      all_goals first | exact gA | (exact getE_dPls (by omega)) | skip
      all_goals first | (refine hK _ ?_; clear hK K) | (simp only [push_cast]; done)
      refine awp_seq' fun K hK => ?_
      refine awp_region tyOk tyPos [] rfl ?_
      all_goals simp only [push_cast, ↓brB_true, ↓brB_false, ↓reduceIte, zA, zB, zC, zD, zE, zF, zG, zH, zI, reduceCtorEq]
      all_goals repeat' (first | (apply brB_mk <;> (intro hg; (try simp only [push_cast] at hg))) | apply And.intro | (intro hg; (try simp only [push_cast] at hg)))
      all_goals first | exact gA | (exact getE_dPls (by omega)) | skip
      all_goals first | (refine hK _ ?_; clear hK K) | (simp only [push_cast]; done)
      refine awp_cond rfl (fun hc => ?_) (fun hc => ?_)
      skip
      · exfalso; (simp at hc; omega)
      refine awp_skip ?_
      (try simp only [AThen, ABlk, reduceIte, zF]); refine hK3 _ ?_
      refine awp_region tyOk tyPos [] rfl ?_
      all_goals simp only [push_cast, ↓brB_true, ↓brB_false, ↓reduceIte, zA, zB, zC, zD, zE, zF, zG, zH, zI, reduceCtorEq]
      all_goals repeat' (first | (apply brB_mk <;> (intro hg; (try simp only [push_cast] at hg))) | apply And.intro | (intro hg; (try simp only [push_cast] at hg)))
      all_goals first | exact gA | (exact getE_dPls (by omega)) | skip
      refine hL0 _ ⟨j + 1, by omega, by omega, ?_⟩
      refine cov_of rfl ?_ ?_ ?_ <;> simp only [covS, covL, push_cast, ↓brB_true, ↓brB_false, ↓reduceIte, zA, zB, zC, zD, zE, zF, zG, zH, zI, reduceCtorEq]
      all_goals (try (refine congrArg (AV.int .i64) ?_; omega))
    ·
      refine awp_exit ?_
      have hjj : j = ps.length := by omega
      subst hjj
      rw [List.take_length]
      (try simp only [AThen, ABlk, reduceIte, zF]); refine hK1 _ ?_
      refine awp_seq' fun K hK => ?_
      refine awp_region tyOk tyPos [] rfl ?_
      all_goals simp only [push_cast, ↓brB_true, ↓brB_false, ↓reduceIte, zA, zB, zC, zD, zE, zF, zG, zH, zI, reduceCtorEq]
      all_goals repeat' (first | (apply brB_mk <;> (intro hg; (try simp only [push_cast] at hg))) | apply And.intro | (intro hg; (try simp only [push_cast] at hg)))
      all_goals first | exact gA | (exact getE_dPls (by omega)) | skip
      all_goals first | (refine hK _ ?_; clear hK K) | (simp only [push_cast]; done)
      refine awp_ret ?_
      (try simp only [AThen, ABlk])
      refine ⟨Or.inl rfl, ?_⟩
      simp only [RetOk, push_cast, ↓brB_true, ↓brB_false, ↓reduceIte, zA, zB, zC, zD, zE, zF, zG, zH, zI, reduceCtorEq]
end Go.Proofs.Ytklconkoamoabaa
