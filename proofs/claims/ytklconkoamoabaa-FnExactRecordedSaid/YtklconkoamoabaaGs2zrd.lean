/- Recorded: the program's side -/
import Derived.Test.YtklconkoamoabaaB10zrd
import Derived.Test.YtklconkoamoabaaGszrd
namespace Go.Proofs.Ytklconkoamoabaa
open Nat renaming reduceMod → zA, reduceMul → zB, reduceDiv → zC, reduceAdd → zD, reduceSub → zE, reduceEqDiff → zF, reduceBEq → zG, reduceLT → zH, reduceLeDiff → zI
open Go.RowKit
set_option linter.unusedVariables false
set_option linter.unusedSimpArgs false

set_option maxRecDepth 20000 in
set_option maxHeartbeats 4000000 in
theorem recorded1_fn (ps : List Pr) (hp : PLn 1048576 ps) (p : Plc) (hv : recB p.record ps.length = true) : FnX Try.prog tyT 106 [.v (.agg [.int .i64 p.at_, DI p.record]), .ref (.lst 2 [.lst 99 (dII (ilv ps))])] [.c (DI (nxL ps p.record p.at_))] := by
  have hl := hp.1
  have hli := len_ilv ps
  have hrf := (rec_facts hv).1
  have hN := nextRecL_fn ps hp p.record p.at_ hv
  refine FnX_of (fn := Try.f106) (rs := [.tmp 3]) tyOk tyPos Try.func106 (by kernel_rfl) rfl rfl (by rw [Try.ntmps106]; exact Nat.le_of_ble_eq_true rfl) rfl (by simp only [szX, List.mem_cons, List.not_mem_nil, or_false, forall_eq_or_imp, forall_eq, XT.cells, VT.cells, szL]; try decide) ?_
  rw [Try.ntmps106]
  simp only [push_cast, ↓brB_true, ↓brB_false, ↓reduceIte, zA, zB, zC, zD, zE, zF, zG, zH, zI, reduceCtorEq]
  refine awp_seq' fun K hK => ?_
  refine awp_region tyOk tyPos [] rfl ?_
  simp only [push_cast, ↓brB_true, ↓brB_false, ↓reduceIte, zA, zB, zC, zD, zE, zF, zG, zH, zI, reduceCtorEq]
  repeat' apply And.intro
  all_goals try exact gB
  all_goals first | (refine hK _ ?_; clear hK K) | (simp only [push_cast]; done)
  refine awp_seq' fun K hK => ?_
  refine awp_region tyOk tyPos [] rfl ?_
  all_goals refine aops_cut 6 fun K9 hK9 => ?_
  all_goals simp only [push_cast, ↓brB_true, ↓brB_false, ↓reduceIte, zA, zB, zC, zD, zE, zF, zG, zH, zI, reduceCtorEq]
  all_goals repeat' (first | (apply brB_mk <;> (intro hg; (try simp only [push_cast] at hg))) | (refine ⟨_, hN, ?_⟩; simp only [push_cast, ↓brB_true, ↓brB_false, ↓reduceIte, zA, zB, zC, zD, zE, zF, zG, zH, zI, reduceCtorEq]) | apply And.intro | (intro hg; (try simp only [push_cast] at hg)))
  all_goals try exact gA
  all_goals first | (refine hK9 _ ?_; clear hK9 K9) | (simp only [push_cast]; done)
  all_goals simp only [push_cast, ↓brB_true, ↓brB_false, ↓reduceIte, zA, zB, zC, zD, zE, zF, zG, zH, zI, reduceCtorEq]
  all_goals repeat' (first | (apply brB_mk <;> (intro hg; (try simp only [push_cast] at hg))) | (refine ⟨_, hN, ?_⟩; simp only [push_cast, ↓brB_true, ↓brB_false, ↓reduceIte, zA, zB, zC, zD, zE, zF, zG, zH, zI, reduceCtorEq]) | apply And.intro | (intro hg; (try simp only [push_cast] at hg)))
  all_goals try exact gA
  all_goals first | (refine hK _ ?_; clear hK K) | (simp only [push_cast]; done)
  refine awp_ret ?_
  (try simp only [AThen, ABlk])
  refine ⟨Or.inl rfl, ?_⟩
  simp only [RetOk, resVars, resVar, push_cast, ↓brB_true, ↓brB_false, ↓reduceIte, zA, zB, zC, zD, zE, zF, zG, zH, zI, reduceCtorEq]
set_option maxRecDepth 20000 in
set_option maxHeartbeats 4000000 in
theorem recorded2_fn (ps : List Pr) (hp : PLn 1048576 ps) (p : Plc) (hv : recB p.record ps.length = true) : FnX Try.prog tyT 108 [.v (.agg [.int .i64 p.at_, DI p.record]), .ref (.lst 2 [.lst 99 (dII (ilv ps))])] [.c (.int .i64 (prioP ps p.record p.at_))] := by
  have hl := hp.1
  have hli := len_ilv ps
  have hrf := (rec_facts hv).1
  have hN := recPrioL_fn ps hp p.record p.at_ hv
  refine FnX_of (fn := Try.f108) (rs := [.tmp 3]) tyOk tyPos Try.func108 (by kernel_rfl) rfl rfl (by rw [Try.ntmps108]; exact Nat.le_of_ble_eq_true rfl) rfl (by simp only [szX, List.mem_cons, List.not_mem_nil, or_false, forall_eq_or_imp, forall_eq, XT.cells, VT.cells, szL]; try decide) ?_
  rw [Try.ntmps108]
  simp only [push_cast, ↓brB_true, ↓brB_false, ↓reduceIte, zA, zB, zC, zD, zE, zF, zG, zH, zI, reduceCtorEq]
  refine awp_seq' fun K hK => ?_
  refine awp_region tyOk tyPos [] rfl ?_
  simp only [push_cast, ↓brB_true, ↓brB_false, ↓reduceIte, zA, zB, zC, zD, zE, zF, zG, zH, zI, reduceCtorEq]
  repeat' apply And.intro
  all_goals try exact gB
  all_goals first | (refine hK _ ?_; clear hK K) | (simp only [push_cast]; done)
  refine awp_seq' fun K hK => ?_
  refine awp_region tyOk tyPos [] rfl ?_
  all_goals refine aops_cut 6 fun K9 hK9 => ?_
  all_goals simp only [push_cast, ↓brB_true, ↓brB_false, ↓reduceIte, zA, zB, zC, zD, zE, zF, zG, zH, zI, reduceCtorEq]
  all_goals repeat' (first | (apply brB_mk <;> (intro hg; (try simp only [push_cast] at hg))) | (refine ⟨_, hN, ?_⟩; simp only [push_cast, ↓brB_true, ↓brB_false, ↓reduceIte, zA, zB, zC, zD, zE, zF, zG, zH, zI, reduceCtorEq]) | apply And.intro | (intro hg; (try simp only [push_cast] at hg)))
  all_goals try exact gA
  all_goals first | (refine hK9 _ ?_; clear hK9 K9) | (simp only [push_cast]; done)
  all_goals simp only [push_cast, ↓brB_true, ↓brB_false, ↓reduceIte, zA, zB, zC, zD, zE, zF, zG, zH, zI, reduceCtorEq]
  all_goals repeat' (first | (apply brB_mk <;> (intro hg; (try simp only [push_cast] at hg))) | (refine ⟨_, hN, ?_⟩; simp only [push_cast, ↓brB_true, ↓brB_false, ↓reduceIte, zA, zB, zC, zD, zE, zF, zG, zH, zI, reduceCtorEq]) | apply And.intro | (intro hg; (try simp only [push_cast] at hg)))
  all_goals try exact gA
  all_goals first | (refine hK _ ?_; clear hK K) | (simp only [push_cast]; done)
  refine awp_ret ?_
  (try simp only [AThen, ABlk])
  refine ⟨Or.inl rfl, ?_⟩
  simp only [RetOk, resVars, resVar, push_cast, ↓brB_true, ↓brB_false, ↓reduceIte, zA, zB, zC, zD, zE, zF, zG, zH, zI, reduceCtorEq]
set_option maxRecDepth 20000 in
set_option maxHeartbeats 16000000 in
theorem placesGame_rec (a : Ar) (ha : a.Ln 1048576) (ps : List Pr) (hp : PLn 1048576 ps) (hp4 : ps.length ≤ 4) (s : Int) (hPre : arenaB a = true ∧ PlOk a (rcR ps) ⟨s, iotR ps.length⟩ (fun r => recB r ps.length = true) 4) (K0 : AV → List AV → List (Nat × Root) → Prop) (hKA : okQ (usA a) (rcR ps) ⟨s, iotR ps.length⟩ = false → K0 (.tup [.agg [.sl 128 [] 0 0 2, .sl 129 [] 0 0 22, .sl 130 [] 0 0 2], .sl 144 [] 0 0 78, .bool false]) [.sl 96 [] 0 0 2, .sl 97 [] 0 0 22, .sl 98 [] 0 0 2] [(128, ⟨.ex, 2, [], none⟩), (129, ⟨.ex, 22, [], none⟩), (130, ⟨.ex, 2, [], none⟩), (144, ⟨.ex, 78, [], none⟩)]) (hKB : ∀ i, i ≤ 256 → ¬ i < (stQ (usA a) (rcR ps) ⟨s, iotR ps.length⟩ i).length → i ≤ (stQ (usA a) (rcR ps) ⟨s, iotR ps.length⟩ i).length → K0 (.tup [.agg [.sl 128 [] 0 i 2, .sl 129 [] 0 i 22, .sl 130 [] 0 i 2], .sl 144 [] 0 (stQ (usA a) (rcR ps) ⟨s, iotR ps.length⟩ i).length 78, .bool true]) [.sl 96 [] 0 0 2, .sl 97 [] 0 0 22, .sl 98 [] 0 0 2] [(128, ⟨.ex, 2, dI (ownG a (rcR ps) ⟨s, iotR ps.length⟩ i), none⟩), (129, ⟨.ex, 22, dII (nxG a (rcR ps) ⟨s, iotR ps.length⟩ i), none⟩), (130, ⟨.ex, 2, dI (prG a (rcR ps) (prR ps) ⟨s, iotR ps.length⟩ i), none⟩), (144, ⟨.ex, 78, dPls (stQ (usA a) (rcR ps) ⟨s, iotR ps.length⟩ i), none⟩)]) : awp Try.prog tyT (Try.f71.body.getD .skip) (RetI tyT [.cell 8 48, .tmp 9, .tmp 10] K0) ⟨89, [(0, .agg [.sl 0 [] 0 a.owner.length 2, .sl 1 [] 0 a.next.length 22]), (1, .agg [.int .i64 s, .sl 145 [] 0 (iotR ps.length).length 2]), (2, .fn 106 [.bp 4 0]), (3, .fn 108 [.bp 4 0])], [(1000000, [.sl 96 [] 0 0 2, .sl 97 [] 0 0 22, .sl 98 [] 0 0 2]), (4, [.sl 16 [] 0 ps.length 99])], [(0, ⟨.sh, 2, dI a.owner, none⟩), (1, ⟨.sh, 22, dII a.next, none⟩), (16, ⟨.sh, 99, dII (ilv ps), none⟩), (145, ⟨.ex, 2, dI (iotR ps.length), none⟩)]⟩ := by
  have hno := ha.owner
  have hnn := ha.next.1
  have hrr : ∀ v, (gl a.next v).length ≤ 1048576 := fun v => gl_le ha.next v
  unfold LnI at hno
  have h1 := hPre.1
  have h3 := hPre.2
  have hln := arenaB_len h1
  refine awp_renB 4 2000 rfl rfl ?_
  simp only [push_cast, ↓brB_true, ↓brB_false, ↓reduceIte, zA, zB, zC, zD, zE, zF, zG, zH, zI, reduceCtorEq]
  refine inl_of rfl ?_
  (try simp only [push_cast, ↓brB_true, ↓brB_false, ↓reduceIte, zA, zB, zC, zD, zE, zF, zG, zH, zI, reduceCtorEq])
  refine awp_seq' fun K hK => ?_
  refine awp_region tyOk tyPos [] rfl ?_
  all_goals simp only [push_cast, ↓brB_true, ↓brB_false, ↓reduceIte, zA, zB, zC, zD, zE, zF, zG, zH, zI, reduceCtorEq]
  all_goals repeat' (first | (apply brB_mk <;> (intro hg; (try simp only [push_cast] at hg))) | apply And.intro | (intro hg; (try simp only [push_cast] at hg)))
  all_goals first | exact gA | (exact getE_dPls (by omega)) | skip
  all_goals first | (refine hK _ ?_; clear hK K) | (simp only [push_cast]; done)
  refine awp_seq' fun K hK => ?_
  refine awp_regionN false tyOk tyPos ?_ rfl ?_
  · kernel_rfl
  simp only [push_cast, ↓brB_true, ↓brB_false, ↓reduceIte, zA, zB, zC, zD, zE, zF, zG, zH, zI, reduceCtorEq]
  all_goals repeat' (first | (apply brB_mk <;> (intro hg; (try simp only [push_cast] at hg))) | apply And.intro | (intro hg; (try simp only [push_cast] at hg)))
  all_goals first | exact gA | (exact getE_dPls (by omega)) | skip
  all_goals first | (refine hK _ ?_; clear hK K) | (simp only [push_cast]; done)
  refine awp_seq' fun K hK => ?_
  refine awp_region tyOk tyPos [] rfl ?_
  all_goals simp only [push_cast, ↓brB_true, ↓brB_false, ↓reduceIte, zA, zB, zC, zD, zE, zF, zG, zH, zI, reduceCtorEq]
  all_goals repeat' (first | (apply brB_mk <;> (intro hg; (try simp only [push_cast] at hg))) | apply And.intro | (intro hg; (try simp only [push_cast] at hg)))
  all_goals first | exact gA | (exact getE_dPls (by omega)) | skip
  all_goals first | (refine hK _ ?_; clear hK K) | (simp only [push_cast]; done)
  refine awp_seq' fun K1 hK1 => ?_
  refine awp_settle 78 11 (Nat.le_of_ble_eq_true rfl) ?_
  simp only [push_cast, ↓brB_true, ↓brB_false, ↓reduceIte, zA, zB, zC, zD, zE, zF, zG, zH, zI, reduceCtorEq]
  refine awp_seq' fun K hK => ?_
  refine awp_region tyOk tyPos [] rfl ?_
  all_goals simp only [push_cast, ↓brB_true, ↓brB_false, ↓reduceIte, zA, zB, zC, zD, zE, zF, zG, zH, zI, reduceCtorEq]
  all_goals repeat' (first | (apply brB_mk <;> (intro hg; (try simp only [push_cast] at hg))) | apply And.intro | (intro hg; (try simp only [push_cast] at hg)))
  all_goals first | exact gA | (exact getE_dPls (by omega)) | skip
  all_goals first | (refine hK _ ?_; clear hK K) | (simp only [push_cast]; done)
  refine awp_block ?_
  refine awp_loopU [9,10,11,12,13,14,15,16,18,19,23,24,25,26,27,28,29,30,31,32,33,34,35,36,37,38,39,40,41,42,43,44,45,46,47,48,49,50,51,52,53,54,55,56,57,58,59,60,61,62,63,64,65,66,67,68,69,70,71,72,73,74,75,76,77,78,79,80,81,82,83,84,85,86] [] (fun (i : Nat) => [(13, .int .i64 i), (11, .sl 176 [] 0 (stQ (usA a) (rcR ps) ⟨s, iotR ps.length⟩ i).length 78), (12, .bp 12 0)]) (fun i => [(12, [.sl 192 [] 0 i 2, .sl 193 [] 0 i 22, .sl 194 [] 0 i 2])]) (fun i => [(176, ⟨.ex, 78, dPls (stQ (usA a) (rcR ps) ⟨s, iotR ps.length⟩ i), none⟩), (192, ⟨.ex, 2, dI (ownG a (rcR ps) ⟨s, iotR ps.length⟩ i), none⟩), (193, ⟨.ex, 22, dII (nxG a (rcR ps) ⟨s, iotR ps.length⟩ i), none⟩), (194, ⟨.ex, 2, dI (prG a (rcR ps) (prR ps) ⟨s, iotR ps.length⟩ i), none⟩)]) (fun i => i ≤ 256 ∧ i ≤ (stQ (usA a) (rcR ps) ⟨s, iotR ps.length⟩ i).length ∧ (stQ (usA a) (rcR ps) ⟨s, iotR ps.length⟩ i).length ≤ 256) (fun i => 257 - i) 0 ?_ ⟨by omega, Nat.zero_le _, (by show 1 ≤ 256; decide)⟩ ?_
  ·
    rw [show stQ (usA a) (rcR ps) ⟨s, iotR ps.length⟩ 0 = [⟨s, iotR ps.length⟩] from rfl, ownG_0, nxG_0, prG_0]
    refine cov_of rfl ?_ ?_ ?_ <;> simp only [covS, covL, push_cast, ↓brB_true, ↓brB_false, ↓reduceIte, zA, zB, zC, zD, zE, zF, zG, zH, zI, reduceCtorEq]
    all_goals first | rfl | exact ⟨rfl, rfl, rfl, rfl⟩ | skip
  · rintro i ⟨hi, hil, hsl⟩ KL0 hL0
    have hall := pl_all h1 h3 i
    have hq : QLn 1048576 (stQ (usA a) (rcR ps) ⟨s, iotR ps.length⟩ i) := ⟨by omega, fun p hp => by have := h3.small _ (hall p hp).2.2; omega⟩
    have hgl := fun k => gq_le hq k
    have ho1 := ownG_len (a := a) (rc := (rcR ps)) (p0 := ⟨s, iotR ps.length⟩) i
    have ho2 := nxG_len (a := a) (rc := (rcR ps)) (p0 := ⟨s, iotR ps.length⟩) i
    have ho3 := prG_len (a := a) (rc := (rcR ps)) (pr := (prR ps)) (p0 := ⟨s, iotR ps.length⟩) i
    simp only [push_cast, ↓brB_true, ↓brB_false, ↓reduceIte, zA, zB, zC, zD, zE, zF, zG, zH, zI, reduceCtorEq]
    refine awp_seq' fun K2 hK2 => ?_
    refine awp_seq' fun K hK => ?_
    refine awp_region tyOk tyPos [] rfl ?_
    all_goals simp only [push_cast, ↓brB_true, ↓brB_false, ↓reduceIte, zA, zB, zC, zD, zE, zF, zG, zH, zI, reduceCtorEq]
    all_goals repeat' (first | (apply brB_mk <;> (intro hg; (try simp only [push_cast] at hg))) | apply And.intro | (intro hg; (try simp only [push_cast] at hg)))
    all_goals first | exact gA | (exact getE_dPls (by omega)) | skip
    all_goals first | (refine hK _ ?_; clear hK K) | (simp only [push_cast]; done)
    refine awp_cond rfl (fun hc => ?_) (fun hc => ?_) <;> (try simp only [push_cast] at hc)
    ·
      refine awp_skip ?_
      (try simp only [AThen, ABlk, reduceIte, zF]); refine hK2 _ ?_
      refine awp_seq' fun K3 hK3 => ?_
      refine awp_block ?_
      have hP := hall _ (gq_mem (k := i) (by omega))
      have hU : 1 ≤ (gl a.next (gq (stQ (usA a) (rcR ps) ⟨s, iotR ps.length⟩ i) i).at_.toNat).length ∧ (gl a.next (gq (stQ (usA a) (rcR ps) ⟨s, iotR ps.length⟩ i) i).at_.toNat).length ≤ 16 ∧ ∀ u ∈ (gl a.next (gq (stQ (usA a) (rcR ps) ⟨s, iotR ps.length⟩ i) i).at_.toNat), 0 ≤ u ∧ u < (a.owner.length : Int) := us_rg h1 ⟨hP.1, hP.2.1⟩
      have hpl := h3.small _ hP.2.2
      have hnl : (nxL ps (gq (stQ (usA a) (rcR ps) ⟨s, iotR ps.length⟩ i) i).record (gq (stQ (usA a) (rcR ps) ⟨s, iotR ps.length⟩ i) i).at_).length ≤ 4 := h3.small _ (h3.next _ hP.1 hP.2.1 hP.2.2)
      refine awp_seq' fun K hK => ?_
      refine awp_region tyOk tyPos [] rfl ?_
      all_goals simp only [push_cast, ↓brB_true, ↓brB_false, ↓reduceIte, zA, zB, zC, zD, zE, zF, zG, zH, zI, reduceCtorEq]
      all_goals repeat' (first | (apply brB_mk <;> (intro hg; (try simp only [push_cast] at hg))) | apply And.intro | (intro hg; (try simp only [push_cast] at hg)))
      all_goals first | exact gA | (exact getE_dPls (by omega)) | skip
      all_goals first | (refine hK _ ?_; clear hK K) | (simp only [push_cast]; done)
      refine awp_seq' fun K hK => ?_
      refine awp_regionX 35 2 rfl tyOk tyPos [] rfl ?_
      simp only [push_cast, ↓brB_true, ↓brB_false, ↓reduceIte, zA, zB, zC, zD, zE, zF, zG, zH, zI, reduceCtorEq]
      repeat' apply And.intro
      all_goals (try simp only [push_cast, ↓brB_true, ↓brB_false, ↓reduceIte, zA, zB, zC, zD, zE, zF, zG, zH, zI, reduceCtorEq])
      all_goals repeat' (first | (apply brB_mk <;> (intro hg; (try simp only [push_cast] at hg))) | (refine ⟨_, recorded1_fn ps hp (gq (stQ (usA a) (rcR ps) ⟨s, iotR ps.length⟩ i) i) hP.2.2, ?_⟩; simp only [push_cast, ↓brB_true, ↓brB_false, ↓reduceIte, zA, zB, zC, zD, zE, zF, zG, zH, zI, reduceCtorEq]) | apply And.intro | (intro hg; (try simp only [push_cast] at hg)))
      all_goals first | exact gA | (exact getE_dPls (by omega)) | skip
      all_goals first | (refine hK _ ?_; clear hK K) | (simp only [push_cast]; done)
      refine awp_seq' fun K hK => ?_
      refine awp_region tyOk tyPos [] rfl ?_
      all_goals simp only [push_cast, ↓brB_true, ↓brB_false, ↓reduceIte, zA, zB, zC, zD, zE, zF, zG, zH, zI, reduceCtorEq]
      all_goals repeat' (first | (apply brB_mk <;> (intro hg; (try simp only [push_cast] at hg))) | apply And.intro | (intro hg; (try simp only [push_cast] at hg)))
      all_goals first | exact gA | (exact getE_dPls (by omega)) | skip
      all_goals first | (refine hK _ ?_; clear hK K) | (simp only [push_cast]; done)
      refine awp_seq' fun K4 hK4 => ?_
      refine awp_seq' fun K hK => ?_
      refine awp_region tyOk tyPos [] rfl ?_
      all_goals simp only [push_cast, ↓brB_true, ↓brB_false, ↓reduceIte, zA, zB, zC, zD, zE, zF, zG, zH, zI, reduceCtorEq]
      all_goals repeat' (first | (apply brB_mk <;> (intro hg; (try simp only [push_cast] at hg))) | apply And.intro | (intro hg; (try simp only [push_cast] at hg)))
      all_goals first | exact gA | (exact getE_dPls (by omega)) | skip
      all_goals first | (refine hK _ ?_; clear hK K) | (simp only [push_cast]; done)
      refine awp_block ?_
      refine awp_loopU [11,14,16,18,19,24,29,31,32,33,34,44,45,46,47,48,49,50,51,52,53,54,55,56,57,58,59,60,61,62,63,64,65,66,67,68] [256,224,225] (fun (k : Nat) => [(44, .int .i64 k), (11, .sl 176 [] 0 (rowT (nxL ps (gq (stQ (usA a) (rcR ps) ⟨s, iotR ps.length⟩ i) i).record (gq (stQ (usA a) (rcR ps) ⟨s, iotR ps.length⟩ i) i).at_) (gl a.next (gq (stQ (usA a) (rcR ps) ⟨s, iotR ps.length⟩ i) i).at_.toNat) (stQ (usA a) (rcR ps) ⟨s, iotR ps.length⟩ i) k).1.length 78), (16, .sl 256 [] 0 k 2), (14, .bp 14 0)]) (fun k => [(14, [.int .i64 (gq (stQ (usA a) (rcR ps) ⟨s, iotR ps.length⟩ i) i).at_, .sl 176 [i * 2 + 1] 0 (gq (stQ (usA a) (rcR ps) ⟨s, iotR ps.length⟩ i) i).record.length 2])]) (fun k => [(176, ⟨.ex, 78, dPls (rowT (nxL ps (gq (stQ (usA a) (rcR ps) ⟨s, iotR ps.length⟩ i) i).record (gq (stQ (usA a) (rcR ps) ⟨s, iotR ps.length⟩ i) i).at_) (gl a.next (gq (stQ (usA a) (rcR ps) ⟨s, iotR ps.length⟩ i) i).at_.toNat) (stQ (usA a) (rcR ps) ⟨s, iotR ps.length⟩ i) k).1, none⟩), (256, ⟨.ex, 2, dI (rowT (nxL ps (gq (stQ (usA a) (rcR ps) ⟨s, iotR ps.length⟩ i) i).record (gq (stQ (usA a) (rcR ps) ⟨s, iotR ps.length⟩ i) i).at_) (gl a.next (gq (stQ (usA a) (rcR ps) ⟨s, iotR ps.length⟩ i) i).at_.toNat) (stQ (usA a) (rcR ps) ⟨s, iotR ps.length⟩ i) k).2, none⟩)]) (fun k => k ≤ (gl a.next (gq (stQ (usA a) (rcR ps) ⟨s, iotR ps.length⟩ i) i).at_.toNat).length) (fun k => (gl a.next (gq (stQ (usA a) (rcR ps) ⟨s, iotR ps.length⟩ i) i).at_.toNat).length - k) 0 ?_ (Nat.zero_le _) ?_
      ·
        rw [rowT_0]
        refine cov_of rfl ?_ ?_ ?_ <;> simp only [covS, covL, push_cast, ↓brB_true, ↓brB_false, ↓reduceIte, zA, zB, zC, zD, zE, zF, zG, zH, zI, reduceCtorEq]
        all_goals first | rfl | skip
      · rintro k hk KL1 hL1
        have hrl := rowT_len (r := (nxL ps (gq (stQ (usA a) (rcR ps) ⟨s, iotR ps.length⟩ i) i).record (gq (stQ (usA a) (rcR ps) ⟨s, iotR ps.length⟩ i) i).at_)) (us := (gl a.next (gq (stQ (usA a) (rcR ps) ⟨s, iotR ps.length⟩ i) i).at_.toNat)) (ps := (stQ (usA a) (rcR ps) ⟨s, iotR ps.length⟩ i)) (k := k) hk
        have hQr : QLn 1048576 (rowT (nxL ps (gq (stQ (usA a) (rcR ps) ⟨s, iotR ps.length⟩ i) i).record (gq (stQ (usA a) (rcR ps) ⟨s, iotR ps.length⟩ i) i).at_) (gl a.next (gq (stQ (usA a) (rcR ps) ⟨s, iotR ps.length⟩ i) i).at_.toNat) (stQ (usA a) (rcR ps) ⟨s, iotR ps.length⟩ i) k).1 := ⟨by omega, fun p hp => by have := h3.small _ (pl_row h1 h3 (i := i) (k := k) (by omega) hk p hp).2.2; omega⟩
        have hx := ixQ_rg (sameQ (gi (gl a.next (gq (stQ (usA a) (rcR ps) ⟨s, iotR ps.length⟩ i) i).at_.toNat) k) (nxL ps (gq (stQ (usA a) (rcR ps) ⟨s, iotR ps.length⟩ i) i).record (gq (stQ (usA a) (rcR ps) ⟨s, iotR ps.length⟩ i) i).at_)) (rowT (nxL ps (gq (stQ (usA a) (rcR ps) ⟨s, iotR ps.length⟩ i) i).record (gq (stQ (usA a) (rcR ps) ⟨s, iotR ps.length⟩ i) i).at_) (gl a.next (gq (stQ (usA a) (rcR ps) ⟨s, iotR ps.length⟩ i) i).at_.toNat) (stQ (usA a) (rcR ps) ⟨s, iotR ps.length⟩ i) k).1
        simp only [push_cast, ↓brB_true, ↓brB_false, ↓reduceIte, zA, zB, zC, zD, zE, zF, zG, zH, zI, reduceCtorEq]
        refine awp_seq' fun K hK => ?_
        refine awp_region tyOk tyPos [] rfl ?_
        all_goals simp only [push_cast, ↓brB_true, ↓brB_false, ↓reduceIte, zA, zB, zC, zD, zE, zF, zG, zH, zI, reduceCtorEq]
        all_goals repeat' (first | (apply brB_mk <;> (intro hg; (try simp only [push_cast] at hg))) | apply And.intro | (intro hg; (try simp only [push_cast] at hg)))
        all_goals first | exact gA | (exact getE_dPls (by omega)) | skip
        all_goals first | (refine hK _ ?_; clear hK K) | (simp only [push_cast]; done)
        refine awp_seq' fun K5 hK5 => ?_
        refine awp_cond rfl (fun hc => ?_) (fun hc => ?_) <;> (try simp only [push_cast] at hc)
        ·
          refine awp_skip ?_
          (try simp only [AThen, ABlk, reduceIte, zF]); refine hK5 _ ?_
          refine awp_seq' fun K6 hK6 => ?_
          refine awp_block ?_
          refine awp_seq' fun K hK => ?_
          refine awp_region tyOk tyPos [] rfl ?_
          all_goals simp only [push_cast, ↓brB_true, ↓brB_false, ↓reduceIte, zA, zB, zC, zD, zE, zF, zG, zH, zI, reduceCtorEq]
          all_goals repeat' (first | (apply brB_mk <;> (intro hg; (try simp only [push_cast] at hg))) | apply And.intro | (intro hg; (try simp only [push_cast] at hg)))
          all_goals first | exact gA | (exact getE_dPls (by omega)) | skip
          all_goals first | (refine hK _ ?_; clear hK K) | (simp only [push_cast]; done)
          refine awp_seq' fun K hK => ?_
          refine awp_region tyOk tyPos [] rfl ?_
          all_goals refine aops_cut 4 fun K9 hK9 => ?_
          all_goals simp only [push_cast, ↓brB_true, ↓brB_false, ↓reduceIte, zA, zB, zC, zD, zE, zF, zG, zH, zI, reduceCtorEq]
          all_goals repeat' (first | (apply brB_mk <;> (intro hg; (try simp only [push_cast] at hg))) | (refine ⟨_, placeIn_fn (rowT (nxL ps (gq (stQ (usA a) (rcR ps) ⟨s, iotR ps.length⟩ i) i).record (gq (stQ (usA a) (rcR ps) ⟨s, iotR ps.length⟩ i) i).at_) (gl a.next (gq (stQ (usA a) (rcR ps) ⟨s, iotR ps.length⟩ i) i).at_.toNat) (stQ (usA a) (rcR ps) ⟨s, iotR ps.length⟩ i) k).1 hQr (gi (gl a.next (gq (stQ (usA a) (rcR ps) ⟨s, iotR ps.length⟩ i) i).at_.toNat) k) (nxL ps (gq (stQ (usA a) (rcR ps) ⟨s, iotR ps.length⟩ i) i).record (gq (stQ (usA a) (rcR ps) ⟨s, iotR ps.length⟩ i) i).at_) (by omega), ?_⟩; simp only [push_cast, ↓brB_true, ↓brB_false, ↓reduceIte, zA, zB, zC, zD, zE, zF, zG, zH, zI, reduceCtorEq]) | apply And.intro | (intro hg; (try simp only [push_cast] at hg)))
          all_goals first | exact gA | (exact getE_dPls (by omega)) | skip
          all_goals first | (refine hK9 _ ?_; clear hK9 K9) | (simp only [push_cast]; done)
          all_goals simp only [push_cast, ↓brB_true, ↓brB_false, ↓reduceIte, zA, zB, zC, zD, zE, zF, zG, zH, zI, reduceCtorEq]
          all_goals repeat' (first | (apply brB_mk <;> (intro hg; (try simp only [push_cast] at hg))) | (refine ⟨_, placeIn_fn (rowT (nxL ps (gq (stQ (usA a) (rcR ps) ⟨s, iotR ps.length⟩ i) i).record (gq (stQ (usA a) (rcR ps) ⟨s, iotR ps.length⟩ i) i).at_) (gl a.next (gq (stQ (usA a) (rcR ps) ⟨s, iotR ps.length⟩ i) i).at_.toNat) (stQ (usA a) (rcR ps) ⟨s, iotR ps.length⟩ i) k).1 hQr (gi (gl a.next (gq (stQ (usA a) (rcR ps) ⟨s, iotR ps.length⟩ i) i).at_.toNat) k) (nxL ps (gq (stQ (usA a) (rcR ps) ⟨s, iotR ps.length⟩ i) i).record (gq (stQ (usA a) (rcR ps) ⟨s, iotR ps.length⟩ i) i).at_) (by omega), ?_⟩; simp only [push_cast, ↓brB_true, ↓brB_false, ↓reduceIte, zA, zB, zC, zD, zE, zF, zG, zH, zI, reduceCtorEq]) | apply And.intro | (intro hg; (try simp only [push_cast] at hg)))
          all_goals first | exact gA | (exact getE_dPls (by omega)) | skip
          all_goals first | (refine hK _ ?_; clear hK K) | (simp only [push_cast]; done)
          refine awp_seq' fun K7 hK7 => ?_
          refine awp_seq' fun K hK => ?_
          refine awp_region tyOk tyPos [] rfl ?_
          all_goals simp only [push_cast, ↓brB_true, ↓brB_false, ↓reduceIte, zA, zB, zC, zD, zE, zF, zG, zH, zI, reduceCtorEq]
          all_goals repeat' (first | (apply brB_mk <;> (intro hg; (try simp only [push_cast] at hg))) | apply And.intro | (intro hg; (try simp only [push_cast] at hg)))
          all_goals first | exact gA | (exact getE_dPls (by omega)) | skip
          all_goals first | (refine hK _ ?_; clear hK K) | (simp only [push_cast]; done)
          refine awp_cond rfl (fun hc => ?_) (fun hc => ?_) <;> (try simp only [push_cast] at hc)
          ·
            refine awp_seq' fun K hK => ?_
            refine awp_region tyOk tyPos [] rfl ?_
            all_goals simp only [push_cast, ↓brB_true, ↓brB_false, ↓reduceIte, zA, zB, zC, zD, zE, zF, zG, zH, zI, reduceCtorEq]
            all_goals repeat' (first | (apply brB_mk <;> (intro hg; (try simp only [push_cast] at hg))) | apply And.intro | (intro hg; (try simp only [push_cast] at hg)))
            all_goals first | exact gA | (exact getE_dPls (by omega)) | skip
            all_goals first | (refine hK _ ?_; clear hK K) | (simp only [push_cast]; done)
            refine awp_regionM 7 14 1 1008 176 [176] tyOk tyPos ?_ rfl rfl rfl fun K9 hK9 => ?_
            · kernel_rfl
            all_goals simp only [push_cast, ↓brB_true, ↓brB_false, ↓reduceIte, zA, zB, zC, zD, zE, zF, zG, zH, zI, reduceCtorEq]
            all_goals repeat' (first | (apply brB_mk <;> (intro hg; (try simp only [push_cast] at hg))) | apply And.intro | (intro hg; (try simp only [push_cast] at hg)))
            all_goals first | exact gA | (exact getE_dPls (by omega)) | skip
            all_goals first | (refine hK9 _ ?_; clear hK9 K9) | (simp only [push_cast]; done)
            all_goals simp only [push_cast, ↓brB_true, ↓brB_false, ↓reduceIte, zA, zB, zC, zD, zE, zF, zG, zH, zI, reduceCtorEq]
            all_goals repeat' (first | (apply brB_mk <;> (intro hg; (try simp only [push_cast] at hg))) | apply And.intro | (intro hg; (try simp only [push_cast] at hg)))
            all_goals first | exact gA | (exact getE_dPls (by omega)) | skip
            (try simp only [AThen, ABlk, reduceIte, zF]); refine hK7 _ ?_
            refine awp_region tyOk tyPos [] rfl ?_
            all_goals simp only [push_cast, ↓brB_true, ↓brB_false, ↓reduceIte, zA, zB, zC, zD, zE, zF, zG, zH, zI, reduceCtorEq]
            all_goals repeat' (first | (apply brB_mk <;> (intro hg; (try simp only [push_cast] at hg))) | apply And.intro | (intro hg; (try simp only [push_cast] at hg)))
            all_goals first | exact gA | (exact getE_dPls (by omega)) | skip
            (try simp only [AThen, ABlk, reduceIte, zF]); refine hK6 _ ?_
            refine awp_region tyOk tyPos [] rfl ?_
            all_goals simp only [push_cast, ↓brB_true, ↓brB_false, ↓reduceIte, zA, zB, zC, zD, zE, zF, zG, zH, zI, reduceCtorEq]
            all_goals repeat' (first | (apply brB_mk <;> (intro hg; (try simp only [push_cast] at hg))) | apply And.intro | (intro hg; (try simp only [push_cast] at hg)))
            all_goals first | exact gA | (exact getE_dPls (by omega)) | skip
            refine hL1 _ ⟨k + 1, by omega, by omega, ?_⟩
            (try rw [List.take_of_length_le (l := (rowT (nxL ps (gq (stQ (usA a) (rcR ps) ⟨s, iotR ps.length⟩ i) i).record (gq (stQ (usA a) (rcR ps) ⟨s, iotR ps.length⟩ i) i).at_) (gl a.next (gq (stQ (usA a) (rcR ps) ⟨s, iotR ps.length⟩ i) i).at_.toNat) (stQ (usA a) (rcR ps) ⟨s, iotR ps.length⟩ i) k).2) (by omega)])
            rw [rowT_new (by omega) (by with_reducible assumption)]
            refine cov_of rfl ?_ ?_ ?_ <;> simp only [covS, covL, push_cast, ↓brB_true, ↓brB_false, ↓reduceIte, zA, zB, zC, zD, zE, zF, zG, zH, zI, reduceCtorEq]
            all_goals first | rfl | (rw [List.length_append]; rfl) | exact ⟨rfl, rfl⟩ | skip
          ·
            refine awp_skip ?_
            (try simp only [AThen, ABlk, reduceIte, zF]); refine hK7 _ ?_
            refine awp_region tyOk tyPos [] rfl ?_
            all_goals simp only [push_cast, ↓brB_true, ↓brB_false, ↓reduceIte, zA, zB, zC, zD, zE, zF, zG, zH, zI, reduceCtorEq]
            all_goals repeat' (first | (apply brB_mk <;> (intro hg; (try simp only [push_cast] at hg))) | apply And.intro | (intro hg; (try simp only [push_cast] at hg)))
            all_goals first | exact gA | (exact getE_dPls (by omega)) | skip
            (try simp only [AThen, ABlk, reduceIte, zF]); refine hK6 _ ?_
            refine awp_region tyOk tyPos [] rfl ?_
            all_goals simp only [push_cast, ↓brB_true, ↓brB_false, ↓reduceIte, zA, zB, zC, zD, zE, zF, zG, zH, zI, reduceCtorEq]
            all_goals repeat' (first | (apply brB_mk <;> (intro hg; (try simp only [push_cast] at hg))) | apply And.intro | (intro hg; (try simp only [push_cast] at hg)))
            all_goals first | exact gA | (exact getE_dPls (by omega)) | skip
            refine hL1 _ ⟨k + 1, by omega, by omega, ?_⟩
            (try rw [List.take_of_length_le (l := (rowT (nxL ps (gq (stQ (usA a) (rcR ps) ⟨s, iotR ps.length⟩ i) i).record (gq (stQ (usA a) (rcR ps) ⟨s, iotR ps.length⟩ i) i).at_) (gl a.next (gq (stQ (usA a) (rcR ps) ⟨s, iotR ps.length⟩ i) i).at_.toNat) (stQ (usA a) (rcR ps) ⟨s, iotR ps.length⟩ i) k).2) (by omega)])
            rw [rowT_old (by omega) (by with_reducible assumption)]
            refine cov_of rfl ?_ ?_ ?_ <;> simp only [covS, covL, push_cast, ↓brB_true, ↓brB_false, ↓reduceIte, zA, zB, zC, zD, zE, zF, zG, zH, zI, reduceCtorEq]
            all_goals first | rfl | (rw [List.length_append]; rfl) | exact ⟨rfl, rfl⟩ | skip
        ·
          refine awp_exit ?_
          have hkk : k = (gl a.next (gq (stQ (usA a) (rcR ps) ⟨s, iotR ps.length⟩ i) i).at_.toNat).length := by omega
          subst hkk
          (try simp only [AThen, ABlk, reduceIte, zF]); refine hK4 _ ?_
          refine awp_seq' fun K8 hK8 => ?_
          have hgi : gq (rowT (nxL ps (gq (stQ (usA a) (rcR ps) ⟨s, iotR ps.length⟩ i) i).record (gq (stQ (usA a) (rcR ps) ⟨s, iotR ps.length⟩ i) i).at_) (gl a.next (gq (stQ (usA a) (rcR ps) ⟨s, iotR ps.length⟩ i) i).at_.toNat) (stQ (usA a) (rcR ps) ⟨s, iotR ps.length⟩ i) (gl a.next (gq (stQ (usA a) (rcR ps) ⟨s, iotR ps.length⟩ i) i).at_.toNat).length).1 i = (gq (stQ (usA a) (rcR ps) ⟨s, iotR ps.length⟩ i) i) := rowT_gq (by omega) (Nat.le_refl _)
          have hrl9 := rowT_len (r := (nxL ps (gq (stQ (usA a) (rcR ps) ⟨s, iotR ps.length⟩ i) i).record (gq (stQ (usA a) (rcR ps) ⟨s, iotR ps.length⟩ i) i).at_)) (us := (gl a.next (gq (stQ (usA a) (rcR ps) ⟨s, iotR ps.length⟩ i) i).at_.toNat)) (ps := (stQ (usA a) (rcR ps) ⟨s, iotR ps.length⟩ i)) (k := (gl a.next (gq (stQ (usA a) (rcR ps) ⟨s, iotR ps.length⟩ i) i).at_.toNat).length) (Nat.le_refl _)
          refine awp_seq' fun K hK => ?_
          refine awp_region tyOk tyPos [] rfl ?_
          all_goals simp only [push_cast, ↓brB_true, ↓brB_false, ↓reduceIte, zA, zB, zC, zD, zE, zF, zG, zH, zI, reduceCtorEq]
          all_goals repeat' (first | (apply brB_mk <;> (intro hg; (try simp only [push_cast] at hg))) | apply And.intro | (intro hg; (try simp only [push_cast] at hg)))
          all_goals first | exact gA | (exact getE_dPls (by omega)) | skip
          all_goals first | (refine hK _ ?_; clear hK K) | (simp only [push_cast]; done)
          refine awp_cond rfl (fun hc => ?_) (fun hc => ?_) <;> (try simp only [push_cast] at hc)
          ·
            refine awp_seq' fun K hK => ?_
            refine awp_region tyOk tyPos [] rfl ?_
            all_goals simp only [push_cast, ↓brB_true, ↓brB_false, ↓reduceIte, zA, zB, zC, zD, zE, zF, zG, zH, zI, reduceCtorEq]
            all_goals repeat' (first | (apply brB_mk <;> (intro hg; (try simp only [push_cast] at hg))) | apply And.intro | (intro hg; (try simp only [push_cast] at hg)))
            all_goals first | exact gA | (exact getE_dPls (by omega)) | skip
            all_goals first | (refine hK _ ?_; clear hK K) | (simp only [push_cast]; done)
            refine awp_ret ?_
            (try simp only [AThen, ABlk])
            refine ⟨Or.inl rfl, ?_⟩
            simp only [resVars, resVar, push_cast, ↓brB_true, ↓brB_false, ↓reduceIte, zA, zB, zC, zD, zE, zF, zG, zH, zI, reduceCtorEq]
            refine ⟨_, ?_, hKA (okQ_no hi (by rw [stQ_s (by omega)]; show 256 < (rowT (nxL ps (gq (stQ (usA a) (rcR ps) ⟨s, iotR ps.length⟩ i) i).record (gq (stQ (usA a) (rcR ps) ⟨s, iotR ps.length⟩ i) i).at_) (gl a.next (gq (stQ (usA a) (rcR ps) ⟨s, iotR ps.length⟩ i) i).at_.toNat) (stQ (usA a) (rcR ps) ⟨s, iotR ps.length⟩ i) (gl a.next (gq (stQ (usA a) (rcR ps) ⟨s, iotR ps.length⟩ i) i).at_.toNat).length).1.length; omega))⟩
            simp only [push_cast, ↓brB_true, ↓brB_false, ↓reduceIte, zA, zB, zC, zD, zE, zF, zG, zH, zI, reduceCtorEq]
            all_goals first | exact ⟨trivial, trivial⟩ | skip
          ·
            refine awp_skip ?_
            (try simp only [AThen, ABlk, reduceIte, zF]); refine hK8 _ ?_
            have hSo : FnG Try.prog tyT 101 [.c (DI (List.take (gl a.next (gq (stQ (usA a) (rcR ps) ⟨s, iotR ps.length⟩ i) i).at_.toNat).length (rowT (nxL ps (gq (stQ (usA a) (rcR ps) ⟨s, iotR ps.length⟩ i) i).record (gq (stQ (usA a) (rcR ps) ⟨s, iotR ps.length⟩ i) i).at_) (gl a.next (gq (stQ (usA a) (rcR ps) ⟨s, iotR ps.length⟩ i) i).at_.toNat) (stQ (usA a) (rcR ps) ⟨s, iotR ps.length⟩ i) (gl a.next (gq (stQ (usA a) (rcR ps) ⟨s, iotR ps.length⟩ i) i).at_.toNat).length).2))] [0] [(0, 2, dI (sortI (rowT (nxL ps (gq (stQ (usA a) (rcR ps) ⟨s, iotR ps.length⟩ i) i).record (gq (stQ (usA a) (rcR ps) ⟨s, iotR ps.length⟩ i) i).at_) (gl a.next (gq (stQ (usA a) (rcR ps) ⟨s, iotR ps.length⟩ i) i).at_.toNat) (stQ (usA a) (rcR ps) ⟨s, iotR ps.length⟩ i) (gl a.next (gq (stQ (usA a) (rcR ps) ⟨s, iotR ps.length⟩ i) i).at_.toNat).length).2))] [] := by rw [List.take_of_length_le (l := (rowT (nxL ps (gq (stQ (usA a) (rcR ps) ⟨s, iotR ps.length⟩ i) i).record (gq (stQ (usA a) (rcR ps) ⟨s, iotR ps.length⟩ i) i).at_) (gl a.next (gq (stQ (usA a) (rcR ps) ⟨s, iotR ps.length⟩ i) i).at_.toNat) (stQ (usA a) (rcR ps) ⟨s, iotR ps.length⟩ i) (gl a.next (gq (stQ (usA a) (rcR ps) ⟨s, iotR ps.length⟩ i) i).at_.toNat).length).2) (by omega)]; exact Sort_fn _ (by omega)
            refine awp_seq' fun K hK => ?_
            refine awp_regionG1 74 [0] [(0, 2, dI (sortI (rowT (nxL ps (gq (stQ (usA a) (rcR ps) ⟨s, iotR ps.length⟩ i) i).record (gq (stQ (usA a) (rcR ps) ⟨s, iotR ps.length⟩ i) i).at_) (gl a.next (gq (stQ (usA a) (rcR ps) ⟨s, iotR ps.length⟩ i) i).at_.toNat) (stQ (usA a) (rcR ps) ⟨s, iotR ps.length⟩ i) (gl a.next (gq (stQ (usA a) (rcR ps) ⟨s, iotR ps.length⟩ i) i).at_.toNat).length).2))] tyOk tyPos [] rfl ?_
            simp only [push_cast, ↓brB_true, ↓brB_false, ↓reduceIte, zA, zB, zC, zD, zE, zF, zG, zH, zI, reduceCtorEq]
            all_goals repeat' (first | (apply brB_mk <;> (intro hg; (try simp only [push_cast] at hg))) | (refine ⟨_, hSo, ?_⟩; simp only [push_cast, ↓brB_true, ↓brB_false, ↓reduceIte, zA, zB, zC, zD, zE, zF, zG, zH, zI, reduceCtorEq]) | apply And.intro | (intro hg; (try simp only [push_cast] at hg)))
            all_goals first | exact gA | (exact getE_dPls (by omega)) | skip
            all_goals first | (refine hK _ ?_; clear hK K) | (simp only [push_cast]; done)
            have hPv : FnX Try.prog tyT 108 [.v (.agg [.int .i64 (gq (stQ (usA a) (rcR ps) ⟨s, iotR ps.length⟩ i) i).at_, DI (List.take (gq (stQ (usA a) (rcR ps) ⟨s, iotR ps.length⟩ i) i).record.length (gq (rowT (nxL ps (gq (stQ (usA a) (rcR ps) ⟨s, iotR ps.length⟩ i) i).record (gq (stQ (usA a) (rcR ps) ⟨s, iotR ps.length⟩ i) i).at_) (gl a.next (gq (stQ (usA a) (rcR ps) ⟨s, iotR ps.length⟩ i) i).at_.toNat) (stQ (usA a) (rcR ps) ⟨s, iotR ps.length⟩ i) (gl a.next (gq (stQ (usA a) (rcR ps) ⟨s, iotR ps.length⟩ i) i).at_.toNat).length).1 i).record)]), .ref (.lst 2 [.lst 99 (dII (ilv ps))])] [.c (.int .i64 ((prioP ps (gq (stQ (usA a) (rcR ps) ⟨s, iotR ps.length⟩ i) i).record (gq (stQ (usA a) (rcR ps) ⟨s, iotR ps.length⟩ i) i).at_)))] := by rw [hgi, List.take_length]; exact recorded2_fn ps hp (gq (stQ (usA a) (rcR ps) ⟨s, iotR ps.length⟩ i) i) hP.2.2
            have hsl9 := sortI_len (rowT (nxL ps (gq (stQ (usA a) (rcR ps) ⟨s, iotR ps.length⟩ i) i).record (gq (stQ (usA a) (rcR ps) ⟨s, iotR ps.length⟩ i) i).at_) (gl a.next (gq (stQ (usA a) (rcR ps) ⟨s, iotR ps.length⟩ i) i).at_.toNat) (stQ (usA a) (rcR ps) ⟨s, iotR ps.length⟩ i) (gl a.next (gq (stQ (usA a) (rcR ps) ⟨s, iotR ps.length⟩ i) i).at_.toNat).length).2
            have hWV : FnG Try.prog tyT 102 [.agg [DI (List.take i (ownG a (rcR ps) ⟨s, iotR ps.length⟩ i)), DII (List.take i (nxG a (rcR ps) ⟨s, iotR ps.length⟩ i)), DI (List.take i (prG a (rcR ps) (prR ps) ⟨s, iotR ps.length⟩ i))], .c (.int .i64 (gi a.owner (gq (stQ (usA a) (rcR ps) ⟨s, iotR ps.length⟩ i) i).at_.toNat)), .c (.int .i64 ((prioP ps (gq (stQ (usA a) (rcR ps) ⟨s, iotR ps.length⟩ i) i).record (gq (stQ (usA a) (rcR ps) ⟨s, iotR ps.length⟩ i) i).at_))), .c (DI (List.take (gl a.next (gq (stQ (usA a) (rcR ps) ⟨s, iotR ps.length⟩ i) i).at_.toNat).length (sortI (rowT (nxL ps (gq (stQ (usA a) (rcR ps) ⟨s, iotR ps.length⟩ i) i).record (gq (stQ (usA a) (rcR ps) ⟨s, iotR ps.length⟩ i) i).at_) (gl a.next (gq (stQ (usA a) (rcR ps) ⟨s, iotR ps.length⟩ i) i).at_.toNat) (stQ (usA a) (rcR ps) ⟨s, iotR ps.length⟩ i) (gl a.next (gq (stQ (usA a) (rcR ps) ⟨s, iotR ps.length⟩ i) i).at_.toNat).length).2)))] [0, 1, 2, 48] [] [.agg [DI (ownG a (rcR ps) ⟨s, iotR ps.length⟩ i ++ [gi a.owner (gq (stQ (usA a) (rcR ps) ⟨s, iotR ps.length⟩ i) i).at_.toNat]), DII (nxG a (rcR ps) ⟨s, iotR ps.length⟩ i ++ [sortI (rowT (nxL ps (gq (stQ (usA a) (rcR ps) ⟨s, iotR ps.length⟩ i) i).record (gq (stQ (usA a) (rcR ps) ⟨s, iotR ps.length⟩ i) i).at_) (gl a.next (gq (stQ (usA a) (rcR ps) ⟨s, iotR ps.length⟩ i) i).at_.toNat) (stQ (usA a) (rcR ps) ⟨s, iotR ps.length⟩ i) (gl a.next (gq (stQ (usA a) (rcR ps) ⟨s, iotR ps.length⟩ i) i).at_.toNat).length).2]), DI (prG a (rcR ps) (prR ps) ⟨s, iotR ps.length⟩ i ++ [(prioP ps (gq (stQ (usA a) (rcR ps) ⟨s, iotR ps.length⟩ i) i).record (gq (stQ (usA a) (rcR ps) ⟨s, iotR ps.length⟩ i) i).at_)])]] := by rw [List.take_of_length_le (l := ownG a (rcR ps) ⟨s, iotR ps.length⟩ i) (by omega), List.take_of_length_le (l := nxG a (rcR ps) ⟨s, iotR ps.length⟩ i) (by omega), List.take_of_length_le (l := prG a (rcR ps) (prR ps) ⟨s, iotR ps.length⟩ i) (by omega), List.take_of_length_le (l := sortI (rowT (nxL ps (gq (stQ (usA a) (rcR ps) ⟨s, iotR ps.length⟩ i) i).record (gq (stQ (usA a) (rcR ps) ⟨s, iotR ps.length⟩ i) i).at_) (gl a.next (gq (stQ (usA a) (rcR ps) ⟨s, iotR ps.length⟩ i) i).at_.toNat) (stQ (usA a) (rcR ps) ⟨s, iotR ps.length⟩ i) (gl a.next (gq (stQ (usA a) (rcR ps) ⟨s, iotR ps.length⟩ i) i).at_.toNat).length).2) (by omega)]; exact withVertex_fn (gmA a (rcR ps) (prR ps) ⟨s, iotR ps.length⟩ i) ⟨⟨by show (ownG _ _ _ i).length ≤ _; omega, ⟨by show (nxG _ _ _ i).length ≤ _; omega, fun r hr => by have := nx_len9 h1 h3 (n := i) (st_open9 hil) r hr; omega⟩⟩, by show (prG _ _ _ _ i).length ≤ _; omega⟩ (gi a.owner (gq (stQ (usA a) (rcR ps) ⟨s, iotR ps.length⟩ i) i).at_.toNat) ((prioP ps (gq (stQ (usA a) (rcR ps) ⟨s, iotR ps.length⟩ i) i).record (gq (stQ (usA a) (rcR ps) ⟨s, iotR ps.length⟩ i) i).at_)) (sortI (rowT (nxL ps (gq (stQ (usA a) (rcR ps) ⟨s, iotR ps.length⟩ i) i).record (gq (stQ (usA a) (rcR ps) ⟨s, iotR ps.length⟩ i) i).at_) (gl a.next (gq (stQ (usA a) (rcR ps) ⟨s, iotR ps.length⟩ i) i).at_.toNat) (stQ (usA a) (rcR ps) ⟨s, iotR ps.length⟩ i) (gl a.next (gq (stQ (usA a) (rcR ps) ⟨s, iotR ps.length⟩ i) i).at_.toNat).length).2) (by omega)
            refine awp_regionC false false 11 (actFE Try.prog tyT 2) [84] (fun _ _ _ h => actFE_act rfl h) (aCallG1 Try.prog tyT [0, 1, 2, 48] []) (fun _ _ _ _ _ _ _ _ _ h1 h2 h3 h4 => aCallG1_sound h1 h2 h3 h4) tyOk tyPos tyMix ?_ rfl rfl ?_
            · kernel_rfl
            intro E hE
            all_goals simp only [push_cast, ↓brB_true, ↓brB_false, ↓reduceIte, zA, zB, zC, zD, zE, zF, zG, zH, zI, reduceCtorEq]
            all_goals repeat' (first | (apply brB_mk <;> (intro hg; (try simp only [push_cast] at hg))) | (refine ⟨_, _, hPv, ?_⟩; (try simp only [push_cast, ↓brB_true, ↓brB_false, ↓reduceIte, zA, zB, zC, zD, zE, zF, zG, zH, zI, reduceCtorEq])) | (refine ⟨_, hWV, ?_⟩; simp only [push_cast, ↓brB_true, ↓brB_false, ↓reduceIte, zA, zB, zC, zD, zE, zF, zG, zH, zI, reduceCtorEq]) | apply And.intro | (intro hg; (try simp only [push_cast] at hg)))
            all_goals first | exact gA | (refine hE _ _ ?_ rfl ?_; kernel_rfl) | (exact getE_dPls (by omega)) | skip
            all_goals clear hE E
            all_goals simp only [push_cast, ↓brB_true, ↓brB_false, ↓reduceIte, zA, zB, zC, zD, zE, zF, zG, zH, zI, reduceCtorEq]
            all_goals repeat' (first | (apply brB_mk <;> (intro hg; (try simp only [push_cast] at hg))) | (refine ⟨_, _, hPv, ?_⟩; (try simp only [push_cast, ↓brB_true, ↓brB_false, ↓reduceIte, zA, zB, zC, zD, zE, zF, zG, zH, zI, reduceCtorEq])) | (refine ⟨_, hWV, ?_⟩; simp only [push_cast, ↓brB_true, ↓brB_false, ↓reduceIte, zA, zB, zC, zD, zE, zF, zG, zH, zI, reduceCtorEq]) | apply And.intro | (intro hg; (try simp only [push_cast] at hg)))
            all_goals first | exact gA | (exact getE_dPls (by omega)) | skip
            all_goals first | (refine hg _ _ ?_ ?_; kernel_rfl) | skip
            (try simp only [AThen, ABlk, reduceIte, zF]); refine hK3 _ ?_
            refine awp_settleB [.sl 2, .sl 22, .sl 2] 12 ?_
            simp only [push_cast, ↓brB_true, ↓brB_false, ↓reduceIte, zA, zB, zC, zD, zE, zF, zG, zH, zI, reduceCtorEq]
            refine awp_region tyOk tyPos [] rfl ?_
            all_goals simp only [push_cast, ↓brB_true, ↓brB_false, ↓reduceIte, zA, zB, zC, zD, zE, zF, zG, zH, zI, reduceCtorEq]
            all_goals repeat' (first | (apply brB_mk <;> (intro hg; (try simp only [push_cast] at hg))) | apply And.intro | (intro hg; (try simp only [push_cast] at hg)))
            all_goals first | exact gA | (exact getE_dPls (by omega)) | skip
            have hst : (stQ (usA a) (rcR ps) ⟨s, iotR ps.length⟩ (i + 1)) = (rowT (nxL ps (gq (stQ (usA a) (rcR ps) ⟨s, iotR ps.length⟩ i) i).record (gq (stQ (usA a) (rcR ps) ⟨s, iotR ps.length⟩ i) i).at_) (gl a.next (gq (stQ (usA a) (rcR ps) ⟨s, iotR ps.length⟩ i) i).at_.toNat) (stQ (usA a) (rcR ps) ⟨s, iotR ps.length⟩ i) (gl a.next (gq (stQ (usA a) (rcR ps) ⟨s, iotR ps.length⟩ i) i).at_.toNat).length).1 := stQ_s (by omega)
            refine hL0 _ ⟨i + 1, ⟨by omega, (by rw [hst]; omega), (by rw [hst]; omega)⟩, by omega, ?_⟩
            (try rw [List.take_of_length_le (l := ownG a (rcR ps) ⟨s, iotR ps.length⟩ i) (by omega)])
            (try rw [List.take_of_length_le (l := nxG a (rcR ps) ⟨s, iotR ps.length⟩ i) (by omega)])
            (try rw [List.take_of_length_le (l := prG a (rcR ps) (prR ps) ⟨s, iotR ps.length⟩ i) (by omega)])
            rw [hst, ownG_s, nxG_s, prG_s, show plQ (usA a) (rcR ps) ⟨s, iotR ps.length⟩ i = (gq (stQ (usA a) (rcR ps) ⟨s, iotR ps.length⟩ i) i) from rfl, show nxQ (usA a) (rcR ps) ⟨s, iotR ps.length⟩ i = sortI (rowT (nxL ps (gq (stQ (usA a) (rcR ps) ⟨s, iotR ps.length⟩ i) i).record (gq (stQ (usA a) (rcR ps) ⟨s, iotR ps.length⟩ i) i).at_) (gl a.next (gq (stQ (usA a) (rcR ps) ⟨s, iotR ps.length⟩ i) i).at_.toNat) (stQ (usA a) (rcR ps) ⟨s, iotR ps.length⟩ i) (gl a.next (gq (stQ (usA a) (rcR ps) ⟨s, iotR ps.length⟩ i) i).at_.toNat).length).2 from rfl, show (prR ps) (gq (stQ (usA a) (rcR ps) ⟨s, iotR ps.length⟩ i) i) = (prioP ps (gq (stQ (usA a) (rcR ps) ⟨s, iotR ps.length⟩ i) i).record (gq (stQ (usA a) (rcR ps) ⟨s, iotR ps.length⟩ i) i).at_) from rfl]
            refine cov_of rfl ?_ ?_ ?_ <;> simp only [covS, covL, push_cast, ↓brB_true, ↓brB_false, ↓reduceIte, zA, zB, zC, zD, zE, zF, zG, zH, zI, reduceCtorEq]
            all_goals first | rfl | exact ⟨rfl, rfl, rfl, rfl⟩ | (rw [List.length_append, List.length_append, List.length_append, ho1, ho2, ho3]; rfl) | skip
    ·
      refine awp_exit ?_
      (try simp only [AThen, ABlk, reduceIte, zF]); refine hK1 _ ?_
      refine awp_seq' fun K hK => ?_
      refine awp_region tyOk tyPos [] rfl ?_
      all_goals simp only [push_cast, ↓brB_true, ↓brB_false, ↓reduceIte, zA, zB, zC, zD, zE, zF, zG, zH, zI, reduceCtorEq]
      all_goals repeat' (first | (apply brB_mk <;> (intro hg; (try simp only [push_cast] at hg))) | apply And.intro | (intro hg; (try simp only [push_cast] at hg)))
      all_goals first | exact gA | (exact getE_dPls (by omega)) | skip
      all_goals first | (refine hK _ ?_; clear hK K) | (simp only [push_cast]; done)
      refine awp_ret ?_
      (try simp only [AThen, ABlk])
      refine ⟨Or.inl rfl, ?_⟩
      simp only [resVars, resVar, push_cast, ↓brB_true, ↓brB_false, ↓reduceIte, zA, zB, zC, zD, zE, zF, zG, zH, zI, reduceCtorEq]
      refine ⟨_, ?_, hKB i hi (by omega) hil⟩
      simp only [push_cast, ↓brB_true, ↓brB_false, ↓reduceIte, zA, zB, zC, zD, zE, zF, zG, zH, zI, reduceCtorEq]
      all_goals first | exact ⟨trivial, trivial⟩ | skip
attribute [local irreducible] okQ stQ gmR plR aCallI
set_option maxRecDepth 20000 in
set_option maxHeartbeats 8000000 in
theorem recorded_fn (a : Ar) (ha : a.Ln 1048576) (ps : List Pr) (hp : PLn 1048576 ps) (s : Int) (hC : rgC a ps s = true) : Fn Try.prog tyT 83 [.agg (dAr a), .c (.lst 99 (dII (ilv ps))), .c (.int .i64 s)] [.agg (dPa (rgG a ps s)), .c (.lst 78 (dPls (rgP a ps s))), .c (.bool (rgB a ps s))] := by
  have hno := ha.owner
  have hnn := ha.next.1
  unfold LnI at hno
  have hli := len_ilv ps
  have hpl0 := hp.1
  obtain ⟨h1, h2, h3⟩ := rgC_facts hC
  have hln := arenaB_len h1
  unfold dAr dPa
  refine Fn_ofR (fn := Try.f83) (rs := [.cell 6 48, .tmp 7, .tmp 8]) tyOk tyPos Try.func83 (by kernel_rfl) rfl rfl (by rw [Try.ntmps83]; exact Nat.le_of_ble_eq_true rfl) rfl (by simp only [szA, List.mem_cons, List.not_mem_nil, or_false, forall_eq_or_imp, forall_eq, VT.cells, szL]; try decide) ?_
  rw [Try.ntmps83]
  simp only [push_cast, ↓brB_true, ↓brB_false, ↓reduceIte, zA, zB, zC, zD, zE, zF, zG, zH, zI, reduceCtorEq]
  refine awp_seq' fun K hK => ?_
  refine awp_region tyOk tyPos [] rfl ?_
  simp only [push_cast, ↓brB_true, ↓brB_false, ↓reduceIte, zA, zB, zC, zD, zE, zF, zG, zH, zI, reduceCtorEq]
  repeat' apply And.intro
  all_goals try exact gB
  all_goals first | (refine hK _ ?_; clear hK K) | (simp only [push_cast]; done)
  refine awp_seq' fun K hK => ?_
  refine awp_region tyOk tyPos [] rfl ?_
  simp only [push_cast, ↓brB_true, ↓brB_false, ↓reduceIte, zA, zB, zC, zD, zE, zF, zG, zH, zI, reduceCtorEq]
  repeat' apply And.intro
  all_goals try exact gB
  all_goals first | (refine hK _ ?_; clear hK K) | (simp only [push_cast]; done)
  refine awp_seq' fun K1 hK1 => ?_
  refine awp_seq' fun K hK => ?_
  refine awp_region tyOk tyPos [] rfl ?_
  simp only [push_cast, ↓brB_true, ↓brB_false, ↓reduceIte, zA, zB, zC, zD, zE, zF, zG, zH, zI, reduceCtorEq]
  repeat' apply And.intro
  all_goals try exact gB
  all_goals first | (refine hK _ ?_; clear hK K) | (simp only [push_cast]; done)
  refine awp_block ?_
  refine awp_loopU [9,10,15,16,17,18,19,20,21,22,23,24] [144,145] (fun (k : Nat) => [(15, .int .i64 k), (9, .bp 9 0)]) (fun k => [(9, [.int .i64 s, .sl 145 [] 0 k 2])]) (fun k => [(145, ⟨.ex, 2, dI (iotR k), none⟩)]) (fun k => k ≤ ps.length) (fun k => ps.length - k) 0 ?_ (by omega) ?_
  ·
    rw [show iotR 0 = [] from rfl, show dI ([] : List Int) = [] from rfl]
    refine cov_of rfl ?_ ?_ ?_ <;> simp only [covS, covL, push_cast, ↓brB_true, ↓brB_false, ↓reduceIte, zA, zB, zC, zD, zE, zF, zG, zH, zI, reduceCtorEq]
  · rintro k hk KL0 hL0
    have hio := iotR_len k
    simp only [push_cast, ↓brB_true, ↓brB_false, ↓reduceIte, zA, zB, zC, zD, zE, zF, zG, zH, zI, reduceCtorEq]
    refine awp_seq' fun K hK => ?_
    refine awp_region tyOk tyPos [] rfl ?_
    simp only [push_cast, ↓brB_true, ↓brB_false, ↓reduceIte, zA, zB, zC, zD, zE, zF, zG, zH, zI, reduceCtorEq]
    repeat' apply And.intro
    all_goals try exact gB
    all_goals first | (refine hK _ ?_; clear hK K) | (simp only [push_cast]; done)
    refine awp_seq' fun K2 hK2 => ?_
    refine awp_cond rfl (fun hc => ?_) (fun hc => ?_) <;> (try simp only [push_cast] at hc)
    ·
      refine awp_skip ?_
      (try simp only [AThen, ABlk, reduceIte, zF]); refine hK2 _ ?_
      refine awp_seq' fun K3 hK3 => ?_
      refine awp_block ?_
      refine awp_seq' fun K hK => ?_
      refine awp_region tyOk tyPos [] rfl ?_
      simp only [push_cast, ↓brB_true, ↓brB_false, ↓reduceIte, zA, zB, zC, zD, zE, zF, zG, zH, zI, reduceCtorEq]
      repeat' apply And.intro
      all_goals try exact gB
      all_goals first | (refine hK _ ?_; clear hK K) | (simp only [push_cast]; done)
      refine awp_region tyOk tyPos [] rfl ?_
      simp only [push_cast, ↓brB_true, ↓brB_false, ↓reduceIte, zA, zB, zC, zD, zE, zF, zG, zH, zI, reduceCtorEq]
      repeat' apply And.intro
      all_goals try exact gB
      (try simp only [AThen, ABlk, reduceIte, zF]); refine hK3 _ ?_
      refine awp_settleB [.int .i64, .sl 2] 9 ?_
      simp only [push_cast, ↓brB_true, ↓brB_false, ↓reduceIte, zA, zB, zC, zD, zE, zF, zG, zH, zI, reduceCtorEq]
      refine awp_region tyOk tyPos [] rfl ?_
      simp only [push_cast, ↓brB_true, ↓brB_false, ↓reduceIte, zA, zB, zC, zD, zE, zF, zG, zH, zI, reduceCtorEq]
      repeat' apply And.intro
      all_goals try exact gB
      refine hL0 _ ⟨k + 1, by omega, by omega, ?_⟩
      (try rw [List.take_of_length_le (l := iotR k) (by omega)])
      rw [iotR_s]
      refine cov_of rfl ?_ ?_ ?_ <;> simp only [covS, covL, push_cast, ↓brB_true, ↓brB_false, ↓reduceIte, zA, zB, zC, zD, zE, zF, zG, zH, zI, reduceCtorEq]
      all_goals first | rfl | skip
    ·
      refine awp_exit ?_
      have hkk : k = ps.length := by omega
      subst hkk
      (try simp only [AThen, ABlk, reduceIte, zF]); refine hK1 _ ?_
      refine awp_seq' fun K hK => ?_
      refine awp_regionI 29 6 tyOk tyPos [] rfl ?_
      all_goals simp only [push_cast, ↓brB_true, ↓brB_false, ↓reduceIte, zA, zB, zC, zD, zE, zF, zG, zH, zI, reduceCtorEq]
      all_goals repeat' (first | (apply brB_mk <;> (intro hg; (try simp only [push_cast] at hg))) | apply And.intro | (intro hg; (try simp only [push_cast] at hg)))
      all_goals try exact gA
      refine aCallI_mk (fn := Try.f71) (rs := [.cell 8 48, .tmp 9, .tmp 10]) rfl rfl (by decide) rfl Try.func71 (by kernel_rfl) rfl rfl (by rw [Try.ntmps71]; exact Nat.le_of_ble_eq_true rfl) ?_
      rw [Try.ntmps71]
      simp only [push_cast, ↓brB_true, ↓brB_false, ↓reduceIte, zA, zB, zC, zD, zE, zF, zG, zH, zI, reduceCtorEq]
      refine awp_cov ?_ (placesGame_rec a ha ps hp h2 s ⟨h1, h3⟩ _ (fun hok9 => ?_) (fun i hi9 hn9 hil9 => ?_))
      · refine cov_of rfl ?_ ?_ ?_ <;> simp only [covS, covL, push_cast, ↓brB_true, ↓brB_false, ↓reduceIte, zA, zB, zC, zD, zE, zF, zG, zH, zI, reduceCtorEq]
        all_goals first | rfl | (rw [iotR_len]; done) | skip
      all_goals simp only [push_cast, ↓brB_true, ↓brB_false, ↓reduceIte, zA, zB, zC, zD, zE, zF, zG, zH, zI, reduceCtorEq]
      all_goals repeat' (first | (apply brB_mk <;> (intro hg; (try simp only [push_cast] at hg))) | apply And.intro | (intro hg; (try simp only [push_cast] at hg)))
      all_goals try exact gA
      all_goals first | (refine hK _ ?_; clear hK K) | (simp only [push_cast]; done)
      all_goals (
          refine awp_ret ?_
          (try simp only [AThen, ABlk])
          refine ⟨Or.inl rfl, ?_⟩
          simp only [RetOk, resVars, resVar, push_cast, ↓brB_true, ↓brB_false, ↓reduceIte, zA, zB, zC, zD, zE, zF, zG, zH, zI, reduceCtorEq]
          first
            | (obtain ⟨e1, e2, e3⟩ := rg_no2 (a := a) (ps := ps) (s := s) hok9
               rw [e1, e2, e3]
               all_goals first | rfl | exact ⟨rfl, rfl⟩ | (simp [dI, dII, dPls]; done))
            | (obtain ⟨e1, e2, e3⟩ := gmR_yes (a := a) (rc := rcR ps) (pr := prR ps) (p0 := ⟨s, iotR ps.length⟩) (i := i) hC hi9 hn9 hil9
               unfold rgG rgP rgB
               rw [e1, e2, e3]
               simp only [gmA, ownG_len, nxG_len, prG_len]
               all_goals first | rfl | exact ⟨⟨⟨rfl, rfl⟩, ⟨rfl, rfl⟩, ⟨rfl, rfl⟩⟩, rfl, rfl⟩ | exact ⟨rfl, rfl⟩ | (simp; done)))
set_option maxRecDepth 20000 in
set_option maxHeartbeats 8000000 in
theorem RecordedI_fn (a : Ar) (ha : a.Ln 1048576) (ps : List Pr) (hp : PLn 1048576 ps) (s : Int) : Fn Try.prog tyT 36 [.agg (dAr a), .c (.lst 99 (dII (ilv ps))), .c (.int .i64 s)] [.agg (dPa (rgG a ps s)), .c (.lst 78 (dPls (rgP a ps s))), .c (.bool (rgB a ps s))] := by
  have hno := ha.owner
  have hnn := ha.next.1
  unfold LnI at hno
  have hA := ArenaOkI_fn a ha
  have hF := arePairs_fn ps hp (a.owner.length : Int)
  have hSz := size_fn a
  have hV := hasVertex_fn a s
  unfold dAr at hA hSz hV
  have hpl0 := hp.1
  have hli := len_ilv ps
  have hRl := rgG_len (a := a) (ps := ps) (s := s)
  have hQl := rgP_len (a := a) (ps := ps) (s := s)
  unfold dAr dPa
  refine Fn_ofR (fn := Try.f36) (rs := [.cell 6 48, .tmp 7, .tmp 8]) tyOk tyPos Try.func36 (by kernel_rfl) rfl rfl (by rw [Try.ntmps36]; exact Nat.le_of_ble_eq_true rfl) rfl (by simp only [szA, List.mem_cons, List.not_mem_nil, or_false, forall_eq_or_imp, forall_eq, VT.cells, szL]; try decide) ?_
  rw [Try.ntmps36]
  simp only [push_cast, ↓brB_true, ↓brB_false, ↓reduceIte, zA, zB, zC, zD, zE, zF, zG, zH, zI, reduceCtorEq]
  refine awp_seq' fun K hK => ?_
  refine awp_region tyOk tyPos [] rfl ?_
  simp only [push_cast, ↓brB_true, ↓brB_false, ↓reduceIte, zA, zB, zC, zD, zE, zF, zG, zH, zI, reduceCtorEq]
  repeat' apply And.intro
  all_goals try exact gB
  all_goals first | (refine hK _ ?_; clear hK K) | (simp only [push_cast]; done)
  refine awp_seq' fun K1 hK1 => ?_
  refine awp_seq' fun K hK => ?_
  refine awp_regionN false tyOk tyPos ?_ rfl ?_
  · kernel_rfl
  all_goals refine seqE_cut 2 fun K9 hK9 => ?_
  all_goals simp only [push_cast, ↓brB_true, ↓brB_false, ↓reduceIte, zA, zB, zC, zD, zE, zF, zG, zH, zI, reduceCtorEq]
  all_goals repeat' (first | (apply brB_mk <;> (intro hg; (try simp only [push_cast] at hg))) | (refine ⟨_, hA, ?_⟩; simp only [push_cast, ↓brB_true, ↓brB_false, ↓reduceIte, zA, zB, zC, zD, zE, zF, zG, zH, zI, reduceCtorEq]) | apply And.intro | (intro hg; (try simp only [push_cast] at hg)))
  all_goals try exact gA
  all_goals first | (refine hK9 _ ?_; clear hK9 K9) | (simp only [push_cast]; done)
  all_goals refine seqE_cut 5 fun K9 hK9 => ?_
  all_goals simp only [push_cast, ↓brB_true, ↓brB_false, ↓reduceIte, zA, zB, zC, zD, zE, zF, zG, zH, zI, reduceCtorEq]
  all_goals repeat' (first | (apply brB_mk <;> (intro hg; (try simp only [push_cast] at hg))) | (refine ⟨_, hSz, ?_⟩; simp only [push_cast, ↓brB_true, ↓brB_false, ↓reduceIte, zA, zB, zC, zD, zE, zF, zG, zH, zI, reduceCtorEq]) | apply And.intro | (intro hg; (try simp only [push_cast] at hg)))
  all_goals try exact gA
  all_goals first | (refine hK9 _ ?_; clear hK9 K9) | (simp only [push_cast]; done)
  all_goals refine seqE_cut 1 fun K9 hK9 => ?_
  all_goals simp only [push_cast, ↓brB_true, ↓brB_false, ↓reduceIte, zA, zB, zC, zD, zE, zF, zG, zH, zI, reduceCtorEq]
  all_goals repeat' (first | (apply brB_mk <;> (intro hg; (try simp only [push_cast] at hg))) | (refine ⟨_, hF, ?_⟩; simp only [push_cast, ↓brB_true, ↓brB_false, ↓reduceIte, zA, zB, zC, zD, zE, zF, zG, zH, zI, reduceCtorEq]) | apply And.intro | (intro hg; (try simp only [push_cast] at hg)))
  all_goals try exact gA
  all_goals first | (refine hK9 _ ?_; clear hK9 K9) | (simp only [push_cast]; done)
  all_goals refine seqE_cut 6 fun K9 hK9 => ?_
  all_goals simp only [push_cast, ↓brB_true, ↓brB_false, ↓reduceIte, zA, zB, zC, zD, zE, zF, zG, zH, zI, reduceCtorEq]
  all_goals repeat' (first | (apply brB_mk <;> (intro hg; (try simp only [push_cast] at hg))) | (refine ⟨_, hV, ?_⟩; simp only [push_cast, ↓brB_true, ↓brB_false, ↓reduceIte, zA, zB, zC, zD, zE, zF, zG, zH, zI, reduceCtorEq]) | apply And.intro | (intro hg; (try simp only [push_cast] at hg)))
  all_goals try exact gA
  all_goals first | (refine hK9 _ ?_; clear hK9 K9) | (simp only [push_cast]; done)
  all_goals simp only [push_cast, ↓brB_true, ↓brB_false, ↓reduceIte, zA, zB, zC, zD, zE, zF, zG, zH, zI, reduceCtorEq]
  all_goals repeat' (first | (apply brB_mk <;> (intro hg; (try simp only [push_cast] at hg))) | (refine ⟨_, hA, ?_⟩; simp only [push_cast, ↓brB_true, ↓brB_false, ↓reduceIte, zA, zB, zC, zD, zE, zF, zG, zH, zI, reduceCtorEq]) | (refine ⟨_, hSz, ?_⟩; simp only [push_cast, ↓brB_true, ↓brB_false, ↓reduceIte, zA, zB, zC, zD, zE, zF, zG, zH, zI, reduceCtorEq]) | (refine ⟨_, hF, ?_⟩; simp only [push_cast, ↓brB_true, ↓brB_false, ↓reduceIte, zA, zB, zC, zD, zE, zF, zG, zH, zI, reduceCtorEq]) | (refine ⟨_, hV, ?_⟩; simp only [push_cast, ↓brB_true, ↓brB_false, ↓reduceIte, zA, zB, zC, zD, zE, zF, zG, zH, zI, reduceCtorEq]) | apply And.intro | (intro hg; (try simp only [push_cast] at hg)))
  all_goals try exact gA
  all_goals first | (refine hK _ ?_; clear hK K) | (simp only [push_cast]; done)
  all_goals refine awp_cond rfl (fun hc => ?_) (fun hc => ?_)
  all_goals (first | (cases hc; done) | skip)
  all_goals (try simp only [push_cast] at hc)
  all_goals try (
      refine awp_seq' fun K hK => ?_
      refine awp_region tyOk tyPos [] rfl ?_
      simp only [push_cast, ↓brB_true, ↓brB_false, ↓reduceIte, zA, zB, zC, zD, zE, zF, zG, zH, zI, reduceCtorEq]
      repeat' apply And.intro
      all_goals try exact gB
      all_goals first | (refine hK _ ?_; clear hK K) | (simp only [push_cast]; done)
      refine awp_ret ?_
      (try simp only [AThen, ABlk])
      refine ⟨Or.inl rfl, ?_⟩
      simp only [RetOk, resVars, resVar, push_cast, ↓brB_true, ↓brB_false, ↓reduceIte, zA, zB, zC, zD, zE, zF, zG, zH, zI, reduceCtorEq]
      obtain ⟨e1, e2, e3⟩ := rg_no1 (a := a) (ps := ps) (s := s) (by first | exact rgC_no1 (by with_reducible assumption) | exact rgC_no2 (by with_reducible assumption) | exact rgC_no3 (by omega))
      rw [e1, e2, e3]
      all_goals first | rfl | exact ⟨rfl, rfl⟩ | (simp [dI, dII, dPls]; done)
      done)
  refine awp_skip ?_
  (try simp only [AThen, ABlk, reduceIte, zF]); refine hK1 _ ?_
  have hC : rgC a ps s = true := rgC_yes (by with_reducible assumption) (by with_reducible assumption) (by omega)
  have hRec := recorded_fn a ha ps hp s hC
  unfold dAr dPa at hRec
  refine awp_seq' fun K hK => ?_
  refine awp_region tyOk tyPos [] rfl ?_
  all_goals refine aops_cut 4 fun K9 hK9 => ?_
  all_goals simp only [push_cast, ↓brB_true, ↓brB_false, ↓reduceIte, zA, zB, zC, zD, zE, zF, zG, zH, zI, reduceCtorEq]
  all_goals repeat' (first | (apply brB_mk <;> (intro hg; (try simp only [push_cast] at hg))) | (refine ⟨_, hRec, ?_⟩; simp only [push_cast, ↓brB_true, ↓brB_false, ↓reduceIte, zA, zB, zC, zD, zE, zF, zG, zH, zI, reduceCtorEq]) | apply And.intro | (intro hg; (try simp only [push_cast] at hg)))
  all_goals try exact gA
  all_goals first | (refine hK9 _ ?_; clear hK9 K9) | (simp only [push_cast]; done)
  all_goals simp only [push_cast, ↓brB_true, ↓brB_false, ↓reduceIte, zA, zB, zC, zD, zE, zF, zG, zH, zI, reduceCtorEq]
  all_goals repeat' (first | (apply brB_mk <;> (intro hg; (try simp only [push_cast] at hg))) | (refine ⟨_, hRec, ?_⟩; simp only [push_cast, ↓brB_true, ↓brB_false, ↓reduceIte, zA, zB, zC, zD, zE, zF, zG, zH, zI, reduceCtorEq]) | apply And.intro | (intro hg; (try simp only [push_cast] at hg)))
  all_goals try exact gA
  all_goals first | (refine hK _ ?_; clear hK K) | (simp only [push_cast]; done)
  refine awp_ret ?_
  (try simp only [AThen, ABlk])
  refine ⟨Or.inl rfl, ?_⟩
  simp only [RetOk, resVars, resVar, push_cast, ↓brB_true, ↓brB_false, ↓reduceIte, zA, zB, zC, zD, zE, zF, zG, zH, zI, reduceCtorEq]
  all_goals first | rfl | exact ⟨rfl, rfl⟩ | (simp; done) | skip
end Go.Proofs.Ytklconkoamoabaa
