/- Recorded: the reference's side -/
import Derived.Test.YtklconkoamoabaaB11zrd
import Derived.Test.YtklconkoamoabaaB8zrd
namespace Go.Proofs.Ytklconkoamoabaa
open Nat renaming reduceMod → zA, reduceMul → zB, reduceDiv → zC, reduceAdd → zD, reduceSub → zE, reduceEqDiff → zF, reduceBEq → zG, reduceLT → zH, reduceLeDiff → zI
open Go.RowKit
set_option linter.unusedVariables false
set_option linter.unusedSimpArgs false

set_option maxRecDepth 20000 in
set_option maxHeartbeats 4000000 in
theorem l17Next_fn (ps : List Pr) (ha : PLn 1048576 ps) (r : List Int) (hr : r.length ≤ 1048576) (hrr : ∀ i, i < r.length → 0 ≤ gi r i ∧ gi r i < (ps.length : Int)) (v : Int) : Fn Try.prog tyT 79 [.c (.lst 99 (dII (ilv ps))), .c (DI r), .c (.int .i64 v)] [.c (DI (nrF ps r v r.length ++ nrR ps r v r.length))] := by
  have hl := ha.1
  have hg := fun k => gp_le ha k
  have hgg : ∀ k, (gp ps k).give.length ≤ 1048576 := fun k => (hg k).give
  have hli := len_ilv ps
  have hnl := nr_len ps r v
  refine Fn_of (fn := Try.f79) (ts := [6]) Try.func79 (by kernel_rfl) rfl rfl (by rw [Try.ntmps79]; exact Nat.le_of_ble_eq_true rfl) rfl (by simp only [szA, List.mem_cons, List.not_mem_nil, or_false, forall_eq_or_imp, forall_eq, VT.cells, szL]; try decide) ?_
  rw [Try.ntmps79]
  simp only [push_cast, ↓brB_true, ↓brB_false, ↓reduceIte, zA, zB, zC, zD, zE, zF, zG, zH, zI, reduceCtorEq]
  refine awp_seq' fun K hK => ?_
  refine awp_region tyOk tyPos [] rfl ?_
  all_goals simp only [push_cast, ↓brB_true, ↓brB_false, ↓reduceIte, zA, zB, zC, zD, zE, zF, zG, zH, zI, reduceCtorEq]
  all_goals repeat' (first | (apply brB_mk <;> (intro hg; (try simp only [push_cast] at hg))) | apply And.intro | (intro hg; (try simp only [push_cast] at hg)))
  all_goals first | exact gA | (exact getE_dII (by simp only [push_cast]; omega)) | (exact getE_dII (by omega)) | skip
  all_goals first | (refine hK _ ?_; clear hK K) | (simp only [push_cast]; done)
  refine awp_seq' fun K hK => ?_
  refine awp_region tyOk tyPos [] rfl ?_
  all_goals simp only [push_cast, ↓brB_true, ↓brB_false, ↓reduceIte, zA, zB, zC, zD, zE, zF, zG, zH, zI, reduceCtorEq]
  all_goals repeat' (first | (apply brB_mk <;> (intro hg; (try simp only [push_cast] at hg))) | apply And.intro | (intro hg; (try simp only [push_cast] at hg)))
  all_goals first | exact gA | (exact getE_dII (by simp only [push_cast]; omega)) | (exact getE_dII (by omega)) | skip
  all_goals first | (refine hK _ ?_; clear hK K) | (simp only [push_cast]; done)
  refine awp_seq' fun K hK => ?_
  refine awp_region tyOk tyPos [] rfl ?_
  all_goals simp only [push_cast, ↓brB_true, ↓brB_false, ↓reduceIte, zA, zB, zC, zD, zE, zF, zG, zH, zI, reduceCtorEq]
  all_goals repeat' (first | (apply brB_mk <;> (intro hg; (try simp only [push_cast] at hg))) | apply And.intro | (intro hg; (try simp only [push_cast] at hg)))
  all_goals first | exact gA | (exact getE_dII (by simp only [push_cast]; omega)) | (exact getE_dII (by omega)) | skip
  all_goals first | (refine hK _ ?_; clear hK K) | (simp only [push_cast]; done)
  refine awp_seq' fun K1 hK1 => ?_
  refine awp_seq' fun K hK => ?_
  refine awp_region tyOk tyPos [] rfl ?_
  all_goals simp only [push_cast, ↓brB_true, ↓brB_false, ↓reduceIte, zA, zB, zC, zD, zE, zF, zG, zH, zI, reduceCtorEq]
  all_goals repeat' (first | (apply brB_mk <;> (intro hg; (try simp only [push_cast] at hg))) | apply And.intro | (intro hg; (try simp only [push_cast] at hg)))
  all_goals first | exact gA | (exact getE_dII (by simp only [push_cast]; omega)) | (exact getE_dII (by omega)) | skip
  all_goals first | (refine hK _ ?_; clear hK K) | (simp only [push_cast]; done)
  refine awp_block ?_
  refine awp_loopU [7,8,9,12,13,14,15,16,17,18,19,20,21,22,23,24,25,26,27,28,29,30,31,32,33,34,35,36,37,38,39,40,41] [112,128] (fun (k : Nat) => [(9, .int .i64 k), (7, .sl 112 [] 0 (nrF ps r v k).length 2), (8, .sl 128 [] 0 (nrR ps r v k).length 2)]) (fun k => []) (fun k => [(112, ⟨.ex, 2, dI (nrF ps r v k), none⟩), (128, ⟨.ex, 2, dI (nrR ps r v k), none⟩)]) (fun k => k ≤ r.length) (fun k => r.length - k) 0 ?_ (by omega) ?_
  ·
    rw [show nrF ps r v 0 = [] from rfl, show nrR ps r v 0 = [] from rfl, show dI ([] : List Int) = [] from rfl]
    refine cov_of rfl ?_ ?_ ?_ <;> simp only [covS, covL, push_cast, ↓brB_true, ↓brB_false, ↓reduceIte, zA, zB, zC, zD, zE, zF, zG, zH, zI, reduceCtorEq]
  · rintro k hk KL0 hL0
    simp only [push_cast, ↓brB_true, ↓brB_false, ↓reduceIte, zA, zB, zC, zD, zE, zF, zG, zH, zI, reduceCtorEq]
    refine awp_seq' fun K2 hK2 => ?_
    refine awp_seq' fun K hK => ?_
    refine awp_region tyOk tyPos [] rfl ?_
    all_goals simp only [push_cast, ↓brB_true, ↓brB_false, ↓reduceIte, zA, zB, zC, zD, zE, zF, zG, zH, zI, reduceCtorEq]
    all_goals repeat' (first | (apply brB_mk <;> (intro hg; (try simp only [push_cast] at hg))) | apply And.intro | (intro hg; (try simp only [push_cast] at hg)))
    all_goals first | exact gA | (exact getE_dII (by simp only [push_cast]; omega)) | (exact getE_dII (by omega)) | skip
    all_goals first | (refine hK _ ?_; clear hK K) | (simp only [push_cast]; done)
    refine awp_cond rfl (fun hc => ?_) (fun hc => ?_) <;> (try simp only [push_cast] at hc)
    ·
      refine awp_skip ?_
      (try simp only [AThen, ABlk, reduceIte, zF]); refine hK2 _ ?_
      refine awp_seq' fun K3 hK3 => ?_
      refine awp_block ?_
      have hrk := hrr k (by omega)
      have hnk := hnl k
      refine awp_seq' fun K hK => ?_
      refine awp_region tyOk tyPos [] rfl ?_
      all_goals refine aops_cut 10 fun K9 hK9 => ?_
      all_goals simp only [push_cast, ↓brB_true, ↓brB_false, ↓reduceIte, zA, zB, zC, zD, zE, zF, zG, zH, zI, reduceCtorEq]
      all_goals repeat' (first | (apply brB_mk <;> (intro hg; (try simp only [push_cast] at hg))) | (refine ⟨_, l16Has_fn (gp ps (gi r k).toNat).give v (hgg _), ?_⟩; simp only [push_cast, ↓brB_true, ↓brB_false, ↓reduceIte, zA, zB, zC, zD, zE, zF, zG, zH, zI, reduceCtorEq]) | apply And.intro | (intro hg; (try simp only [push_cast] at hg)))
      all_goals first | exact gA | (exact getE_dII (by simp only [push_cast]; omega)) | (exact getE_dII (by omega)) | skip
      all_goals first | (refine hK9 _ ?_; clear hK9 K9) | (simp only [push_cast]; done)
      all_goals simp only [push_cast, ↓brB_true, ↓brB_false, ↓reduceIte, zA, zB, zC, zD, zE, zF, zG, zH, zI, reduceCtorEq]
      all_goals repeat' (first | (apply brB_mk <;> (intro hg; (try simp only [push_cast] at hg))) | (refine ⟨_, l16Has_fn (gp ps (gi r k).toNat).give v (hgg _), ?_⟩; simp only [push_cast, ↓brB_true, ↓brB_false, ↓reduceIte, zA, zB, zC, zD, zE, zF, zG, zH, zI, reduceCtorEq]) | apply And.intro | (intro hg; (try simp only [push_cast] at hg)))
      all_goals first | exact gA | (exact getE_dII (by simp only [push_cast]; omega)) | (exact getE_dII (by omega)) | skip
      all_goals first | (refine hK _ ?_; clear hK K) | (simp only [push_cast]; done)
      refine awp_cond rfl (fun hc => ?_) (fun hc => ?_) <;> (try simp only [push_cast] at hc)
      ·
        refine awp_region tyOk tyPos [] rfl ?_
        all_goals simp only [push_cast, ↓brB_true, ↓brB_false, ↓reduceIte, zA, zB, zC, zD, zE, zF, zG, zH, zI, reduceCtorEq]
        all_goals repeat' (first | (apply brB_mk <;> (intro hg; (try simp only [push_cast] at hg))) | apply And.intro | (intro hg; (try simp only [push_cast] at hg)))
        all_goals first | exact gA | (exact getE_dII (by simp only [push_cast]; omega)) | (exact getE_dII (by omega)) | skip
        (try simp only [AThen, ABlk, reduceIte, zF]); refine hK3 _ ?_
        refine awp_region tyOk tyPos [] rfl ?_
        all_goals simp only [push_cast, ↓brB_true, ↓brB_false, ↓reduceIte, zA, zB, zC, zD, zE, zF, zG, zH, zI, reduceCtorEq]
        all_goals repeat' (first | (apply brB_mk <;> (intro hg; (try simp only [push_cast] at hg))) | apply And.intro | (intro hg; (try simp only [push_cast] at hg)))
        all_goals first | exact gA | (exact getE_dII (by simp only [push_cast]; omega)) | (exact getE_dII (by omega)) | skip
        refine hL0 _ ⟨k + 1, by omega, by omega, ?_⟩
        rw [nrF_yes (by unfold gvB; with_reducible assumption), nrR_yes (by unfold gvB; with_reducible assumption)]
        refine cov_of rfl ?_ ?_ ?_ <;> simp only [covS, covL, push_cast, ↓brB_true, ↓brB_false, ↓reduceIte, zA, zB, zC, zD, zE, zF, zG, zH, zI, reduceCtorEq]
        all_goals (try (rw [List.length_append]; rfl))
      ·
        refine awp_region tyOk tyPos [] rfl ?_
        all_goals simp only [push_cast, ↓brB_true, ↓brB_false, ↓reduceIte, zA, zB, zC, zD, zE, zF, zG, zH, zI, reduceCtorEq]
        all_goals repeat' (first | (apply brB_mk <;> (intro hg; (try simp only [push_cast] at hg))) | apply And.intro | (intro hg; (try simp only [push_cast] at hg)))
        all_goals first | exact gA | (exact getE_dII (by simp only [push_cast]; omega)) | (exact getE_dII (by omega)) | skip
        (try simp only [AThen, ABlk, reduceIte, zF]); refine hK3 _ ?_
        refine awp_region tyOk tyPos [] rfl ?_
        all_goals simp only [push_cast, ↓brB_true, ↓brB_false, ↓reduceIte, zA, zB, zC, zD, zE, zF, zG, zH, zI, reduceCtorEq]
        all_goals repeat' (first | (apply brB_mk <;> (intro hg; (try simp only [push_cast] at hg))) | apply And.intro | (intro hg; (try simp only [push_cast] at hg)))
        all_goals first | exact gA | (exact getE_dII (by simp only [push_cast]; omega)) | (exact getE_dII (by omega)) | skip
        refine hL0 _ ⟨k + 1, by omega, by omega, ?_⟩
        rw [nrF_no (by unfold gvB; with_reducible assumption), nrR_no (by unfold gvB; with_reducible assumption)]
        refine cov_of rfl ?_ ?_ ?_ <;> simp only [covS, covL, push_cast, ↓brB_true, ↓brB_false, ↓reduceIte, zA, zB, zC, zD, zE, zF, zG, zH, zI, reduceCtorEq]
        all_goals (try (rw [List.length_append]; rfl))
    ·
      refine awp_exit ?_
      have hkk : k = r.length := by omega
      subst hkk
      have hnk9 := hnl r.length
      (try simp only [AThen, ABlk, reduceIte, zF]); refine hK1 _ ?_
      refine awp_seq' fun K hK => ?_
      refine awp_region tyOk tyPos [] rfl ?_
      all_goals simp only [push_cast, ↓brB_true, ↓brB_false, ↓reduceIte, zA, zB, zC, zD, zE, zF, zG, zH, zI, reduceCtorEq]
      all_goals repeat' (first | (apply brB_mk <;> (intro hg; (try simp only [push_cast] at hg))) | apply And.intro | (intro hg; (try simp only [push_cast] at hg)))
      all_goals first | exact gA | (exact getE_dII (by simp only [push_cast]; omega)) | (exact getE_dII (by omega)) | skip
      all_goals first | (refine hK _ ?_; clear hK K) | (simp only [push_cast]; done)
      refine awp_ret ?_
      (try simp only [AThen, ABlk])
      refine ⟨Or.inl rfl, ?_⟩
      simp only [RetOk, push_cast, ↓brB_true, ↓brB_false, ↓reduceIte, zA, zB, zC, zD, zE, zF, zG, zH, zI, reduceCtorEq]
      first | exact List.length_append.symm | exact ⟨rfl, List.length_append.symm⟩ | skip
theorem l17NextL_fn (ps : List Pr) (ha : PLn 1048576 ps) (r : List Int) (v : Int) (h : recB r ps.length = true) : Fn Try.prog tyT 79 [.c (.lst 99 (dII (ilv ps))), .c (DI r), .c (.int .i64 v)] [.c (DI (nxL ps r v))] := by
  have hf := rec_facts h
  have h1 := l17Next_fn ps ha r (by omega) (fun i hi => (hf.2 i hi).1) v
  unfold nxL
  exact h1
theorem l17PrioL_fn (ps : List Pr) (ha : PLn 1048576 ps) (r : List Int) (v : Int) (h : recB r ps.length = true) : Fn Try.prog tyT 80 [.c (.lst 99 (dII (ilv ps))), .c (DI r), .c (.int .i64 v)] [.c (.int .i64 (prioP ps r v))] := by
  have hf := rec_facts h
  have h1 := l17Prio_fn ps ha r (by omega) (fun i hi => (hf.2 i hi).1) v
  unfold prioP
  exact h1
theorem nextRecL_fn (ps : List Pr) (ha : PLn 1048576 ps) (r : List Int) (v : Int) (h : recB r ps.length = true) : Fn Try.prog tyT 107 [.c (.lst 99 (dII (ilv ps))), .c (DI r), .c (.int .i64 v)] [.c (DI (nxL ps r v))] := by
  have hf := rec_facts h
  have h1 := nextRecI_fn ps ha r (by omega) (fun i hi => (hf.2 i hi).1) v
  unfold nxL
  exact h1
theorem recPrioL_fn (ps : List Pr) (ha : PLn 1048576 ps) (r : List Int) (v : Int) (h : recB r ps.length = true) : Fn Try.prog tyT 109 [.c (.lst 99 (dII (ilv ps))), .c (DI r), .c (.int .i64 v)] [.c (.int .i64 (prioP ps r v))] := by
  have hf := rec_facts h
  have h1 := recPrioI_fn ps ha r (by omega) (fun i hi => (hf.2 i hi).1) v
  unfold prioP
  exact h1
set_option maxRecDepth 20000 in
set_option maxHeartbeats 8000000 in
theorem RecordedS_fn (a : Ar) (ha : a.Ln 1048576) (ps : List Pr) (hp : PLn 1048576 ps) (s : Int) : Fn Try.prog tyT 34 [.agg (dAr a), .c (.lst 99 (dII (ilv ps))), .c (.int .i64 s)] [.agg (dPa (rgG a ps s)), .c (.lst 78 (dPls (rgP a ps s))), .c (.bool (rgB a ps s))] := by
  have hno := ha.owner
  have hnn := ha.next.1
  have hrr : ∀ v, (gl a.next v).length ≤ 1048576 := fun v => gl_le ha.next v
  unfold LnI at hno
  have hA := ArenaOkS_fn a ha
  have hF := PairsOkS_fn ps hp (a.owner.length : Int)
  have hI := l1In_fn s 0 ((a.owner.length : Int) - 1)
  have hpl0 := hp.1
  have hli := len_ilv ps
  unfold dAr at hA
  unfold dAr dPa
  refine Fn_ofR (fn := Try.f34) (rs := [.cell 6 48, .tmp 7, .tmp 8]) tyOk tyPos Try.func34 (by kernel_rfl) rfl rfl (by rw [Try.ntmps34]; exact Nat.le_of_ble_eq_true rfl) rfl (by simp only [szA, List.mem_cons, List.not_mem_nil, or_false, forall_eq_or_imp, forall_eq, VT.cells, szL]; try decide) ?_
  rw [Try.ntmps34]
  simp only [push_cast, ↓brB_true, ↓brB_false, ↓reduceIte, zA, zB, zC, zD, zE, zF, zG, zH, zI, reduceCtorEq]
  refine awp_seq' fun K hK => ?_
  refine awp_region tyOk tyPos [] rfl ?_
  all_goals simp only [push_cast, ↓brB_true, ↓brB_false, ↓reduceIte, zA, zB, zC, zD, zE, zF, zG, zH, zI, reduceCtorEq]
  all_goals repeat' (first | (apply brB_mk <;> (intro hg; (try simp only [push_cast] at hg))) | apply And.intro | (intro hg; (try simp only [push_cast] at hg)))
  all_goals first | exact gA | (exact getE_dPls (by omega)) | skip
  all_goals first | (refine hK _ ?_; clear hK K) | (simp only [push_cast]; done)
  refine awp_seq' fun K hK => ?_
  refine awp_region tyOk tyPos [] rfl ?_
  all_goals simp only [push_cast, ↓brB_true, ↓brB_false, ↓reduceIte, zA, zB, zC, zD, zE, zF, zG, zH, zI, reduceCtorEq]
  all_goals repeat' (first | (apply brB_mk <;> (intro hg; (try simp only [push_cast] at hg))) | apply And.intro | (intro hg; (try simp only [push_cast] at hg)))
  all_goals first | exact gA | (exact getE_dPls (by omega)) | skip
  all_goals first | (refine hK _ ?_; clear hK K) | (simp only [push_cast]; done)
  refine awp_seq' fun K1 hK1 => ?_
  refine awp_seq' fun K hK => ?_
  refine awp_regionN false tyOk tyPos ?_ rfl ?_
  · kernel_rfl
  all_goals refine seqE_cut 2 fun K9 hK9 => ?_
  all_goals simp only [push_cast, ↓brB_true, ↓brB_false, ↓reduceIte, zA, zB, zC, zD, zE, zF, zG, zH, zI, reduceCtorEq]
  all_goals repeat' (first | (apply brB_mk <;> (intro hg; (try simp only [push_cast] at hg))) | (refine ⟨_, hA, ?_⟩; simp only [push_cast, ↓brB_true, ↓brB_false, ↓reduceIte, zA, zB, zC, zD, zE, zF, zG, zH, zI, reduceCtorEq]) | apply And.intro | (intro hg; (try simp only [push_cast] at hg)))
  all_goals first | exact gA | (exact getE_dPls (by omega)) | skip
  all_goals first | (refine hK9 _ ?_; clear hK9 K9) | (simp only [push_cast]; done)
  all_goals refine seqE_cut 5 fun K9 hK9 => ?_
  all_goals simp only [push_cast, ↓brB_true, ↓brB_false, ↓reduceIte, zA, zB, zC, zD, zE, zF, zG, zH, zI, reduceCtorEq]
  all_goals repeat' (first | (apply brB_mk <;> (intro hg; (try simp only [push_cast] at hg))) | (refine ⟨_, hF, ?_⟩; simp only [push_cast, ↓brB_true, ↓brB_false, ↓reduceIte, zA, zB, zC, zD, zE, zF, zG, zH, zI, reduceCtorEq]) | apply And.intro | (intro hg; (try simp only [push_cast] at hg)))
  all_goals first | exact gA | (exact getE_dPls (by omega)) | skip
  all_goals first | (refine hK9 _ ?_; clear hK9 K9) | (simp only [push_cast]; done)
  all_goals refine seqE_cut 7 fun K9 hK9 => ?_
  all_goals simp only [push_cast, ↓brB_true, ↓brB_false, ↓reduceIte, zA, zB, zC, zD, zE, zF, zG, zH, zI, reduceCtorEq]
  all_goals repeat' (first | (apply brB_mk <;> (intro hg; (try simp only [push_cast] at hg))) | (refine ⟨_, hI, ?_⟩; simp only [push_cast, ↓brB_true, ↓brB_false, ↓reduceIte, zA, zB, zC, zD, zE, zF, zG, zH, zI, reduceCtorEq]) | apply And.intro | (intro hg; (try simp only [push_cast] at hg)))
  all_goals first | exact gA | (exact getE_dPls (by omega)) | skip
  all_goals first | (refine hK9 _ ?_; clear hK9 K9) | (simp only [push_cast]; done)
  all_goals simp only [push_cast, ↓brB_true, ↓brB_false, ↓reduceIte, zA, zB, zC, zD, zE, zF, zG, zH, zI, reduceCtorEq]
  all_goals repeat' (first | (apply brB_mk <;> (intro hg; (try simp only [push_cast] at hg))) | (refine ⟨_, hA, ?_⟩; simp only [push_cast, ↓brB_true, ↓brB_false, ↓reduceIte, zA, zB, zC, zD, zE, zF, zG, zH, zI, reduceCtorEq]) | (refine ⟨_, hF, ?_⟩; simp only [push_cast, ↓brB_true, ↓brB_false, ↓reduceIte, zA, zB, zC, zD, zE, zF, zG, zH, zI, reduceCtorEq]) | (refine ⟨_, hI, ?_⟩; simp only [push_cast, ↓brB_true, ↓brB_false, ↓reduceIte, zA, zB, zC, zD, zE, zF, zG, zH, zI, reduceCtorEq]) | apply And.intro | (intro hg; (try simp only [push_cast] at hg)))
  all_goals first | exact gA | (exact getE_dPls (by omega)) | skip
  all_goals first | (refine hK _ ?_; clear hK K) | (simp only [push_cast]; done)
  all_goals refine awp_cond rfl (fun hc => ?_) (fun hc => ?_)
  all_goals (first | (cases hc; done) | skip)
  all_goals (try simp only [push_cast] at hc)
  all_goals try (
      refine awp_seq' fun K hK => ?_
      refine awp_regionN false tyOk tyPos ?_ rfl ?_
      · kernel_rfl
      simp only [push_cast, ↓brB_true, ↓brB_false, ↓reduceIte, zA, zB, zC, zD, zE, zF, zG, zH, zI, reduceCtorEq]
      all_goals repeat' (first | (apply brB_mk <;> (intro hg; (try simp only [push_cast] at hg))) | apply And.intro | (intro hg; (try simp only [push_cast] at hg)))
      all_goals first | exact gA | (exact getE_dPls (by omega)) | skip
      all_goals first | (refine hK _ ?_; clear hK K) | (simp only [push_cast]; done)
      refine awp_ret ?_
      (try simp only [AThen, ABlk])
      refine ⟨Or.inl rfl, ?_⟩
      simp only [RetOk, resVars, resVar, push_cast, ↓brB_true, ↓brB_false, ↓reduceIte, zA, zB, zC, zD, zE, zF, zG, zH, zI, reduceCtorEq]
      obtain ⟨e1, e2, e3⟩ := rg_no1 (a := a) (ps := ps) (s := s) (by first | exact rgC_no1 (by with_reducible assumption) | exact rgC_no2 (by have hln9 := arenaB_len (a := a) (by with_reducible assumption); rw [← prsB_yes (by omega)]; with_reducible assumption) | exact rgC_no3 (by omega))
      rw [e1, e2, e3]
      all_goals first | rfl | exact ⟨rfl, rfl⟩ | (simp [dI, dII, dPls]; done)
      done)
  refine awp_skip ?_
  (try simp only [AThen, ABlk, reduceIte, zF]); refine hK1 _ ?_
  have hC : rgC a ps s = true := rgC_yes (by with_reducible assumption) (by have hln9 := arenaB_len (a := a) (by with_reducible assumption); rw [← prsB_yes (by omega)]; with_reducible assumption) (by omega)
  obtain ⟨h1, h2, h3⟩ := rgC_facts hC
  have hln := arenaB_len h1
  refine awp_seq' fun K hK => ?_
  refine awp_region tyOk tyPos [] rfl ?_
  all_goals simp only [push_cast, ↓brB_true, ↓brB_false, ↓reduceIte, zA, zB, zC, zD, zE, zF, zG, zH, zI, reduceCtorEq]
  all_goals repeat' (first | (apply brB_mk <;> (intro hg; (try simp only [push_cast] at hg))) | apply And.intro | (intro hg; (try simp only [push_cast] at hg)))
  all_goals first | exact gA | (exact getE_dPls (by omega)) | skip
  all_goals first | (refine hK _ ?_; clear hK K) | (simp only [push_cast]; done)
  refine awp_seq' fun K2 hK2 => ?_
  refine awp_seq' fun K hK => ?_
  refine awp_region tyOk tyPos [] rfl ?_
  all_goals simp only [push_cast, ↓brB_true, ↓brB_false, ↓reduceIte, zA, zB, zC, zD, zE, zF, zG, zH, zI, reduceCtorEq]
  all_goals repeat' (first | (apply brB_mk <;> (intro hg; (try simp only [push_cast] at hg))) | apply And.intro | (intro hg; (try simp only [push_cast] at hg)))
  all_goals first | exact gA | (exact getE_dPls (by omega)) | skip
  all_goals first | (refine hK _ ?_; clear hK K) | (simp only [push_cast]; done)
  refine awp_block ?_
  refine awp_loopU [10,11,27,33,43,44,45,46,47,48,49,50,51,52] [160] (fun (k : Nat) => [(11, .int .i64 k), (10, .sl 160 [] 0 k 2)]) (fun k => []) (fun k => [(160, ⟨.ex, 2, dI (iotR k), none⟩)]) (fun k => k ≤ ps.length) (fun k => ps.length - k) 0 ?_ (by omega) ?_
  ·
    rw [show iotR 0 = [] from rfl, show dI ([] : List Int) = [] from rfl]
    refine cov_of rfl ?_ ?_ ?_ <;> simp only [covS, covL, push_cast, ↓brB_true, ↓brB_false, ↓reduceIte, zA, zB, zC, zD, zE, zF, zG, zH, zI, reduceCtorEq]
  · rintro k hk KL0 hL0
    have hio := iotR_len k
    simp only [push_cast, ↓brB_true, ↓brB_false, ↓reduceIte, zA, zB, zC, zD, zE, zF, zG, zH, zI, reduceCtorEq]
    refine awp_seq' fun K3 hK3 => ?_
    refine awp_seq' fun K hK => ?_
    refine awp_region tyOk tyPos [] rfl ?_
    all_goals simp only [push_cast, ↓brB_true, ↓brB_false, ↓reduceIte, zA, zB, zC, zD, zE, zF, zG, zH, zI, reduceCtorEq]
    all_goals repeat' (first | (apply brB_mk <;> (intro hg; (try simp only [push_cast] at hg))) | apply And.intro | (intro hg; (try simp only [push_cast] at hg)))
    all_goals first | exact gA | (exact getE_dPls (by omega)) | skip
    all_goals first | (refine hK _ ?_; clear hK K) | (simp only [push_cast]; done)
    refine awp_cond rfl (fun hc => ?_) (fun hc => ?_) <;> (try simp only [push_cast] at hc)
    ·
      refine awp_skip ?_
      (try simp only [AThen, ABlk, reduceIte, zF]); refine hK3 _ ?_
      refine awp_seq' fun K4 hK4 => ?_
      refine awp_block ?_
      refine awp_region tyOk tyPos [] rfl ?_
      all_goals simp only [push_cast, ↓brB_true, ↓brB_false, ↓reduceIte, zA, zB, zC, zD, zE, zF, zG, zH, zI, reduceCtorEq]
      all_goals repeat' (first | (apply brB_mk <;> (intro hg; (try simp only [push_cast] at hg))) | apply And.intro | (intro hg; (try simp only [push_cast] at hg)))
      all_goals first | exact gA | (exact getE_dPls (by omega)) | skip
      (try simp only [AThen, ABlk, reduceIte, zF]); refine hK4 _ ?_
      refine awp_region tyOk tyPos [] rfl ?_
      all_goals simp only [push_cast, ↓brB_true, ↓brB_false, ↓reduceIte, zA, zB, zC, zD, zE, zF, zG, zH, zI, reduceCtorEq]
      all_goals repeat' (first | (apply brB_mk <;> (intro hg; (try simp only [push_cast] at hg))) | apply And.intro | (intro hg; (try simp only [push_cast] at hg)))
      all_goals first | exact gA | (exact getE_dPls (by omega)) | skip
      refine hL0 _ ⟨k + 1, by omega, by omega, ?_⟩
      (try rw [List.take_of_length_le (l := iotR k) (by omega)])
      rw [iotR_s]
      refine cov_of rfl ?_ ?_ ?_ <;> simp only [covS, covL, push_cast, ↓brB_true, ↓brB_false, ↓reduceIte, zA, zB, zC, zD, zE, zF, zG, zH, zI, reduceCtorEq]
      all_goals first | rfl | skip
    ·
      refine awp_exit ?_
      have hkk : k = ps.length := by omega
      subst hkk
      (try simp only [AThen, ABlk, reduceIte, zF]); refine hK2 _ ?_
      refine awp_seq' fun K hK => ?_
      refine awp_regionN false tyOk tyPos ?_ rfl ?_
      · kernel_rfl
      simp only [push_cast, ↓brB_true, ↓brB_false, ↓reduceIte, zA, zB, zC, zD, zE, zF, zG, zH, zI, reduceCtorEq]
      all_goals repeat' (first | (apply brB_mk <;> (intro hg; (try simp only [push_cast] at hg))) | apply And.intro | (intro hg; (try simp only [push_cast] at hg)))
      all_goals first | exact gA | (exact getE_dPls (by omega)) | skip
      all_goals first | (refine hK _ ?_; clear hK K) | (simp only [push_cast]; done)
      refine awp_settle 78 12 (Nat.le_of_ble_eq_true rfl) ?_
      simp only [push_cast, ↓brB_true, ↓brB_false, ↓reduceIte, zA, zB, zC, zD, zE, zF, zG, zH, zI, reduceCtorEq]
      refine awp_seq' fun K hK => ?_
      refine awp_region tyOk tyPos [] rfl ?_
      all_goals simp only [push_cast, ↓brB_true, ↓brB_false, ↓reduceIte, zA, zB, zC, zD, zE, zF, zG, zH, zI, reduceCtorEq]
      all_goals repeat' (first | (apply brB_mk <;> (intro hg; (try simp only [push_cast] at hg))) | apply And.intro | (intro hg; (try simp only [push_cast] at hg)))
      all_goals first | exact gA | (exact getE_dPls (by omega)) | skip
      all_goals first | (refine hK _ ?_; clear hK K) | (simp only [push_cast]; done)
      refine awp_seq' fun K5 hK5 => ?_
      refine awp_seq' fun K hK => ?_
      refine awp_region tyOk tyPos [] rfl ?_
      all_goals simp only [push_cast, ↓brB_true, ↓brB_false, ↓reduceIte, zA, zB, zC, zD, zE, zF, zG, zH, zI, reduceCtorEq]
      all_goals repeat' (first | (apply brB_mk <;> (intro hg; (try simp only [push_cast] at hg))) | apply And.intro | (intro hg; (try simp only [push_cast] at hg)))
      all_goals first | exact gA | (exact getE_dPls (by omega)) | skip
      all_goals first | (refine hK _ ?_; clear hK K) | (simp only [push_cast]; done)
      refine awp_block ?_
      refine awp_loopU [7,8,12,13,14,15,16,17,18,19,20,27,33,58,59,60,61,62,63,64,65,66,67,68,69,70,71,72,73,74,75,76,77,78,79,80,81,82,83,84,85,86,87,88,89,90,91,92,93,94,95,96,97,98,99,100,101,102,103,104,105,106,107,108,109,110,111,112,113,114,115,116,117,118,119,120,121,122,123,124,125,126,127,128,129,130,131,132,133,134,135,136,137,138,139,140,141,142,143,144,145,146,147,148,149,150,151] [] (fun (i : Nat) => [(14, .int .i64 i), (12, .sl 192 [] 0 (stQ (usA a) (rcR ps) ⟨s, iotR ps.length⟩ i).length 78), (13, .bp 13 0)]) (fun i => [(13, [.sl 208 [] 0 i 2, .sl 209 [] 0 i 22, .sl 210 [] 0 i 2])]) (fun i => [(192, ⟨.ex, 78, dPls (stQ (usA a) (rcR ps) ⟨s, iotR ps.length⟩ i), none⟩), (208, ⟨.ex, 2, dI (ownG a (rcR ps) ⟨s, iotR ps.length⟩ i), none⟩), (209, ⟨.ex, 22, dII (nxG a (rcR ps) ⟨s, iotR ps.length⟩ i), none⟩), (210, ⟨.ex, 2, dI (prG a (rcR ps) (prR ps) ⟨s, iotR ps.length⟩ i), none⟩)]) (fun i => i ≤ 256 ∧ i ≤ (stQ (usA a) (rcR ps) ⟨s, iotR ps.length⟩ i).length ∧ (stQ (usA a) (rcR ps) ⟨s, iotR ps.length⟩ i).length ≤ 256) (fun i => 257 - i) 0 ?_ ⟨by omega, Nat.zero_le _, (by show 1 ≤ 256; decide)⟩ ?_
      ·
        rw [show stQ (usA a) (rcR ps) ⟨s, iotR ps.length⟩ 0 = [⟨s, iotR ps.length⟩] from rfl, ownG_0, nxG_0, prG_0]
        refine cov_of rfl ?_ ?_ ?_ <;> simp only [covS, covL, push_cast, ↓brB_true, ↓brB_false, ↓reduceIte, zA, zB, zC, zD, zE, zF, zG, zH, zI, reduceCtorEq]
        all_goals first | rfl | exact ⟨rfl, rfl, rfl, rfl⟩ | (rw [List.take_of_length_le (l := iotR ps.length) (by omega)]; exact ⟨rfl, rfl, rfl, rfl⟩) | skip
      · rintro i ⟨hi, hil, hsl⟩ KL1 hL1
        have hall := pl_all h1 h3 i
        have hq : QLn 1048576 (stQ (usA a) (rcR ps) ⟨s, iotR ps.length⟩ i) := ⟨by omega, fun p hp => by have := h3.small _ (hall p hp).2.2; omega⟩
        have hgl := fun k => gq_le hq k
        have ho1 := ownG_len (a := a) (rc := rcR ps) (p0 := ⟨s, iotR ps.length⟩) i
        have ho2 := nxG_len (a := a) (rc := rcR ps) (p0 := ⟨s, iotR ps.length⟩) i
        have ho3 := prG_len (a := a) (rc := rcR ps) (pr := prR ps) (p0 := ⟨s, iotR ps.length⟩) i
        simp only [push_cast, ↓brB_true, ↓brB_false, ↓reduceIte, zA, zB, zC, zD, zE, zF, zG, zH, zI, reduceCtorEq]
        refine awp_seq' fun K6 hK6 => ?_
        refine awp_seq' fun K hK => ?_
        refine awp_region tyOk tyPos [] rfl ?_
        all_goals simp only [push_cast, ↓brB_true, ↓brB_false, ↓reduceIte, zA, zB, zC, zD, zE, zF, zG, zH, zI, reduceCtorEq]
        all_goals repeat' (first | (apply brB_mk <;> (intro hg; (try simp only [push_cast] at hg))) | apply And.intro | (intro hg; (try simp only [push_cast] at hg)))
        all_goals first | exact gA | (exact getE_dPls (by omega)) | skip
        all_goals first | (refine hK _ ?_; clear hK K) | (simp only [push_cast]; done)
        refine awp_cond rfl (fun hc => ?_) (fun hc => ?_) <;> (try simp only [push_cast] at hc)
        ·
          refine awp_skip ?_
          (try simp only [AThen, ABlk, reduceIte, zF]); refine hK6 _ ?_
          refine awp_seq' fun K7 hK7 => ?_
          refine awp_block ?_
          have hP := hall _ (gq_mem (k := i) (by omega))
          have hU : 1 ≤ (gl a.next (gq (stQ (usA a) (rcR ps) ⟨s, iotR ps.length⟩ i) i).at_.toNat).length ∧ (gl a.next (gq (stQ (usA a) (rcR ps) ⟨s, iotR ps.length⟩ i) i).at_.toNat).length ≤ 16 ∧ ∀ u ∈ (gl a.next (gq (stQ (usA a) (rcR ps) ⟨s, iotR ps.length⟩ i) i).at_.toNat), 0 ≤ u ∧ u < (a.owner.length : Int) := us_rg h1 ⟨hP.1, hP.2.1⟩
          have hpl := h3.small _ hP.2.2
          have hnl : (nxL ps (gq (stQ (usA a) (rcR ps) ⟨s, iotR ps.length⟩ i) i).record (gq (stQ (usA a) (rcR ps) ⟨s, iotR ps.length⟩ i) i).at_).length ≤ 4 := h3.small _ (h3.next _ hP.1 hP.2.1 hP.2.2)
          refine awp_seq' fun K hK => ?_
          refine awp_region tyOk tyPos [] rfl ?_
          all_goals simp only [push_cast, ↓brB_true, ↓brB_false, ↓reduceIte, zA, zB, zC, zD, zE, zF, zG, zH, zI, reduceCtorEq]
          all_goals repeat' (first | (apply brB_mk <;> (intro hg; (try simp only [push_cast] at hg))) | apply And.intro | (intro hg; (try simp only [push_cast] at hg)))
          all_goals first | exact gA | (exact getE_dPls (by omega)) | skip
          all_goals first | (refine hK _ ?_; clear hK K) | (simp only [push_cast]; done)
          refine awp_seq' fun K hK => ?_
          refine awp_region tyOk tyPos [] rfl ?_
          all_goals refine aops_cut 6 fun K9 hK9 => ?_
          all_goals simp only [push_cast, ↓brB_true, ↓brB_false, ↓reduceIte, zA, zB, zC, zD, zE, zF, zG, zH, zI, reduceCtorEq]
          all_goals repeat' (first | (apply brB_mk <;> (intro hg; (try simp only [push_cast] at hg))) | (refine ⟨_, l17NextL_fn ps hp (gq (stQ (usA a) (rcR ps) ⟨s, iotR ps.length⟩ i) i).record (gq (stQ (usA a) (rcR ps) ⟨s, iotR ps.length⟩ i) i).at_ hP.2.2, ?_⟩; simp only [push_cast, ↓brB_true, ↓brB_false, ↓reduceIte, zA, zB, zC, zD, zE, zF, zG, zH, zI, reduceCtorEq]) | apply And.intro | (intro hg; (try simp only [push_cast] at hg)))
          all_goals first | exact gA | (exact getE_dPls (by omega)) | skip
          all_goals first | (refine hK9 _ ?_; clear hK9 K9) | (simp only [push_cast]; done)
          all_goals simp only [push_cast, ↓brB_true, ↓brB_false, ↓reduceIte, zA, zB, zC, zD, zE, zF, zG, zH, zI, reduceCtorEq]
          all_goals repeat' (first | (apply brB_mk <;> (intro hg; (try simp only [push_cast] at hg))) | (refine ⟨_, l17NextL_fn ps hp (gq (stQ (usA a) (rcR ps) ⟨s, iotR ps.length⟩ i) i).record (gq (stQ (usA a) (rcR ps) ⟨s, iotR ps.length⟩ i) i).at_ hP.2.2, ?_⟩; simp only [push_cast, ↓brB_true, ↓brB_false, ↓reduceIte, zA, zB, zC, zD, zE, zF, zG, zH, zI, reduceCtorEq]) | apply And.intro | (intro hg; (try simp only [push_cast] at hg)))
          all_goals first | exact gA | (exact getE_dPls (by omega)) | skip
          all_goals first | (refine hK _ ?_; clear hK K) | (simp only [push_cast]; done)
          refine awp_seq' fun K hK => ?_
          refine awp_region tyOk tyPos [] rfl ?_
          all_goals simp only [push_cast, ↓brB_true, ↓brB_false, ↓reduceIte, zA, zB, zC, zD, zE, zF, zG, zH, zI, reduceCtorEq]
          all_goals repeat' (first | (apply brB_mk <;> (intro hg; (try simp only [push_cast] at hg))) | apply And.intro | (intro hg; (try simp only [push_cast] at hg)))
          all_goals first | exact gA | (exact getE_dPls (by omega)) | skip
          all_goals first | (refine hK _ ?_; clear hK K) | (simp only [push_cast]; done)
          refine awp_seq' fun K8 hK8 => ?_
          refine awp_seq' fun K hK => ?_
          refine awp_region tyOk tyPos [] rfl ?_
          all_goals simp only [push_cast, ↓brB_true, ↓brB_false, ↓reduceIte, zA, zB, zC, zD, zE, zF, zG, zH, zI, reduceCtorEq]
          all_goals repeat' (first | (apply brB_mk <;> (intro hg; (try simp only [push_cast] at hg))) | apply And.intro | (intro hg; (try simp only [push_cast] at hg)))
          all_goals first | exact gA | (exact getE_dPls (by omega)) | skip
          all_goals first | (refine hK _ ?_; clear hK K) | (simp only [push_cast]; done)
          refine awp_block ?_
          refine awp_loopU [7,8,12,15,17,18,19,20,27,33,59,64,66,67,68,69,70,71,72,75,76,77,78,79,80,81,82,83,84,85,86,87,88,89,90,91,92,93,94,95,96,97,98,99,100,101,102,103,104,105,106,107,108,109,110,111,112,113,114,115,116,117,118] [272,240,241] (fun (k : Nat) => [(18, .int .i64 k), (12, .sl 192 [] 0 (rowT (nxL ps (gq (stQ (usA a) (rcR ps) ⟨s, iotR ps.length⟩ i) i).record (gq (stQ (usA a) (rcR ps) ⟨s, iotR ps.length⟩ i) i).at_) (gl a.next (gq (stQ (usA a) (rcR ps) ⟨s, iotR ps.length⟩ i) i).at_.toNat) (stQ (usA a) (rcR ps) ⟨s, iotR ps.length⟩ i) k).1.length 78), (17, .sl 272 [] 0 k 2), (15, .bp 15 0)]) (fun k => [(15, [.int .i64 (gq (stQ (usA a) (rcR ps) ⟨s, iotR ps.length⟩ i) i).at_, .sl 192 [i * 2 + 1] 0 (gq (stQ (usA a) (rcR ps) ⟨s, iotR ps.length⟩ i) i).record.length 2])]) (fun k => [(192, ⟨.ex, 78, dPls (rowT (nxL ps (gq (stQ (usA a) (rcR ps) ⟨s, iotR ps.length⟩ i) i).record (gq (stQ (usA a) (rcR ps) ⟨s, iotR ps.length⟩ i) i).at_) (gl a.next (gq (stQ (usA a) (rcR ps) ⟨s, iotR ps.length⟩ i) i).at_.toNat) (stQ (usA a) (rcR ps) ⟨s, iotR ps.length⟩ i) k).1, none⟩), (272, ⟨.ex, 2, dI (rowT (nxL ps (gq (stQ (usA a) (rcR ps) ⟨s, iotR ps.length⟩ i) i).record (gq (stQ (usA a) (rcR ps) ⟨s, iotR ps.length⟩ i) i).at_) (gl a.next (gq (stQ (usA a) (rcR ps) ⟨s, iotR ps.length⟩ i) i).at_.toNat) (stQ (usA a) (rcR ps) ⟨s, iotR ps.length⟩ i) k).2, none⟩)]) (fun k => k ≤ (gl a.next (gq (stQ (usA a) (rcR ps) ⟨s, iotR ps.length⟩ i) i).at_.toNat).length ∧ (rowT (nxL ps (gq (stQ (usA a) (rcR ps) ⟨s, iotR ps.length⟩ i) i).record (gq (stQ (usA a) (rcR ps) ⟨s, iotR ps.length⟩ i) i).at_) (gl a.next (gq (stQ (usA a) (rcR ps) ⟨s, iotR ps.length⟩ i) i).at_.toNat) (stQ (usA a) (rcR ps) ⟨s, iotR ps.length⟩ i) k).1.length ≤ 256) (fun k => (gl a.next (gq (stQ (usA a) (rcR ps) ⟨s, iotR ps.length⟩ i) i).at_.toNat).length - k) 0 ?_ ⟨by omega, hsl⟩ ?_
          ·
            rw [rowT_0]
            refine cov_of rfl ?_ ?_ ?_ <;> simp only [covS, covL, push_cast, ↓brB_true, ↓brB_false, ↓reduceIte, zA, zB, zC, zD, zE, zF, zG, zH, zI, reduceCtorEq]
            all_goals rfl
          · rintro k ⟨hk, hkl⟩ KL2 hL2
            have hrl := rowT_len (r := (nxL ps (gq (stQ (usA a) (rcR ps) ⟨s, iotR ps.length⟩ i) i).record (gq (stQ (usA a) (rcR ps) ⟨s, iotR ps.length⟩ i) i).at_)) (us := (gl a.next (gq (stQ (usA a) (rcR ps) ⟨s, iotR ps.length⟩ i) i).at_.toNat)) (ps := (stQ (usA a) (rcR ps) ⟨s, iotR ps.length⟩ i)) (k := k) hk
            have hQr : QLn 1048576 (rowT (nxL ps (gq (stQ (usA a) (rcR ps) ⟨s, iotR ps.length⟩ i) i).record (gq (stQ (usA a) (rcR ps) ⟨s, iotR ps.length⟩ i) i).at_) (gl a.next (gq (stQ (usA a) (rcR ps) ⟨s, iotR ps.length⟩ i) i).at_.toNat) (stQ (usA a) (rcR ps) ⟨s, iotR ps.length⟩ i) k).1 := ⟨by omega, fun p hp => by have := h3.small _ (pl_row h1 h3 (i := i) (k := k) (by omega) hk p hp).2.2; omega⟩
            have hx := ixQ_rg (sameQ (gi (gl a.next (gq (stQ (usA a) (rcR ps) ⟨s, iotR ps.length⟩ i) i).at_.toNat) k) (nxL ps (gq (stQ (usA a) (rcR ps) ⟨s, iotR ps.length⟩ i) i).record (gq (stQ (usA a) (rcR ps) ⟨s, iotR ps.length⟩ i) i).at_)) (rowT (nxL ps (gq (stQ (usA a) (rcR ps) ⟨s, iotR ps.length⟩ i) i).record (gq (stQ (usA a) (rcR ps) ⟨s, iotR ps.length⟩ i) i).at_) (gl a.next (gq (stQ (usA a) (rcR ps) ⟨s, iotR ps.length⟩ i) i).at_.toNat) (stQ (usA a) (rcR ps) ⟨s, iotR ps.length⟩ i) k).1
            simp only [push_cast, ↓brB_true, ↓brB_false, ↓reduceIte, zA, zB, zC, zD, zE, zF, zG, zH, zI, reduceCtorEq]
            refine awp_seq' fun K9 hK9 => ?_
            refine awp_seq' fun K hK => ?_
            refine awp_region tyOk tyPos [] rfl ?_
            all_goals simp only [push_cast, ↓brB_true, ↓brB_false, ↓reduceIte, zA, zB, zC, zD, zE, zF, zG, zH, zI, reduceCtorEq]
            all_goals repeat' (first | (apply brB_mk <;> (intro hg; (try simp only [push_cast] at hg))) | apply And.intro | (intro hg; (try simp only [push_cast] at hg)))
            all_goals first | exact gA | (exact getE_dPls (by omega)) | skip
            all_goals first | (refine hK _ ?_; clear hK K) | (simp only [push_cast]; done)
            refine awp_cond rfl (fun hc => ?_) (fun hc => ?_) <;> (try simp only [push_cast] at hc)
            ·
              refine awp_skip ?_
              (try simp only [AThen, ABlk, reduceIte, zF]); refine hK9 _ ?_
              refine awp_seq' fun K10 hK10 => ?_
              refine awp_block ?_
              refine awp_seq' fun K hK => ?_
              refine awp_region tyOk tyPos [] rfl ?_
              all_goals simp only [push_cast, ↓brB_true, ↓brB_false, ↓reduceIte, zA, zB, zC, zD, zE, zF, zG, zH, zI, reduceCtorEq]
              all_goals repeat' (first | (apply brB_mk <;> (intro hg; (try simp only [push_cast] at hg))) | apply And.intro | (intro hg; (try simp only [push_cast] at hg)))
              all_goals first | exact gA | (exact getE_dPls (by omega)) | skip
              all_goals first | (refine hK _ ?_; clear hK K) | (simp only [push_cast]; done)
              refine awp_seq' fun K hK => ?_
              refine awp_region tyOk tyPos [] rfl ?_
              all_goals refine aops_cut 4 fun K9 hK9 => ?_
              all_goals simp only [push_cast, ↓brB_true, ↓brB_false, ↓reduceIte, zA, zB, zC, zD, zE, zF, zG, zH, zI, reduceCtorEq]
              all_goals repeat' (first | (apply brB_mk <;> (intro hg; (try simp only [push_cast] at hg))) | (refine ⟨_, l17Find_fn (rowT (nxL ps (gq (stQ (usA a) (rcR ps) ⟨s, iotR ps.length⟩ i) i).record (gq (stQ (usA a) (rcR ps) ⟨s, iotR ps.length⟩ i) i).at_) (gl a.next (gq (stQ (usA a) (rcR ps) ⟨s, iotR ps.length⟩ i) i).at_.toNat) (stQ (usA a) (rcR ps) ⟨s, iotR ps.length⟩ i) k).1 hQr (gi (gl a.next (gq (stQ (usA a) (rcR ps) ⟨s, iotR ps.length⟩ i) i).at_.toNat) k) (nxL ps (gq (stQ (usA a) (rcR ps) ⟨s, iotR ps.length⟩ i) i).record (gq (stQ (usA a) (rcR ps) ⟨s, iotR ps.length⟩ i) i).at_) (by omega), ?_⟩; simp only [push_cast, ↓brB_true, ↓brB_false, ↓reduceIte, zA, zB, zC, zD, zE, zF, zG, zH, zI, reduceCtorEq]) | apply And.intro | (intro hg; (try simp only [push_cast] at hg)))
              all_goals first | exact gA | (exact getE_dPls (by omega)) | skip
              all_goals first | (refine hK9 _ ?_; clear hK9 K9) | (simp only [push_cast]; done)
              all_goals simp only [push_cast, ↓brB_true, ↓brB_false, ↓reduceIte, zA, zB, zC, zD, zE, zF, zG, zH, zI, reduceCtorEq]
              all_goals repeat' (first | (apply brB_mk <;> (intro hg; (try simp only [push_cast] at hg))) | (refine ⟨_, l17Find_fn (rowT (nxL ps (gq (stQ (usA a) (rcR ps) ⟨s, iotR ps.length⟩ i) i).record (gq (stQ (usA a) (rcR ps) ⟨s, iotR ps.length⟩ i) i).at_) (gl a.next (gq (stQ (usA a) (rcR ps) ⟨s, iotR ps.length⟩ i) i).at_.toNat) (stQ (usA a) (rcR ps) ⟨s, iotR ps.length⟩ i) k).1 hQr (gi (gl a.next (gq (stQ (usA a) (rcR ps) ⟨s, iotR ps.length⟩ i) i).at_.toNat) k) (nxL ps (gq (stQ (usA a) (rcR ps) ⟨s, iotR ps.length⟩ i) i).record (gq (stQ (usA a) (rcR ps) ⟨s, iotR ps.length⟩ i) i).at_) (by omega), ?_⟩; simp only [push_cast, ↓brB_true, ↓brB_false, ↓reduceIte, zA, zB, zC, zD, zE, zF, zG, zH, zI, reduceCtorEq]) | apply And.intro | (intro hg; (try simp only [push_cast] at hg)))
              all_goals first | exact gA | (exact getE_dPls (by omega)) | skip
              all_goals first | (refine hK _ ?_; clear hK K) | (simp only [push_cast]; done)
              refine awp_seq' fun K11 hK11 => ?_
              refine awp_seq' fun K hK => ?_
              refine awp_region tyOk tyPos [] rfl ?_
              all_goals simp only [push_cast, ↓brB_true, ↓brB_false, ↓reduceIte, zA, zB, zC, zD, zE, zF, zG, zH, zI, reduceCtorEq]
              all_goals repeat' (first | (apply brB_mk <;> (intro hg; (try simp only [push_cast] at hg))) | apply And.intro | (intro hg; (try simp only [push_cast] at hg)))
              all_goals first | exact gA | (exact getE_dPls (by omega)) | skip
              all_goals first | (refine hK _ ?_; clear hK K) | (simp only [push_cast]; done)
              refine awp_cond rfl (fun hc => ?_) (fun hc => ?_) <;> (try simp only [push_cast] at hc)
              ·
                refine awp_seq' fun K hK => ?_
                refine awp_region tyOk tyPos [] rfl ?_
                all_goals simp only [push_cast, ↓brB_true, ↓brB_false, ↓reduceIte, zA, zB, zC, zD, zE, zF, zG, zH, zI, reduceCtorEq]
                all_goals repeat' (first | (apply brB_mk <;> (intro hg; (try simp only [push_cast] at hg))) | apply And.intro | (intro hg; (try simp only [push_cast] at hg)))
                all_goals first | exact gA | (exact getE_dPls (by omega)) | skip
                all_goals first | (refine hK _ ?_; clear hK K) | (simp only [push_cast]; done)
                refine awp_seq' fun K12 hK12 => ?_
                refine awp_seq' fun K hK => ?_
                refine awp_region tyOk tyPos [] rfl ?_
                all_goals simp only [push_cast, ↓brB_true, ↓brB_false, ↓reduceIte, zA, zB, zC, zD, zE, zF, zG, zH, zI, reduceCtorEq]
                all_goals repeat' (first | (apply brB_mk <;> (intro hg; (try simp only [push_cast] at hg))) | apply And.intro | (intro hg; (try simp only [push_cast] at hg)))
                all_goals first | exact gA | (exact getE_dPls (by omega)) | skip
                all_goals first | (refine hK _ ?_; clear hK K) | (simp only [push_cast]; done)
                refine awp_cond rfl (fun hc => ?_) (fun hc => ?_) <;> (try simp only [push_cast] at hc)
                ·
                  refine awp_seq' fun K hK => ?_
                  refine awp_regionN false tyOk tyPos ?_ rfl ?_
                  · kernel_rfl
                  simp only [push_cast, ↓brB_true, ↓brB_false, ↓reduceIte, zA, zB, zC, zD, zE, zF, zG, zH, zI, reduceCtorEq]
                  all_goals repeat' (first | (apply brB_mk <;> (intro hg; (try simp only [push_cast] at hg))) | apply And.intro | (intro hg; (try simp only [push_cast] at hg)))
                  all_goals first | exact gA | (exact getE_dPls (by omega)) | skip
                  all_goals first | (refine hK _ ?_; clear hK K) | (simp only [push_cast]; done)
                  refine awp_ret ?_
                  (try simp only [AThen, ABlk])
                  refine ⟨Or.inl rfl, ?_⟩
                  simp only [RetOk, resVars, resVar, push_cast, ↓brB_true, ↓brB_false, ↓reduceIte, zA, zB, zC, zD, zE, zF, zG, zH, zI, reduceCtorEq]
                  obtain ⟨e1, e2, e3⟩ := rg_no2 (a := a) (ps := ps) (s := s) (okQ_no2 (i := i) (k := k) (by omega) (by omega) (by show k < (gl a.next (gq (stQ (usA a) (rcR ps) ⟨s, iotR ps.length⟩ i) i).at_.toNat).length; omega) (by show ixQ (sameQ (gi (gl a.next (gq (stQ (usA a) (rcR ps) ⟨s, iotR ps.length⟩ i) i).at_.toNat) k) (nxL ps (gq (stQ (usA a) (rcR ps) ⟨s, iotR ps.length⟩ i) i).record (gq (stQ (usA a) (rcR ps) ⟨s, iotR ps.length⟩ i) i).at_)) (rowT (nxL ps (gq (stQ (usA a) (rcR ps) ⟨s, iotR ps.length⟩ i) i).record (gq (stQ (usA a) (rcR ps) ⟨s, iotR ps.length⟩ i) i).at_) (gl a.next (gq (stQ (usA a) (rcR ps) ⟨s, iotR ps.length⟩ i) i).at_.toNat) (stQ (usA a) (rcR ps) ⟨s, iotR ps.length⟩ i) k).1 < 0; with_reducible assumption) (by show 256 ≤ (rowT (nxL ps (gq (stQ (usA a) (rcR ps) ⟨s, iotR ps.length⟩ i) i).record (gq (stQ (usA a) (rcR ps) ⟨s, iotR ps.length⟩ i) i).at_) (gl a.next (gq (stQ (usA a) (rcR ps) ⟨s, iotR ps.length⟩ i) i).at_.toNat) (stQ (usA a) (rcR ps) ⟨s, iotR ps.length⟩ i) k).1.length; omega))
                  rw [e1, e2, e3]
                  all_goals first | rfl | exact ⟨rfl, rfl⟩ | (simp [dI, dII, dPls]; done)
                ·
                  refine awp_skip ?_
                  (try simp only [AThen, ABlk, reduceIte, zF]); refine hK12 _ ?_
                  refine awp_regionM 7 15 1 1824 192 [192] tyOk tyPos ?_ rfl rfl rfl fun K9 hK9 => ?_
                  · kernel_rfl
                  all_goals simp only [push_cast, ↓brB_true, ↓brB_false, ↓reduceIte, zA, zB, zC, zD, zE, zF, zG, zH, zI, reduceCtorEq]
                  all_goals repeat' (first | (apply brB_mk <;> (intro hg; (try simp only [push_cast] at hg))) | apply And.intro | (intro hg; (try simp only [push_cast] at hg)))
                  all_goals first | exact gA | (exact getE_dPls (by omega)) | skip
                  all_goals first | (refine hK9 _ ?_; clear hK9 K9) | (simp only [push_cast]; done)
                  all_goals simp only [push_cast, ↓brB_true, ↓brB_false, ↓reduceIte, zA, zB, zC, zD, zE, zF, zG, zH, zI, reduceCtorEq]
                  all_goals repeat' (first | (apply brB_mk <;> (intro hg; (try simp only [push_cast] at hg))) | apply And.intro | (intro hg; (try simp only [push_cast] at hg)))
                  all_goals first | exact gA | (exact getE_dPls (by omega)) | skip
                  (try simp only [AThen, ABlk, reduceIte, zF]); refine hK11 _ ?_
                  refine awp_region tyOk tyPos [] rfl ?_
                  all_goals simp only [push_cast, ↓brB_true, ↓brB_false, ↓reduceIte, zA, zB, zC, zD, zE, zF, zG, zH, zI, reduceCtorEq]
                  all_goals repeat' (first | (apply brB_mk <;> (intro hg; (try simp only [push_cast] at hg))) | apply And.intro | (intro hg; (try simp only [push_cast] at hg)))
                  all_goals first | exact gA | (exact getE_dPls (by omega)) | skip
                  (try simp only [AThen, ABlk, reduceIte, zF]); refine hK10 _ ?_
                  refine awp_region tyOk tyPos [] rfl ?_
                  all_goals simp only [push_cast, ↓brB_true, ↓brB_false, ↓reduceIte, zA, zB, zC, zD, zE, zF, zG, zH, zI, reduceCtorEq]
                  all_goals repeat' (first | (apply brB_mk <;> (intro hg; (try simp only [push_cast] at hg))) | apply And.intro | (intro hg; (try simp only [push_cast] at hg)))
                  all_goals first | exact gA | (exact getE_dPls (by omega)) | skip
                  refine hL2 _ ⟨k + 1, ⟨by omega, (by rw [rowT_new (by omega) (by with_reducible assumption), List.length_append, List.length_singleton]; omega)⟩, by omega, ?_⟩
                  (try rw [List.take_of_length_le (l := (rowT (nxL ps (gq (stQ (usA a) (rcR ps) ⟨s, iotR ps.length⟩ i) i).record (gq (stQ (usA a) (rcR ps) ⟨s, iotR ps.length⟩ i) i).at_) (gl a.next (gq (stQ (usA a) (rcR ps) ⟨s, iotR ps.length⟩ i) i).at_.toNat) (stQ (usA a) (rcR ps) ⟨s, iotR ps.length⟩ i) k).2) (by omega)])
                  rw [rowT_new (by omega) (by with_reducible assumption)]
                  refine cov_of rfl ?_ ?_ ?_ <;> simp only [covS, covL, push_cast, ↓brB_true, ↓brB_false, ↓reduceIte, zA, zB, zC, zD, zE, zF, zG, zH, zI, reduceCtorEq]
                  all_goals first | rfl | (rw [List.length_append]; rfl) | exact ⟨rfl, rfl⟩ | skip
              ·
                refine awp_skip ?_
                (try simp only [AThen, ABlk, reduceIte, zF]); refine hK11 _ ?_
                refine awp_region tyOk tyPos [] rfl ?_
                all_goals simp only [push_cast, ↓brB_true, ↓brB_false, ↓reduceIte, zA, zB, zC, zD, zE, zF, zG, zH, zI, reduceCtorEq]
                all_goals repeat' (first | (apply brB_mk <;> (intro hg; (try simp only [push_cast] at hg))) | apply And.intro | (intro hg; (try simp only [push_cast] at hg)))
                all_goals first | exact gA | (exact getE_dPls (by omega)) | skip
                (try simp only [AThen, ABlk, reduceIte, zF]); refine hK10 _ ?_
                refine awp_region tyOk tyPos [] rfl ?_
                all_goals simp only [push_cast, ↓brB_true, ↓brB_false, ↓reduceIte, zA, zB, zC, zD, zE, zF, zG, zH, zI, reduceCtorEq]
                all_goals repeat' (first | (apply brB_mk <;> (intro hg; (try simp only [push_cast] at hg))) | apply And.intro | (intro hg; (try simp only [push_cast] at hg)))
                all_goals first | exact gA | (exact getE_dPls (by omega)) | skip
                refine hL2 _ ⟨k + 1, ⟨by omega, (by rw [rowT_old (by omega) (by with_reducible assumption)]; omega)⟩, by omega, ?_⟩
                (try rw [List.take_of_length_le (l := (rowT (nxL ps (gq (stQ (usA a) (rcR ps) ⟨s, iotR ps.length⟩ i) i).record (gq (stQ (usA a) (rcR ps) ⟨s, iotR ps.length⟩ i) i).at_) (gl a.next (gq (stQ (usA a) (rcR ps) ⟨s, iotR ps.length⟩ i) i).at_.toNat) (stQ (usA a) (rcR ps) ⟨s, iotR ps.length⟩ i) k).2) (by omega)])
                rw [rowT_old (by omega) (by with_reducible assumption)]
                refine cov_of rfl ?_ ?_ ?_ <;> simp only [covS, covL, push_cast, ↓brB_true, ↓brB_false, ↓reduceIte, zA, zB, zC, zD, zE, zF, zG, zH, zI, reduceCtorEq]
                all_goals first | rfl | (rw [List.length_append]; rfl) | exact ⟨rfl, rfl⟩ | skip
            ·
              refine awp_exit ?_
              have hkk : k = (gl a.next (gq (stQ (usA a) (rcR ps) ⟨s, iotR ps.length⟩ i) i).at_.toNat).length := by omega
              subst hkk
              (try simp only [AThen, ABlk, reduceIte, zF]); refine hK8 _ ?_
              refine awp_seq' fun K hK => ?_
              refine awp_regionD1 false tyOk tyPos tyMix ?_ rfl ?_
              · kernel_rfl
              intro E hE
              all_goals simp only [push_cast, ↓brB_true, ↓brB_false, ↓reduceIte, zA, zB, zC, zD, zE, zF, zG, zH, zI, reduceCtorEq]
              all_goals repeat' (first | (apply brB_mk <;> (intro hg; (try simp only [push_cast] at hg))) | apply And.intro | (intro hg; (try simp only [push_cast] at hg)))
              all_goals first | exact gA | (refine hE _ _ ?_ ?_; kernel_rfl) | (exact getE_dPls (by omega)) | skip
              all_goals clear hE E
              all_goals first | (refine hK _ ?_; clear hK K) | (simp only [push_cast]; done)
              have hSo : Fn Try.prog tyT 67 [.c (DI (List.take (gl a.next (gq (stQ (usA a) (rcR ps) ⟨s, iotR ps.length⟩ i) i).at_.toNat).length (rowT (nxL ps (gq (stQ (usA a) (rcR ps) ⟨s, iotR ps.length⟩ i) i).record (gq (stQ (usA a) (rcR ps) ⟨s, iotR ps.length⟩ i) i).at_) (gl a.next (gq (stQ (usA a) (rcR ps) ⟨s, iotR ps.length⟩ i) i).at_.toNat) (stQ (usA a) (rcR ps) ⟨s, iotR ps.length⟩ i) (gl a.next (gq (stQ (usA a) (rcR ps) ⟨s, iotR ps.length⟩ i) i).at_.toNat).length).2))] [.c (DI (sortI (rowT (nxL ps (gq (stQ (usA a) (rcR ps) ⟨s, iotR ps.length⟩ i) i).record (gq (stQ (usA a) (rcR ps) ⟨s, iotR ps.length⟩ i) i).at_) (gl a.next (gq (stQ (usA a) (rcR ps) ⟨s, iotR ps.length⟩ i) i).at_.toNat) (stQ (usA a) (rcR ps) ⟨s, iotR ps.length⟩ i) (gl a.next (gq (stQ (usA a) (rcR ps) ⟨s, iotR ps.length⟩ i) i).at_.toNat).length).2))] := by rw [List.take_of_length_le (l := (rowT (nxL ps (gq (stQ (usA a) (rcR ps) ⟨s, iotR ps.length⟩ i) i).record (gq (stQ (usA a) (rcR ps) ⟨s, iotR ps.length⟩ i) i).at_) (gl a.next (gq (stQ (usA a) (rcR ps) ⟨s, iotR ps.length⟩ i) i).at_.toNat) (stQ (usA a) (rcR ps) ⟨s, iotR ps.length⟩ i) (gl a.next (gq (stQ (usA a) (rcR ps) ⟨s, iotR ps.length⟩ i) i).at_.toNat).length).2) (by omega)]; exact l17Sorted_fn _ (by omega)
              refine awp_seq' fun K hK => ?_
              refine awp_regionD1 false tyOk tyPos tyMix ?_ rfl ?_
              · kernel_rfl
              intro E hE
              all_goals refine lexF_cut 5 (by decide) fun K9 hK9 => ?_
              all_goals simp only [push_cast, ↓brB_true, ↓brB_false, ↓reduceIte, zA, zB, zC, zD, zE, zF, zG, zH, zI, reduceCtorEq]
              all_goals repeat' (first | (apply brB_mk <;> (intro hg; (try simp only [push_cast] at hg))) | (refine ⟨_, hSo, ?_⟩; simp only [push_cast, ↓brB_true, ↓brB_false, ↓reduceIte, zA, zB, zC, zD, zE, zF, zG, zH, zI, reduceCtorEq]) | apply And.intro | (intro hg; (try simp only [push_cast] at hg)))
              all_goals first | exact gA | (exact getE_dPls (by omega)) | skip
              all_goals first | (refine hK9 _ _ ?_; clear hK9 K9) | (simp only [push_cast]; done)
              all_goals simp only [push_cast, ↓brB_true, ↓brB_false, ↓reduceIte, zA, zB, zC, zD, zE, zF, zG, zH, zI, reduceCtorEq]
              all_goals repeat' (first | (apply brB_mk <;> (intro hg; (try simp only [push_cast] at hg))) | (refine ⟨_, hSo, ?_⟩; simp only [push_cast, ↓brB_true, ↓brB_false, ↓reduceIte, zA, zB, zC, zD, zE, zF, zG, zH, zI, reduceCtorEq]) | apply And.intro | (intro hg; (try simp only [push_cast] at hg)))
              all_goals first | exact gA | (refine hE _ _ ?_ ?_; kernel_rfl) | (exact getE_dPls (by omega)) | skip
              all_goals clear hE E
              all_goals first | (refine hK _ ?_; clear hK K) | (simp only [push_cast]; done)
              have hgi : gq (rowT (nxL ps (gq (stQ (usA a) (rcR ps) ⟨s, iotR ps.length⟩ i) i).record (gq (stQ (usA a) (rcR ps) ⟨s, iotR ps.length⟩ i) i).at_) (gl a.next (gq (stQ (usA a) (rcR ps) ⟨s, iotR ps.length⟩ i) i).at_.toNat) (stQ (usA a) (rcR ps) ⟨s, iotR ps.length⟩ i) (gl a.next (gq (stQ (usA a) (rcR ps) ⟨s, iotR ps.length⟩ i) i).at_.toNat).length).1 i = (gq (stQ (usA a) (rcR ps) ⟨s, iotR ps.length⟩ i) i) := rowT_gq (by omega) (Nat.le_refl _)
              have hPq : Fn Try.prog tyT 80 [.c (.lst 99 (dII (ilv ps))), .c (DI (List.take (gq (stQ (usA a) (rcR ps) ⟨s, iotR ps.length⟩ i) i).record.length (gq (rowT (nxL ps (gq (stQ (usA a) (rcR ps) ⟨s, iotR ps.length⟩ i) i).record (gq (stQ (usA a) (rcR ps) ⟨s, iotR ps.length⟩ i) i).at_) (gl a.next (gq (stQ (usA a) (rcR ps) ⟨s, iotR ps.length⟩ i) i).at_.toNat) (stQ (usA a) (rcR ps) ⟨s, iotR ps.length⟩ i) (gl a.next (gq (stQ (usA a) (rcR ps) ⟨s, iotR ps.length⟩ i) i).at_.toNat).length).1 i).record)), .c (.int .i64 (gq (stQ (usA a) (rcR ps) ⟨s, iotR ps.length⟩ i) i).at_)] [.c (.int .i64 (prioP ps (gq (stQ (usA a) (rcR ps) ⟨s, iotR ps.length⟩ i) i).record (gq (stQ (usA a) (rcR ps) ⟨s, iotR ps.length⟩ i) i).at_))] := by rw [hgi, List.take_length]; exact l17PrioL_fn ps hp _ _ hP.2.2
              refine awp_regionD1 false tyOk tyPos tyMix ?_ rfl ?_
              · kernel_rfl
              intro E hE
              all_goals refine lexF_cut 8 (by decide) fun K9 hK9 => ?_
              all_goals simp only [push_cast, ↓brB_true, ↓brB_false, ↓reduceIte, zA, zB, zC, zD, zE, zF, zG, zH, zI, reduceCtorEq]
              all_goals repeat' (first | (apply brB_mk <;> (intro hg; (try simp only [push_cast] at hg))) | (refine ⟨_, hPq, ?_⟩; simp only [push_cast, ↓brB_true, ↓brB_false, ↓reduceIte, zA, zB, zC, zD, zE, zF, zG, zH, zI, reduceCtorEq]) | apply And.intro | (intro hg; (try simp only [push_cast] at hg)))
              all_goals first | exact gA | (exact getE_dPls (by omega)) | skip
              all_goals first | (refine hK9 _ _ ?_; clear hK9 K9) | (simp only [push_cast]; done)
              all_goals simp only [push_cast, ↓brB_true, ↓brB_false, ↓reduceIte, zA, zB, zC, zD, zE, zF, zG, zH, zI, reduceCtorEq]
              all_goals repeat' (first | (apply brB_mk <;> (intro hg; (try simp only [push_cast] at hg))) | (refine ⟨_, hPq, ?_⟩; simp only [push_cast, ↓brB_true, ↓brB_false, ↓reduceIte, zA, zB, zC, zD, zE, zF, zG, zH, zI, reduceCtorEq]) | apply And.intro | (intro hg; (try simp only [push_cast] at hg)))
              all_goals first | exact gA | (refine hE _ _ ?_ ?_; kernel_rfl) | (exact getE_dPls (by omega)) | skip
              all_goals clear hE E
              (try simp only [AThen, ABlk, reduceIte, zF]); refine hK7 _ ?_
              refine awp_settleB [.sl 2, .sl 22, .sl 2] 13 ?_
              simp only [push_cast, ↓brB_true, ↓brB_false, ↓reduceIte, zA, zB, zC, zD, zE, zF, zG, zH, zI, reduceCtorEq]
              refine awp_region tyOk tyPos [] rfl ?_
              all_goals simp only [push_cast, ↓brB_true, ↓brB_false, ↓reduceIte, zA, zB, zC, zD, zE, zF, zG, zH, zI, reduceCtorEq]
              all_goals repeat' (first | (apply brB_mk <;> (intro hg; (try simp only [push_cast] at hg))) | apply And.intro | (intro hg; (try simp only [push_cast] at hg)))
              all_goals first | exact gA | (exact getE_dPls (by omega)) | skip
              have hst : (stQ (usA a) (rcR ps) ⟨s, iotR ps.length⟩ (i + 1)) = (rowT (nxL ps (gq (stQ (usA a) (rcR ps) ⟨s, iotR ps.length⟩ i) i).record (gq (stQ (usA a) (rcR ps) ⟨s, iotR ps.length⟩ i) i).at_) (gl a.next (gq (stQ (usA a) (rcR ps) ⟨s, iotR ps.length⟩ i) i).at_.toNat) (stQ (usA a) (rcR ps) ⟨s, iotR ps.length⟩ i) (gl a.next (gq (stQ (usA a) (rcR ps) ⟨s, iotR ps.length⟩ i) i).at_.toNat).length).1 := stQ_s (by omega)
              refine hL1 _ ⟨i + 1, ⟨by omega, (by rw [hst]; omega), (by rw [hst]; omega)⟩, by omega, ?_⟩
              (try rw [List.take_of_length_le (l := ownG a (rcR ps) ⟨s, iotR ps.length⟩ i) (by omega)])
              (try rw [List.take_of_length_le (l := nxG a (rcR ps) ⟨s, iotR ps.length⟩ i) (by omega)])
              (try rw [List.take_of_length_le (l := prG a (rcR ps) (prR ps) ⟨s, iotR ps.length⟩ i) (by omega)])
              rw [hst, ownG_s, nxG_s, prG_s, show plQ (usA a) (rcR ps) ⟨s, iotR ps.length⟩ i = (gq (stQ (usA a) (rcR ps) ⟨s, iotR ps.length⟩ i) i) from rfl, show nxQ (usA a) (rcR ps) ⟨s, iotR ps.length⟩ i = sortI (rowT (nxL ps (gq (stQ (usA a) (rcR ps) ⟨s, iotR ps.length⟩ i) i).record (gq (stQ (usA a) (rcR ps) ⟨s, iotR ps.length⟩ i) i).at_) (gl a.next (gq (stQ (usA a) (rcR ps) ⟨s, iotR ps.length⟩ i) i).at_.toNat) (stQ (usA a) (rcR ps) ⟨s, iotR ps.length⟩ i) (gl a.next (gq (stQ (usA a) (rcR ps) ⟨s, iotR ps.length⟩ i) i).at_.toNat).length).2 from rfl, show prR ps (gq (stQ (usA a) (rcR ps) ⟨s, iotR ps.length⟩ i) i) = (prioP ps (gq (stQ (usA a) (rcR ps) ⟨s, iotR ps.length⟩ i) i).record (gq (stQ (usA a) (rcR ps) ⟨s, iotR ps.length⟩ i) i).at_) from rfl]
              refine cov_of rfl ?_ ?_ ?_ <;> simp only [covS, covL, push_cast, ↓brB_true, ↓brB_false, ↓reduceIte, zA, zB, zC, zD, zE, zF, zG, zH, zI, reduceCtorEq]
              all_goals first | rfl | exact ⟨rfl, rfl, rfl, rfl⟩ | skip
        ·
          refine awp_exit ?_
          (try simp only [AThen, ABlk, reduceIte, zF]); refine hK5 _ ?_
          refine awp_seq' fun K hK => ?_
          refine awp_region tyOk tyPos [] rfl ?_
          all_goals simp only [push_cast, ↓brB_true, ↓brB_false, ↓reduceIte, zA, zB, zC, zD, zE, zF, zG, zH, zI, reduceCtorEq]
          all_goals repeat' (first | (apply brB_mk <;> (intro hg; (try simp only [push_cast] at hg))) | apply And.intro | (intro hg; (try simp only [push_cast] at hg)))
          all_goals first | exact gA | (exact getE_dPls (by omega)) | skip
          all_goals first | (refine hK _ ?_; clear hK K) | (simp only [push_cast]; done)
          refine awp_ret ?_
          (try simp only [AThen, ABlk])
          refine ⟨Or.inl rfl, ?_⟩
          simp only [RetOk, resVars, resVar, push_cast, ↓brB_true, ↓brB_false, ↓reduceIte, zA, zB, zC, zD, zE, zF, zG, zH, zI, reduceCtorEq]
          obtain ⟨e1, e2, e3⟩ := gmR_yes (a := a) (rc := rcR ps) (pr := prR ps) (p0 := ⟨s, iotR ps.length⟩) (i := i) hC hi (by omega) hil
          unfold rgG rgP rgB
          rw [e1, e2, e3]
          simp only [gmA, ho1, ho2, ho3]
          all_goals first | rfl | exact ⟨⟨⟨rfl, rfl⟩, ⟨rfl, rfl⟩, ⟨rfl, rfl⟩⟩, rfl, rfl⟩ | exact ⟨rfl, rfl⟩ | (simp; done)
end Go.Proofs.Ytklconkoamoabaa
