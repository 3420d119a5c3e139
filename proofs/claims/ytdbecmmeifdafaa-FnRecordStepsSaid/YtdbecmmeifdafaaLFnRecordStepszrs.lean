/- The statement on FnRecordSteps: a record stays a record, the pairs that were given come first, and the priority is the reference's. -/
import Derived.Test.YtdbecmmeifdafaaB4zrs
import Derived.Test.YtdbecmmeifdafaaB5zrs
import Derived.Test.YtdbecmmeifdafaaB9zrs
namespace Go.Proofs.Ytdbecmmeifdafaa
open Nat renaming reduceMod → zA, reduceMul → zB, reduceDiv → zC, reduceAdd → zD, reduceSub → zE, reduceEqDiff → zF, reduceBEq → zG, reduceLT → zH, reduceLeDiff → zI
open Go.RowKit
set_option linter.unusedVariables false
set_option linter.unusedSimpArgs false

namespace lawFnRecordSteps
open Go.ChangeShapes Go.WideShapes Go.ChangeAt Go.Joins
theorem own_law : ownKnob Try.prog.godebug = none := by kernel_rfl
theorem lay_law : laidOutB Try.prog = true := by kernel_rfl
attribute [-push_cast] rm
theorem any_ln (code : List Int) (j : Nat) : PLn 1048576 (anyP code j) := by
  have h0 := anyP_le code j
  refine ⟨by omega, fun p hp => ?_⟩
  have hb : ∀ j, (bsV code j).length ≤ 12 := bsV_le code
  have hd : ∀ p ∈ dwP code j, p.ask.length ≤ 6 ∧ p.give.length ≤ 6 := fun p hp => by
    unfold dwP at hp
    split at hp
    · rcases List.mem_append.1 hp with h | h
      · exact prs_mem code _ _ p h
      · rw [List.mem_singleton] at h
        rw [h]
        exact gp_of (P := fun p => p.ask.length ≤ 6 ∧ p.give.length ≤ 6) (prs_mem code _ _) ⟨by decide, by decide⟩ 0
    · exact prs_mem code _ _ p hp
  have h2 : p.ask.length ≤ 12 ∧ p.give.length ≤ 12 := by
    have hd2 : p ∈ dwP code j → p.ask.length ≤ 12 ∧ p.give.length ≤ 12 := fun h => by have := hd p h; omega
    unfold anyP at hp
    split at hp
    · split at hp
      · rcases List.mem_append.1 hp with h | h
        · exact hd2 h
        · rw [List.mem_singleton] at h
          rw [h]
          exact ⟨hb _, Nat.zero_le _⟩
      · split at hp
        · rcases List.mem_append.1 hp with h | h
          · exact hd2 h
          · rw [List.mem_singleton] at h
            rw [h]
            exact ⟨Nat.zero_le _, hb _⟩
        · rcases List.mem_append.1 hp with h | h
          · exact hd2 h
          · rw [List.eq_of_mem_replicate h]
            exact ⟨by decide, by decide⟩
    · exact hd2 hp
  exact ⟨Nat.le_trans h2.1 (by decide), Nat.le_trans h2.2 (by decide)⟩
theorem dr_rg (code : List Int) (k j : Nat) : drO code k j + drN code k j ≤ (drF code k j).length ∧ drN code k j ≤ k + 1 := by
  have hl := drB_len code j k
  unfold drO drN drF
  split
  · split
    · rw [List.length_append, List.length_singleton, hl]; omega
    · split
      · rw [List.length_set, hl]; omega
      · split <;> rw [hl] <;> omega
  · rw [hl]; omega
set_option maxRecDepth 20000 in
set_option maxHeartbeats 4000000 in
theorem law (code : List Int) (hl : code.length ≤ 9223372036854775807) (hbt : ∀ k, k < code.length → 0 ≤ gi code k ∧ gi code k ≤ 255) : Fn Try.prog tyT 7 [.c (.lst 5 (dU code))] [.c (.bool true)] := by
  have hBig := big_fn code hl
  refine Fn_of (fn := Try.f7) (ts := [2]) Try.func7 (by kernel_rfl) rfl rfl (by rw [Try.ntmps7]; exact Nat.le_of_ble_eq_true rfl) rfl (by simp only [szA, List.mem_cons, List.not_mem_nil, or_false, forall_eq_or_imp, forall_eq, VT.cells, szL]; try decide) ?_
  rw [Try.ntmps7]
  simp only [push_cast, ↓brB_true, ↓brB_false, ↓reduceIte, zA, zB, zC, zD, zE, zF, zG, zH, zI, reduceCtorEq]
  refine awp_seq' fun K hK => ?_
  refine awp_region tyOk tyPos [] rfl ?_
  all_goals simp only [push_cast, ↓brB_true, ↓brB_false, ↓reduceIte, zA, zB, zC, zD, zE, zF, zG, zH, zI, reduceCtorEq]
  all_goals repeat' (first | (apply brB_mk <;> (intro hg; (try simp only [push_cast] at hg))) | apply And.intro | (intro hg; (try simp only [push_cast] at hg)))
  all_goals first | exact gA | (exact getE_dII (by simp only [push_cast]; omega)) | (exact getE_dII (by omega)) | skip
  all_goals first | (refine hK _ ?_; clear hK K) | (simp only [push_cast]; done)
  refine awp_seq' fun K1 hK1 => ?_
  refine awp_seq' fun K hK => ?_
  refine awp_region tyOk tyPos [] rfl ?_
  all_goals refine aops_cut 2 fun K9 hK9 => ?_
  all_goals simp only [push_cast, ↓brB_true, ↓brB_false, ↓reduceIte, zA, zB, zC, zD, zE, zF, zG, zH, zI, reduceCtorEq]
  all_goals repeat' (first | (apply brB_mk <;> (intro hg; (try simp only [push_cast] at hg))) | (refine ⟨_, hBig, ?_⟩; simp only [push_cast, ↓brB_true, ↓brB_false, ↓reduceIte, zA, zB, zC, zD, zE, zF, zG, zH, zI, reduceCtorEq]) | apply And.intro | (intro hg; (try simp only [push_cast] at hg)))
  all_goals first | exact gA | (exact getE_dII (by simp only [push_cast]; omega)) | (exact getE_dII (by omega)) | skip
  all_goals first | (refine hK9 _ ?_; clear hK9 K9) | (simp only [push_cast]; done)
  all_goals simp only [push_cast, ↓brB_true, ↓brB_false, ↓reduceIte, zA, zB, zC, zD, zE, zF, zG, zH, zI, reduceCtorEq]
  all_goals repeat' (first | (apply brB_mk <;> (intro hg; (try simp only [push_cast] at hg))) | (refine ⟨_, hBig, ?_⟩; simp only [push_cast, ↓brB_true, ↓brB_false, ↓reduceIte, zA, zB, zC, zD, zE, zF, zG, zH, zI, reduceCtorEq]) | apply And.intro | (intro hg; (try simp only [push_cast] at hg)))
  all_goals first | exact gA | (exact getE_dII (by simp only [push_cast]; omega)) | (exact getE_dII (by omega)) | skip
  all_goals first | (refine hK _ ?_; clear hK K) | (simp only [push_cast]; done)
  refine awp_cond rfl (fun hc => ?_) (fun hc => ?_) <;> (try simp only [push_cast] at hc)
  ·
    refine awp_seq' fun K hK => ?_
    refine awp_region tyOk tyPos [] rfl ?_
    all_goals simp only [push_cast, ↓brB_true, ↓brB_false, ↓reduceIte, zA, zB, zC, zD, zE, zF, zG, zH, zI, reduceCtorEq]
    all_goals repeat' (first | (apply brB_mk <;> (intro hg; (try simp only [push_cast] at hg))) | apply And.intro | (intro hg; (try simp only [push_cast] at hg)))
    all_goals first | exact gA | (exact getE_dII (by simp only [push_cast]; omega)) | (exact getE_dII (by omega)) | skip
    all_goals first | (refine hK _ ?_; clear hK K) | (simp only [push_cast]; done)
    refine awp_ret ?_
    (try simp only [AThen, ABlk])
    refine ⟨Or.inl rfl, ?_⟩
    simp only [RetOk, push_cast, ↓brB_true, ↓brB_false, ↓reduceIte, zA, zB, zC, zD, zE, zF, zG, zH, zI, reduceCtorEq]
    skip
  ·
    refine awp_skip ?_
    (try simp only [AThen, ABlk, reduceIte, zF]); refine hK1 _ ?_
    have hby : BytesOk code := ⟨by omega, hbt⟩
    have hQ := draw_rec_fn code hby
    have hdr := dr_rg code (viK code 0) (anyJ code 0)
    have hal := anyP_le code 0
    have hpl := any_ln code 0
    rw [show viK code 0 = (anyP code 0).length from rfl] at hQ hdr
    generalize anyP code 0 = ps at hQ hdr hal hpl
    generalize drF code ps.length (anyJ code 0) = F at hQ hdr
    generalize drO code ps.length (anyJ code 0) = o at hQ hdr
    generalize drN code ps.length (anyJ code 0) = m at hQ hdr
    generalize viV code 0 = v at hQ
    obtain ⟨r, hrr⟩ : ∃ r, r = (F.drop o).take m := ⟨_, rfl⟩
    have hrl : r.length = m := by rw [hrr, List.length_take, List.length_drop]; omega
    have hNR := NextRecordI_fn ps hpl r (by omega) v
    have hRP := RecordPrioI_fn ps hpl r (by omega) v
    have hPO := PairsOkS_fn ps hpl 256
    have hRO := RecordOkS_fn r (by omega) ps.length
    have hRS := RecordPrioS_fn ps hpl r (by omega) v
    have hra : DI r = D.lst 2 (dI ((F.drop o).take m)) := by rw [hrr]
    rw [hra] at hNR hRP hRO hRS
    have hyes : prsB ps 256 = true → recB r ps.length = true → 0 ≤ v → v < 256 → canB ps r v = true := fun h1 h2 h3 h4 => by unfold canB; rw [← prsB_256, h1, h2, decide_eq_true ⟨h3, h4⟩]; rfl
    have hno : ¬ (prsB ps 256 = true ∧ recB r ps.length = true ∧ 0 ≤ v ∧ v < 256) → canB ps r v = false := fun h => by
      cases hb : canB ps r v with
      | false => rfl
      | true => have h9 := can_facts hb; rw [← prsB_256] at h9; exact absurd h9 h
    have hli := len_ilv ps
    have hgp := fun k => gp_le hpl k
    have hG := fun k => w6Has_fn (gp ps k).give v (hgp k).give
    refine awp_seq' fun K hK => ?_
    refine awp_regionQ0 15 tyOk tyPos [] rfl ?_
    all_goals simp only [push_cast, ↓brB_true, ↓brB_false, ↓reduceIte, zA, zB, zC, zD, zE, zF, zG, zH, zI, reduceCtorEq]
    all_goals repeat' (first | (apply brB_mk <;> (intro hg; (try simp only [push_cast] at hg))) | (refine ⟨_, _, hQ, ?_⟩; simp only [push_cast, ↓brB_true, ↓brB_false, ↓reduceIte, zA, zB, zC, zD, zE, zF, zG, zH, zI, reduceCtorEq]) | apply And.intro | (intro hg; (try simp only [push_cast] at hg)))
    all_goals first | exact gA | (exact getE_dII (by simp only [push_cast]; omega)) | (exact getE_dII (by omega)) | skip
    all_goals first | (refine hK _ ?_; clear hK K) | (simp only [push_cast]; done)
    refine awp_seq' fun K hK => ?_
    refine awp_region tyOk tyPos [] rfl ?_
    all_goals refine aops_cut 4 fun K9 hK9 => ?_
    all_goals simp only [push_cast, ↓brB_true, ↓brB_false, ↓reduceIte, zA, zB, zC, zD, zE, zF, zG, zH, zI, reduceCtorEq]
    all_goals repeat' (first | (apply brB_mk <;> (intro hg; (try simp only [push_cast] at hg))) | (refine ⟨_, hNR, ?_⟩; simp only [push_cast, ↓brB_true, ↓brB_false, ↓reduceIte, zA, zB, zC, zD, zE, zF, zG, zH, zI, reduceCtorEq]) | apply And.intro | (intro hg; (try simp only [push_cast] at hg)))
    all_goals first | exact gA | (exact getE_dII (by simp only [push_cast]; omega)) | (exact getE_dII (by omega)) | skip
    all_goals first | (refine hK9 _ ?_; clear hK9 K9) | (simp only [push_cast]; done)
    all_goals simp only [push_cast, ↓brB_true, ↓brB_false, ↓reduceIte, zA, zB, zC, zD, zE, zF, zG, zH, zI, reduceCtorEq]
    all_goals repeat' (first | (apply brB_mk <;> (intro hg; (try simp only [push_cast] at hg))) | (refine ⟨_, hNR, ?_⟩; simp only [push_cast, ↓brB_true, ↓brB_false, ↓reduceIte, zA, zB, zC, zD, zE, zF, zG, zH, zI, reduceCtorEq]) | apply And.intro | (intro hg; (try simp only [push_cast] at hg)))
    all_goals first | exact gA | (exact getE_dII (by simp only [push_cast]; omega)) | (exact getE_dII (by omega)) | skip
    all_goals first | (refine hK _ ?_; clear hK K) | (simp only [push_cast]; done)
    refine awp_seq' fun K hK => ?_
    refine awp_region tyOk tyPos [] rfl ?_
    all_goals refine aops_cut 4 fun K9 hK9 => ?_
    all_goals simp only [push_cast, ↓brB_true, ↓brB_false, ↓reduceIte, zA, zB, zC, zD, zE, zF, zG, zH, zI, reduceCtorEq]
    all_goals repeat' (first | (apply brB_mk <;> (intro hg; (try simp only [push_cast] at hg))) | (refine ⟨_, hRP, ?_⟩; simp only [push_cast, ↓brB_true, ↓brB_false, ↓reduceIte, zA, zB, zC, zD, zE, zF, zG, zH, zI, reduceCtorEq]) | apply And.intro | (intro hg; (try simp only [push_cast] at hg)))
    all_goals first | exact gA | (exact getE_dII (by simp only [push_cast]; omega)) | (exact getE_dII (by omega)) | skip
    all_goals first | (refine hK9 _ ?_; clear hK9 K9) | (simp only [push_cast]; done)
    all_goals simp only [push_cast, ↓brB_true, ↓brB_false, ↓reduceIte, zA, zB, zC, zD, zE, zF, zG, zH, zI, reduceCtorEq]
    all_goals repeat' (first | (apply brB_mk <;> (intro hg; (try simp only [push_cast] at hg))) | (refine ⟨_, hRP, ?_⟩; simp only [push_cast, ↓brB_true, ↓brB_false, ↓reduceIte, zA, zB, zC, zD, zE, zF, zG, zH, zI, reduceCtorEq]) | apply And.intro | (intro hg; (try simp only [push_cast] at hg)))
    all_goals first | exact gA | (exact getE_dII (by simp only [push_cast]; omega)) | (exact getE_dII (by omega)) | skip
    all_goals first | (refine hK _ ?_; clear hK K) | (simp only [push_cast]; done)
    refine awp_seq' fun K2 hK2 => ?_
    refine awp_seq' fun K hK => ?_
    refine awp_regionN false tyOk tyPos ?_ rfl ?_
    · kernel_rfl
    all_goals refine seqE_cut 2 fun K9 hK9 => ?_
    all_goals simp only [push_cast, ↓brB_true, ↓brB_false, ↓reduceIte, zA, zB, zC, zD, zE, zF, zG, zH, zI, reduceCtorEq]
    all_goals repeat' (first | (apply brB_mk <;> (intro hg; (try simp only [push_cast] at hg))) | (refine ⟨_, hPO, ?_⟩; simp only [push_cast, ↓brB_true, ↓brB_false, ↓reduceIte, zA, zB, zC, zD, zE, zF, zG, zH, zI, reduceCtorEq]) | (refine ⟨_, hRO, ?_⟩; simp only [push_cast, ↓brB_true, ↓brB_false, ↓reduceIte, zA, zB, zC, zD, zE, zF, zG, zH, zI, reduceCtorEq]) | apply And.intro | (intro hg; (try simp only [push_cast] at hg)))
    all_goals first | exact gA | (exact getE_dII (by simp only [push_cast]; omega)) | (exact getE_dII (by omega)) | skip
    all_goals first | (refine hK9 _ ?_; clear hK9 K9) | (simp only [push_cast]; done)
    all_goals refine seqE_cut 6 fun K9 hK9 => ?_
    all_goals simp only [push_cast, ↓brB_true, ↓brB_false, ↓reduceIte, zA, zB, zC, zD, zE, zF, zG, zH, zI, reduceCtorEq]
    all_goals repeat' (first | (apply brB_mk <;> (intro hg; (try simp only [push_cast] at hg))) | (refine ⟨_, hPO, ?_⟩; simp only [push_cast, ↓brB_true, ↓brB_false, ↓reduceIte, zA, zB, zC, zD, zE, zF, zG, zH, zI, reduceCtorEq]) | (refine ⟨_, hRO, ?_⟩; simp only [push_cast, ↓brB_true, ↓brB_false, ↓reduceIte, zA, zB, zC, zD, zE, zF, zG, zH, zI, reduceCtorEq]) | apply And.intro | (intro hg; (try simp only [push_cast] at hg)))
    all_goals first | exact gA | (exact getE_dII (by simp only [push_cast]; omega)) | (exact getE_dII (by omega)) | skip
    all_goals first | (refine hK9 _ ?_; clear hK9 K9) | (simp only [push_cast]; done)
    all_goals simp only [push_cast, ↓brB_true, ↓brB_false, ↓reduceIte, zA, zB, zC, zD, zE, zF, zG, zH, zI, reduceCtorEq]
    all_goals repeat' (first | (apply brB_mk <;> (intro hg; (try simp only [push_cast] at hg))) | (refine ⟨_, hPO, ?_⟩; simp only [push_cast, ↓brB_true, ↓brB_false, ↓reduceIte, zA, zB, zC, zD, zE, zF, zG, zH, zI, reduceCtorEq]) | (refine ⟨_, hRO, ?_⟩; simp only [push_cast, ↓brB_true, ↓brB_false, ↓reduceIte, zA, zB, zC, zD, zE, zF, zG, zH, zI, reduceCtorEq]) | apply And.intro | (intro hg; (try simp only [push_cast] at hg)))
    all_goals first | exact gA | (exact getE_dII (by simp only [push_cast]; omega)) | (exact getE_dII (by omega)) | skip
    all_goals first | (refine hK _ ?_; clear hK K) | (simp only [push_cast]; done)
    all_goals refine awp_cond rfl (fun hc => ?_) (fun hc => ?_)
    all_goals (first | (cases hc; done) | skip)
    all_goals (try simp only [push_cast] at hc)
    all_goals try (
        have hcb : canB ps r v = false := hno (by rintro ⟨h1, h2, h3, h4⟩; first | omega | exact absurd (h1.symm.trans (show prsB ps 256 = false by with_reducible assumption)) (by decide) | exact absurd (h2.symm.trans (show recB r ps.length = false by with_reducible assumption)) (by decide))
        rw [nxC_no hcb, prC_no hcb]
        refine awp_seq' fun K hK => ?_
        refine awp_regionN false tyOk tyPos ?_ rfl ?_
        · kernel_rfl
        all_goals simp only [push_cast, ↓brB_true, ↓brB_false, ↓reduceIte, zA, zB, zC, zD, zE, zF, zG, zH, zI, reduceCtorEq]
        all_goals repeat' (first | (apply brB_mk <;> (intro hg; (try simp only [push_cast] at hg))) | apply And.intro | (intro hg; (try simp only [push_cast] at hg)))
        all_goals first | exact gA | (exact getE_dII (by simp only [push_cast]; omega)) | (exact getE_dII (by omega)) | skip
        all_goals first | (refine hK _ ?_; clear hK K) | (simp only [push_cast]; done)
        all_goals (
            refine awp_ret ?_
            (try simp only [AThen, ABlk])
            refine ⟨Or.inl rfl, ?_⟩
            simp only [RetOk, push_cast, ↓brB_true, ↓brB_false, ↓reduceIte, zA, zB, zC, zD, zE, zF, zG, zH, zI, reduceCtorEq]
            all_goals first | rfl | skip)
        done)
    refine awp_skip ?_
    (try simp only [AThen, ABlk, reduceIte, zF]); refine hK2 _ ?_
    refine awp_seq' fun K3 hK3 => ?_
    have hcb : canB ps r v = true := hyes (by with_reducible assumption) (by with_reducible assumption) (by omega) (by omega)
    rw [nxC_yes hcb, prC_yes hcb]
    rw [prC_yes hcb] at hRS
    have hcr := (can_facts hcb).2.1
    have hnl := nxL_len ps r v
    have hrn := rec_next (ps := ps) (v := v) hcr
    have hRO2 := RecordOkI_fn (nxL ps r v) (by omega) ps.length
    rw [hrn] at hRO2
    have hNR2 := NextRecordI_fn ps hpl (nxL ps r v) (by omega) v
    rw [nxC_yes (by have h9 := can_facts hcb; unfold canB; rw [h9.1, hrn, decide_eq_true h9.2.2]; rfl), nxL_again] at hNR2
    have hLk := likeInts_same (nxL ps r v) (by omega)
    have hrgn := fun i hi => nxL_rg (ps := ps) (v := v) (i := i) hcr hi
    have hhas := fun i hi => nxL_has (ps := ps) (v := v) (i := i) hcr hi
    have hpr := prioV_le ps r v
    have hrl9 := (rec_facts hcr).1.2
    have hgl := gcN_le ps v
    generalize nxL ps r v = nx at *
    generalize prioV ps r v = pr at *
    refine awp_seq' fun K hK => ?_
    refine awp_regionN false tyOk tyPos ?_ rfl ?_
    · kernel_rfl
    all_goals refine seqE_cut 4 fun K9 hK9 => ?_
    all_goals simp only [push_cast, ↓brB_true, ↓brB_false, ↓reduceIte, zA, zB, zC, zD, zE, zF, zG, zH, zI, reduceCtorEq]
    all_goals repeat' (first | (apply brB_mk <;> (intro hg; (try simp only [push_cast] at hg))) | (refine ⟨_, hRO2, ?_⟩; simp only [push_cast, ↓brB_true, ↓brB_false, ↓reduceIte, zA, zB, zC, zD, zE, zF, zG, zH, zI, reduceCtorEq]) | apply And.intro | (intro hg; (try simp only [push_cast] at hg)))
    all_goals first | exact gA | (exact getE_dII (by simp only [push_cast]; omega)) | (exact getE_dII (by omega)) | skip
    all_goals first | (refine hK9 _ ?_; clear hK9 K9) | (simp only [push_cast]; done)
    all_goals refine seqE_cut 6 fun K9 hK9 => ?_
    all_goals simp only [push_cast, ↓brB_true, ↓brB_false, ↓reduceIte, zA, zB, zC, zD, zE, zF, zG, zH, zI, reduceCtorEq]
    all_goals repeat' (first | (apply brB_mk <;> (intro hg; (try simp only [push_cast] at hg))) | (refine ⟨_, hNR2, ?_⟩; simp only [push_cast, ↓brB_true, ↓brB_false, ↓reduceIte, zA, zB, zC, zD, zE, zF, zG, zH, zI, reduceCtorEq]) | apply And.intro | (intro hg; (try simp only [push_cast] at hg)))
    all_goals first | exact gA | (exact getE_dII (by simp only [push_cast]; omega)) | (exact getE_dII (by omega)) | skip
    all_goals first | (refine hK9 _ ?_; clear hK9 K9) | (simp only [push_cast]; done)
    all_goals refine seqE_cut 2 fun K9 hK9 => ?_
    all_goals simp only [push_cast, ↓brB_true, ↓brB_false, ↓reduceIte, zA, zB, zC, zD, zE, zF, zG, zH, zI, reduceCtorEq]
    all_goals repeat' (first | (apply brB_mk <;> (intro hg; (try simp only [push_cast] at hg))) | (refine ⟨_, hLk, ?_⟩; simp only [push_cast, ↓brB_true, ↓brB_false, ↓reduceIte, zA, zB, zC, zD, zE, zF, zG, zH, zI, reduceCtorEq]) | apply And.intro | (intro hg; (try simp only [push_cast] at hg)))
    all_goals first | exact gA | (exact getE_dII (by simp only [push_cast]; omega)) | (exact getE_dII (by omega)) | skip
    all_goals first | (refine hK9 _ ?_; clear hK9 K9) | (simp only [push_cast]; done)
    all_goals simp only [push_cast, ↓brB_true, ↓brB_false, ↓reduceIte, zA, zB, zC, zD, zE, zF, zG, zH, zI, reduceCtorEq]
    all_goals repeat' (first | (apply brB_mk <;> (intro hg; (try simp only [push_cast] at hg))) | (refine ⟨_, hRO2, ?_⟩; simp only [push_cast, ↓brB_true, ↓brB_false, ↓reduceIte, zA, zB, zC, zD, zE, zF, zG, zH, zI, reduceCtorEq]) | (refine ⟨_, hNR2, ?_⟩; simp only [push_cast, ↓brB_true, ↓brB_false, ↓reduceIte, zA, zB, zC, zD, zE, zF, zG, zH, zI, reduceCtorEq]) | (refine ⟨_, hLk, ?_⟩; simp only [push_cast, ↓brB_true, ↓brB_false, ↓reduceIte, zA, zB, zC, zD, zE, zF, zG, zH, zI, reduceCtorEq]) | apply And.intro | (intro hg; (try simp only [push_cast] at hg)))
    all_goals first | exact gA | (exact getE_dII (by simp only [push_cast]; omega)) | (exact getE_dII (by omega)) | skip
    all_goals first | (refine hK _ ?_; clear hK K) | (simp only [push_cast]; done)
    all_goals (
        refine awp_cond rfl (fun hc => ?_) (fun hc => ?_)
        skip
        · exfalso; first | (cases hc; done) | (simp only [push_cast] at hc; done) | (simp only [push_cast] at hc; omega) | omega
        refine awp_skip ?_
        (try simp only [AThen, ABlk, reduceIte, zF]); refine hK3 _ ?_
        refine awp_seq' fun K hK => ?_
        refine awp_region tyOk tyPos [] rfl ?_
        all_goals simp only [push_cast, ↓brB_true, ↓brB_false, ↓reduceIte, zA, zB, zC, zD, zE, zF, zG, zH, zI, reduceCtorEq]
        all_goals repeat' (first | (apply brB_mk <;> (intro hg; (try simp only [push_cast] at hg))) | apply And.intro | (intro hg; (try simp only [push_cast] at hg)))
        all_goals first | exact gA | (exact getE_dII (by simp only [push_cast]; omega)) | (exact getE_dII (by omega)) | skip
        all_goals first | (refine hK _ ?_; clear hK K) | (simp only [push_cast]; done)
        refine awp_seq' fun K4 hK4 => ?_
        refine awp_seq' fun K hK => ?_
        refine awp_region tyOk tyPos [] rfl ?_
        all_goals simp only [push_cast, ↓brB_true, ↓brB_false, ↓reduceIte, zA, zB, zC, zD, zE, zF, zG, zH, zI, reduceCtorEq]
        all_goals repeat' (first | (apply brB_mk <;> (intro hg; (try simp only [push_cast] at hg))) | apply And.intro | (intro hg; (try simp only [push_cast] at hg)))
        all_goals first | exact gA | (exact getE_dII (by simp only [push_cast]; omega)) | (exact getE_dII (by omega)) | skip
        all_goals first | (refine hK _ ?_; clear hK K) | (simp only [push_cast]; done)
        refine awp_block ?_
        refine awp_loopU [8,9,30,37,41,48,57,66,67,68,69,70,71,72,73,74,75,76,77,78,79,80] [] (fun (k : Nat) => [(9, .int .i64 k), (8, .int .i64 (gcN ps v k))]) (fun k => []) (fun k => []) (fun k => k ≤ ps.length) (fun k => ps.length - k) 0 ?_ (by omega) ?_
        ·
          rw [show gcN ps v 0 = 0 from by unfold gcN; rfl]
          refine cov_of rfl ?_ ?_ ?_ <;> simp only [covS, covL, push_cast, ↓brB_true, ↓brB_false, ↓reduceIte, zA, zB, zC, zD, zE, zF, zG, zH, zI, reduceCtorEq]
        · rintro k hk KL0 hL0
          have hgk := hgl k
          simp only [push_cast, ↓brB_true, ↓brB_false, ↓reduceIte, zA, zB, zC, zD, zE, zF, zG, zH, zI, reduceCtorEq]
          refine awp_seq' fun K5 hK5 => ?_
          refine awp_seq' fun K hK => ?_
          refine awp_region tyOk tyPos [] rfl ?_
          all_goals simp only [push_cast, ↓brB_true, ↓brB_false, ↓reduceIte, zA, zB, zC, zD, zE, zF, zG, zH, zI, reduceCtorEq]
          all_goals repeat' (first | (apply brB_mk <;> (intro hg; (try simp only [push_cast] at hg))) | apply And.intro | (intro hg; (try simp only [push_cast] at hg)))
          all_goals first | exact gA | (exact getE_dII (by simp only [push_cast]; omega)) | (exact getE_dII (by omega)) | skip
          all_goals first | (refine hK _ ?_; clear hK K) | (simp only [push_cast]; done)
          refine awp_cond rfl (fun hc => ?_) (fun hc => ?_) <;> (try simp only [push_cast] at hc)
          ·
            refine awp_skip ?_
            (try simp only [AThen, ABlk, reduceIte, zF]); refine hK5 _ ?_
            refine awp_seq' fun K6 hK6 => ?_
            refine awp_block ?_
            refine awp_seq' fun K hK => ?_
            refine awp_region tyOk tyPos [] rfl ?_
            all_goals refine aops_cut 7 fun K9 hK9 => ?_
            all_goals simp only [push_cast, ↓brB_true, ↓brB_false, ↓reduceIte, zA, zB, zC, zD, zE, zF, zG, zH, zI, reduceCtorEq]
            all_goals repeat' (first | (apply brB_mk <;> (intro hg; (try simp only [push_cast] at hg))) | (refine ⟨_, hG k, ?_⟩; simp only [push_cast, ↓brB_true, ↓brB_false, ↓reduceIte, zA, zB, zC, zD, zE, zF, zG, zH, zI, reduceCtorEq]) | apply And.intro | (intro hg; (try simp only [push_cast] at hg)))
            all_goals first | exact gA | (exact getE_dII (by simp only [push_cast]; omega)) | (exact getE_dII (by omega)) | skip
            all_goals first | (refine hK9 _ ?_; clear hK9 K9) | (simp only [push_cast]; done)
            all_goals simp only [push_cast, ↓brB_true, ↓brB_false, ↓reduceIte, zA, zB, zC, zD, zE, zF, zG, zH, zI, reduceCtorEq]
            all_goals repeat' (first | (apply brB_mk <;> (intro hg; (try simp only [push_cast] at hg))) | (refine ⟨_, hG k, ?_⟩; simp only [push_cast, ↓brB_true, ↓brB_false, ↓reduceIte, zA, zB, zC, zD, zE, zF, zG, zH, zI, reduceCtorEq]) | apply And.intro | (intro hg; (try simp only [push_cast] at hg)))
            all_goals first | exact gA | (exact getE_dII (by simp only [push_cast]; omega)) | (exact getE_dII (by omega)) | skip
            all_goals first | (refine hK _ ?_; clear hK K) | (simp only [push_cast]; done)
            refine awp_cond rfl (fun hc => ?_) (fun hc => ?_) <;> (try simp only [push_cast] at hc)
            ·
              refine awp_region tyOk tyPos [] rfl ?_
              all_goals simp only [push_cast, ↓brB_true, ↓brB_false, ↓reduceIte, zA, zB, zC, zD, zE, zF, zG, zH, zI, reduceCtorEq]
              all_goals repeat' (first | (apply brB_mk <;> (intro hg; (try simp only [push_cast] at hg))) | apply And.intro | (intro hg; (try simp only [push_cast] at hg)))
              all_goals first | exact gA | (exact getE_dII (by simp only [push_cast]; omega)) | (exact getE_dII (by omega)) | skip
              (try simp only [AThen, ABlk, reduceIte, zF]); refine hK6 _ ?_
              refine awp_region tyOk tyPos [] rfl ?_
              all_goals simp only [push_cast, ↓brB_true, ↓brB_false, ↓reduceIte, zA, zB, zC, zD, zE, zF, zG, zH, zI, reduceCtorEq]
              all_goals repeat' (first | (apply brB_mk <;> (intro hg; (try simp only [push_cast] at hg))) | apply And.intro | (intro hg; (try simp only [push_cast] at hg)))
              all_goals first | exact gA | (exact getE_dII (by simp only [push_cast]; omega)) | (exact getE_dII (by omega)) | skip
              refine hL0 _ ⟨k + 1, by omega, by omega, ?_⟩
              rw [gcN_yes (by with_reducible assumption)]
              refine cov_of rfl ?_ ?_ ?_ <;> simp only [covS, covL, push_cast, ↓brB_true, ↓brB_false, ↓reduceIte, zA, zB, zC, zD, zE, zF, zG, zH, zI, reduceCtorEq]
            ·
              refine awp_skip ?_
              (try simp only [AThen, ABlk, reduceIte, zF]); refine hK6 _ ?_
              refine awp_region tyOk tyPos [] rfl ?_
              all_goals simp only [push_cast, ↓brB_true, ↓brB_false, ↓reduceIte, zA, zB, zC, zD, zE, zF, zG, zH, zI, reduceCtorEq]
              all_goals repeat' (first | (apply brB_mk <;> (intro hg; (try simp only [push_cast] at hg))) | apply And.intro | (intro hg; (try simp only [push_cast] at hg)))
              all_goals first | exact gA | (exact getE_dII (by simp only [push_cast]; omega)) | (exact getE_dII (by omega)) | skip
              refine hL0 _ ⟨k + 1, by omega, by omega, ?_⟩
              rw [gcN_no (by with_reducible assumption)]
              refine cov_of rfl ?_ ?_ ?_ <;> simp only [covS, covL, push_cast, ↓brB_true, ↓brB_false, ↓reduceIte, zA, zB, zC, zD, zE, zF, zG, zH, zI, reduceCtorEq]
          ·
            refine awp_exit ?_
            have hkk : k = ps.length := by omega
            subst hkk
            (try simp only [AThen, ABlk, reduceIte, zF]); refine hK4 _ ?_
            refine awp_seq' fun K7 hK7 => ?_
            refine awp_seq' fun K hK => ?_
            refine awp_region tyOk tyPos [] rfl ?_
            all_goals simp only [push_cast, ↓brB_true, ↓brB_false, ↓reduceIte, zA, zB, zC, zD, zE, zF, zG, zH, zI, reduceCtorEq]
            all_goals repeat' (first | (apply brB_mk <;> (intro hg; (try simp only [push_cast] at hg))) | apply And.intro | (intro hg; (try simp only [push_cast] at hg)))
            all_goals first | exact gA | (exact getE_dII (by simp only [push_cast]; omega)) | (exact getE_dII (by omega)) | skip
            all_goals first | (refine hK _ ?_; clear hK K) | (simp only [push_cast]; done)
            refine awp_block ?_
            refine awp_loopU [2,10,30,37,41,48,57,81,82,83,84,85,86,87,88,89,90,91,92,93,94,95,96,97,98,99,100,101,102,103,104,105,106,107,108,109,110,111,112,113,114,115,116] [] (fun (k : Nat) => [(10, .int .i64 k)]) (fun k => []) (fun k => []) (fun k => k ≤ nx.length) (fun k => nx.length - k) 0 ?_ (by omega) ?_
            ·
              refine cov_of rfl ?_ ?_ ?_ <;> simp only [covS, covL, push_cast, ↓brB_true, ↓brB_false, ↓reduceIte, zA, zB, zC, zD, zE, zF, zG, zH, zI, reduceCtorEq]
            · rintro k hk KL1 hL1
              simp only [push_cast, ↓brB_true, ↓brB_false, ↓reduceIte, zA, zB, zC, zD, zE, zF, zG, zH, zI, reduceCtorEq]
              refine awp_seq' fun K8 hK8 => ?_
              refine awp_seq' fun K hK => ?_
              refine awp_region tyOk tyPos [] rfl ?_
              all_goals simp only [push_cast, ↓brB_true, ↓brB_false, ↓reduceIte, zA, zB, zC, zD, zE, zF, zG, zH, zI, reduceCtorEq]
              all_goals repeat' (first | (apply brB_mk <;> (intro hg; (try simp only [push_cast] at hg))) | apply And.intro | (intro hg; (try simp only [push_cast] at hg)))
              all_goals first | exact gA | (exact getE_dII (by simp only [push_cast]; omega)) | (exact getE_dII (by omega)) | skip
              all_goals first | (refine hK _ ?_; clear hK K) | (simp only [push_cast]; done)
              refine awp_cond rfl (fun hc => ?_) (fun hc => ?_) <;> (try simp only [push_cast] at hc)
              ·
                refine awp_skip ?_
                (try simp only [AThen, ABlk, reduceIte, zF]); refine hK8 _ ?_
                refine awp_seq' fun K9 hK9 => ?_
                refine awp_block ?_
                have hri := hrgn k (by omega)
                have hG3 := hG (gi nx k).toNat
                rw [hhas k (by omega)] at hG3
                refine awp_seq' fun K hK => ?_
                refine awp_regionN false tyOk tyPos ?_ rfl ?_
                · kernel_rfl
                all_goals refine seqE_cut 25 fun K9 hK9 => ?_
                all_goals simp only [push_cast, ↓brB_true, ↓brB_false, ↓reduceIte, zA, zB, zC, zD, zE, zF, zG, zH, zI, reduceCtorEq]
                all_goals repeat' (first | (apply brB_mk <;> (intro hg; (try simp only [push_cast] at hg))) | (refine ⟨_, hG3, ?_⟩; simp only [push_cast, ↓brB_true, ↓brB_false, ↓reduceIte, zA, zB, zC, zD, zE, zF, zG, zH, zI, reduceCtorEq]) | apply And.intro | (intro hg; (try simp only [push_cast] at hg)))
                all_goals first | exact gA | (exact getE_dII (by simp only [push_cast]; omega)) | (exact getE_dII (by omega)) | skip
                all_goals first | (refine hK9 _ ?_; clear hK9 K9) | (simp only [push_cast]; done)
                all_goals simp only [push_cast, ↓brB_true, ↓brB_false, ↓reduceIte, zA, zB, zC, zD, zE, zF, zG, zH, zI, reduceCtorEq]
                all_goals repeat' (first | (apply brB_mk <;> (intro hg; (try simp only [push_cast] at hg))) | (refine ⟨_, hG3, ?_⟩; simp only [push_cast, ↓brB_true, ↓brB_false, ↓reduceIte, zA, zB, zC, zD, zE, zF, zG, zH, zI, reduceCtorEq]) | apply And.intro | (intro hg; (try simp only [push_cast] at hg)))
                all_goals first | exact gA | (exact getE_dII (by simp only [push_cast]; omega)) | (exact getE_dII (by omega)) | skip
                all_goals first | (refine hK _ ?_; clear hK K) | (simp only [push_cast]; done)
                all_goals (
                    refine awp_cond rfl (fun hc => ?_) (fun hc => ?_)
                    skip
                    · exfalso; (rw [show decide (k < gcN ps v ps.length) = decide ((k : Int) < ((gcN ps v ps.length : Nat) : Int)) from decide_eq_decide.2 (by omega)] at hc; generalize decide ((k : Int) < ((gcN ps v ps.length : Nat) : Int)) = b at hc; cases b <;> cases hc)
                    refine awp_skip ?_
                    (try simp only [AThen, ABlk, reduceIte, zF]); refine hK9 _ ?_
                    refine awp_region tyOk tyPos [] rfl ?_
                    all_goals simp only [push_cast, ↓brB_true, ↓brB_false, ↓reduceIte, zA, zB, zC, zD, zE, zF, zG, zH, zI, reduceCtorEq]
                    all_goals repeat' (first | (apply brB_mk <;> (intro hg; (try simp only [push_cast] at hg))) | apply And.intro | (intro hg; (try simp only [push_cast] at hg)))
                    all_goals first | exact gA | (exact getE_dII (by simp only [push_cast]; omega)) | (exact getE_dII (by omega)) | skip
                    refine hL1 _ ⟨k + 1, by omega, by omega, ?_⟩
                    refine cov_of rfl ?_ ?_ ?_ <;> simp only [covS, covL, push_cast, ↓brB_true, ↓brB_false, ↓reduceIte, zA, zB, zC, zD, zE, zF, zG, zH, zI, reduceCtorEq])
              ·
                refine awp_exit ?_
                (try simp only [AThen, ABlk, reduceIte, zF]); refine hK7 _ ?_
                refine awp_seq' fun K hK => ?_
                refine awp_regionN false tyOk tyPos ?_ rfl ?_
                · kernel_rfl
                all_goals refine seqE_cut 5 fun K9 hK9 => ?_
                all_goals simp only [push_cast, ↓brB_true, ↓brB_false, ↓reduceIte, zA, zB, zC, zD, zE, zF, zG, zH, zI, reduceCtorEq]
                all_goals repeat' (first | (apply brB_mk <;> (intro hg; (try simp only [push_cast] at hg))) | (refine ⟨_, hRS, ?_⟩; simp only [push_cast, ↓brB_true, ↓brB_false, ↓reduceIte, zA, zB, zC, zD, zE, zF, zG, zH, zI, reduceCtorEq]) | apply And.intro | (intro hg; (try simp only [push_cast] at hg)))
                all_goals first | exact gA | (exact getE_dII (by simp only [push_cast]; omega)) | (exact getE_dII (by omega)) | skip
                all_goals first | (refine hK9 _ ?_; clear hK9 K9) | (simp only [push_cast]; done)
                all_goals simp only [push_cast, ↓brB_true, ↓brB_false, ↓reduceIte, zA, zB, zC, zD, zE, zF, zG, zH, zI, reduceCtorEq]
                all_goals repeat' (first | (apply brB_mk <;> (intro hg; (try simp only [push_cast] at hg))) | (refine ⟨_, hRS, ?_⟩; simp only [push_cast, ↓brB_true, ↓brB_false, ↓reduceIte, zA, zB, zC, zD, zE, zF, zG, zH, zI, reduceCtorEq]) | apply And.intro | (intro hg; (try simp only [push_cast] at hg)))
                all_goals first | exact gA | (exact getE_dII (by simp only [push_cast]; omega)) | (exact getE_dII (by omega)) | skip
                all_goals first | (refine hK _ ?_; clear hK K) | (simp only [push_cast]; done)
                all_goals (
                    refine awp_ret ?_
                    (try simp only [AThen, ABlk])
                    refine ⟨Or.inl rfl, ?_⟩
                    simp only [RetOk, push_cast, ↓brB_true, ↓brB_false, ↓reduceIte, zA, zB, zC, zD, zE, zF, zG, zH, zI, reduceCtorEq]
                    all_goals first | rfl | omega | exact decide_eq_true (by omega) | skip))
set_option maxRecDepth 100000 in
theorem RecordSteps_lifted (os : Os) (started : os.Started) (H : Type) (enc : TypeId × Value → H) :
    ReturnsInHanded {} Try.checked os 7 .any (Rows.fnRecordStepsSpec.pre6 enc Try.prog Try.f7 Rows.fnRecordStepsRow.domain false) (Rows.fnRecordStepsSpec.post enc Try.prog Try.f7 false true false false) := by
  refine returnsInHanded_of_change (C := Try.checked) own_law started (by kernel_rfl) Try.func7
    (ChangeSpec.witness6 (enc := enc) (C := Try.checked) false ⟨#[], #[.slice none 0 0], []⟩ 8 (by kernel_rfl) (by kernel_rfl) (by kernel_rfl) (by kernel_rfl)) ?_
  intro W base args ds gs before hval0 hW hcnd _
  have hval : ∀ (j : Nat) t v, Try.f7.params[j]? = some t → args[j]? = some v → Value.okWide Try.prog W .any base t v := hval0
  have hW0 := hW
  obtain ⟨p, q, hA0, hV, rfl, hfz, hnd⟩ := hW
  have hA : DataW.TrodAll enc Try.prog W 0 (fun _ => true) true Try.f7.params.toList args.toList ds p := hA0
  obtain ⟨rfl, rfl⟩ := trodVars_none hV
  have hlt : ∀ x ∈ p, x.block < W.heap.size := fun x hx => hW0.lt x (by simp [hx])
  rw [Try.params7] at hA hval
  clear hA0 hval0 hV
  obtain ⟨v0, vs0, d0, ds0, p0, q0, hargs, rfl, rfl, h0, r0⟩ := trodAll_cons hA
  obtain ⟨rfl, rfl, rfl⟩ := trodAll_nil r0
  obtain rfl : args = #[v0] := by cases args; simp_all
  obtain ⟨a0, w0, g0, m0⟩ := arg_U (lo := W.heap.size) (hval 0 _ v0 rfl rfl) h0
  have hL := law a0 m0 g0
  refine (law_true (cargs := [v0]) hL (by simp only [ArgsR]; exact ⟨v0, _, rfl, w0, rfl⟩)).mono fun e W' he => ?_
  obtain ⟨rfl, hb⟩ := he
  exact ⟨_, rfl, law_post lay_law (by rw [Try.params7]; decide +kernel) (by kernel_rfl) Try.underlying4 rfl hW0 rfl rfl rfl hb (fun W' => okWide_bool_mk Try.underlying4 true)⟩

theorem RecordSteps_over : Rows.fnRecordStepsRow.holds Try.pinned (OpenSpec.ofChange Rows.fnRecordStepsSpec) :=
  OpenClaim.holds_of_wide 7 Try.f7 rfl rfl rfl rfl rfl rfl rfl ⟨rfl, rfl, rfl, rfl, rfl⟩ rfl rfl rfl rfl rfl (by kernel_rfl) Try.func7 (by kernel_rfl)
    (of_decide_eq_true (by kernel_rfl)) (by unfold Func.isWrapper; first | (rw [if_pos (by decide +kernel)]; kernel_rfl) | (rw [if_neg (by decide +kernel)]; exact ⟨rfl, rfl⟩))
    (fun os started H enc _ => RecordSteps_lifted os started H enc)

theorem RecordSteps_holds : Rows.FnRecordStepsSaid := RecordSteps_over
end lawFnRecordSteps
end Go.Proofs.Ytdbecmmeifdafaa
